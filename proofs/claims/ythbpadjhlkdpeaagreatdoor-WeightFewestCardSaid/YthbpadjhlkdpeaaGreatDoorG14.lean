/- The parts Share, Sum, Mixed, Products of a proof, put together by program (merge.py). -/
import Derived.Test.YthbpadjhlkdpeaaGreatDoorG13
import Derived.Deep.AppendLies
import Derived.Test.YthbpadjhlkdpeaaGreatDoorG03
/- Lists that the call makes: shares. -/
namespace Go.Proofs.YthbpadjhlkdpeaaGreatDoor
open Go.RowKit Go.Shelf

theorem info_part : (Tryz.prog.info? 24).map (fun i => (i.zero, i.size, i.bytes)) = some (some (.agg #[.string ⟨#[]⟩, .string ⟨#[]⟩]), 2, 32) := by kernel_rfl
/-- The cells of a list of fractions. -/
def pcells : List PP → List Value
  | [] => []
  | p :: ps => .string p.1 :: .string p.2 :: pcells ps
theorem pcells_append (ps qs : List PP) : pcells (ps ++ qs) = pcells ps ++ pcells qs := by
  induction ps with
  | nil => rfl
  | cons p ps ih => simp [pcells, ih]
theorem pcells_length (ps : List PP) : (pcells ps).length = ps.length * 2 := by
  induction ps with
  | nil => rfl
  | cons p ps ih => simp [pcells, ih]; omega
theorem pcells_at : ∀ (ps : List PP) (j : Nat) (h : j < ps.length), (pcells ps)[j * 2]? = some (.string ps[j].1) ∧ (pcells ps)[j * 2 + 1]? = some (.string ps[j].2)
  | p :: ps, 0, _ => ⟨rfl, rfl⟩
  | p :: ps, j + 1, h => by
    have := pcells_at ps j (by simpa using h)
    simp only [pcells, List.getElem_cons_succ]
    rw [show (j + 1) * 2 = j * 2 + 1 + 1 by omega]
    exact this

/-- A list that the call has made. -/
def Own (w : World) (base : Nat) (v : Value) (ps : List PP) : Prop := w.ownsRow base 24 2 v ps.length (pcells ps)
theorem Own.nil (w : World) (base : Nat) : Own w base (.slice none 0 0) [] := World.ownsRow_nil w base _ 2
theorem Own.pl {w : World} {base : Nat} {v : Value} {ps : List PP} (h : Own w base v ps) : PL w v ps := by
  have h0 := h
  rcases h.2 with ⟨rfl, h1⟩ | ⟨g, cap, cur, rfl, hb, hg, hle, hcap, hr⟩
  · obtain rfl : ps = [] := List.eq_nil_of_length_eq_zero h1
    exact PL.nil w
  · refine ⟨_, cap, rfl, hle, hcap, fun _ => ⟨g, 0, rfl, (Array.getElem?_eq_some_iff.1 hg).1, fun j hj => ?_⟩⟩
    have h2 := pcells_at ps j hj
    have e1 := World.ownsRow.cellAt h0 (j * 2) (by omega)
    have e2 := World.ownsRow.cellAt h0 (j * 2 + 1) (by omega)
    rw [Nat.zero_add]
    rw [e1, e2]
    constructor
    · rw [← h2.1]
    · rw [← h2.2]
theorem Own.kept {w w' : World} {base : Nat} {v : Value} {ps : List PP} (h : Own w base v ps) (hk : ∀ g, base ≤ g → v.ownBlock = some g → w'.heap[g]? = w.heap[g]?) : Own w' base v ps := by
  obtain ⟨h1, h2⟩ := h
  refine ⟨h1, ?_⟩
  rcases h2 with h2 | ⟨g, cap, cur, rfl, hb, hg, hr⟩
  · exact .inl h2
  · exact .inr ⟨g, cap, cur, rfl, hb, by rw [hk g hb rfl]; exact hg, hr⟩
theorem Own.after {w w' : World} {base : Nat} {v : Value} {ps : List PP} (h : Own w base v ps) (hb : Below w.heap.size w w') : Own w' base v ps := by
  refine h.kept fun g _ hg => hb.block g ?_
  rcases h.2 with ⟨rfl, _⟩ | ⟨g', cap, cur, rfl, _, hg', _⟩
  · cases hg
  · have := Option.some.inj hg
    subst this
    exact (Array.getElem?_eq_some_iff.1 hg').1

/-- What a step of shares answers. -/
def SharePost (base : Nat) (ps : List PP) (q : Rat) (w : World) (e : Ending) (w' : World) : Prop :=
  ((∃ x y v, IsP q x y ∧ e = .returned v ∧ Own w' base v (ps ++ [(x, y)])) ∨ (¬ Fits q ∧ e = Broke 4)) ∧ Below base w w'

set_option maxRecDepth 100000 in
set_option maxHeartbeats 4000000 in
theorem share1_any {base ga : Nat} {a b : Rat} {s t u v : ByteArray} {vo : Value} {ps : List PP} {w : World} (ha : IsP a s t) (hb : IsP b u v) (hpos : 0 < b) (hown : Own w base vo ps) (hn : ps.length ≤ 600)
    (hga : ga < base) (hbase : base ≤ w.heap.size) (c0 : w.cell? ⟨ga, 0, none⟩ = some (.string u)) (c1 : w.cell? ⟨ga, 1, none⟩ = some (.string v)) (hT : Tabs w) :
    Calls Tryz.prog 128 #[vo, .agg #[.string s, .string t], .pointer (some ⟨ga, 0, none⟩)] w (SharePost base ps (a / b) w) := by
  obtain ⟨i0, hi, hz0, hz1, hz2⟩ := info_parts info_part
  have HR : Hid (∀ x y n, Bi s t u v (DivA (ratP s t) (ratP u v)) x y n → Ans (a / b) x y n) := fun x y n h => by
    have h1 := h.both ha.ok hb.ok
    rw [ha.rat, hb.rat] at h1
    rcases h1 with ⟨h0, _⟩ | ⟨_, h1⟩
    · rw [h0] at hpos; exact absurd hpos (by decide)
    · exact h1
  obtain ⟨ls, lt⟩ := ha.limit
  obtain ⟨lu, lv⟩ := hb.limit
  have HT := Lib.hid hT
  have HO := Lib.hid hown
  have HC := Lib.hid (And.intro c0 c1)
  obtain ⟨po, no, co, rfl⟩ : ∃ p n c, vo = .slice p n c := by
    rcases hown.2 with ⟨h, _⟩ | ⟨g, cap, cur, h, _⟩
    · exact ⟨_, _, _, h⟩
    · exact ⟨_, _, _, h⟩
  clear hT ha hb hown c0 c1
  go_enter Tryz.func128, Tryz.ntmps128
  have HB1 : Hid (Below w.heap.size w (w.alloc (.cells #[.string s, .string t] 24))) := (Below.refl _ w).alloc (Nat.le_refl _) _
  have k0 := (HB1.out.cell (p := ⟨ga, 0, none⟩) (by show ga < _; omega)).trans HC.out.1
  have k1 := (HB1.out.cell (p := ⟨ga, 1, none⟩) (by show ga < _; omega)).trans HC.out.2
  go_wp2_with fail
  refine (div_rat s t u v _ ls lt lu lv (HT.out.below HB1.out (Nat.le_refl _))).mono ?_
  rintro e w2 ⟨x, y, n, rfl, hR, hb2⟩
  have HA := Lib.hid (HR.out x y n hR)
  have HB2 := Lib.hid (HB1.out.trans (hb2.mono (by simp)))
  clear hR hb2 k0 k1
  go_wp2_with fail
  refine (must_any x y n _).mono ?_
  rintro e w3 ⟨hE, hb3⟩
  have HB3 := Lib.hid (HB2.out.trans (hb3.mono HB2.out.size))
  clear hb3
  rcases hE with ⟨h0, rfl⟩ | ⟨h0, rfl⟩
  · have HP : Hid (IsP (a / b) x y) := HA.out.zero h0
    clear h0
    have HO3 := Lib.hid (HO.out.after HB3.out)
    have hownA : (w3.alloc (.cells #[.string x, .string y] 24)).ownsRow base 24 2 (.slice po no co) ps.length (pcells ps) := HO3.out.alloc _
    have hm1 : ps.length + 1 ≤ maxLen := by unfold maxLen; omega
    have hm2 : (ps.length + 1) * 32 ≤ 140737488355328 := by omega
    have hm3 : base ≤ (w3.alloc (.cells #[.string x, .string y] 24)).heap.size := by have := HB3.out.size; simp; omega
    have hnews : ∀ (j : Nat) (z : Value), ([.string x, .string y] : List Value)[j]? = some z → (w3.alloc (.cells #[.string x, .string y] 24)).cell? ((⟨w3.heap.size, 0, none⟩ : Addr).add j) = some z := World.news_of_block (World.alloc_heap_new w3 _)
    go_wp2_with (at_builtin; go_loud (refine wpList_append_own _ rfl (.tmp 6) (.tmp 13) 34 rfl base 24 i0 (.agg #[.string ⟨#[]⟩, .string ⟨#[]⟩]) 2 32 Tryz.underlying34 hi hz0 hz1 hz2 rfl (by decide) _ ps.length (pcells ps) rfl hownA ⟨w3.heap.size, 0, none⟩ 1 1 [.string x, .string y] rfl rfl hnews (by simp [Value.oneCell']) hm1 hm2 hm3 ?_); intro v' w4 hown4 hgrow4 _)
    have HB4 : Hid (Below base w w4) := ((HB3.out.mono hbase).alloc (by have := HB3.out.size; omega) _).grown hgrow4 (by simp; have := HB3.out.size; omega) (fun k hk => (World.ownsRow.lt hownA k hk).1)
    have HO4 : Hid (Own w4 base v' (ps ++ [(x, y)])) := by
      show w4.ownsRow _ _ _ _ _ _
      rw [List.length_append, pcells_append]; exact hown4
    clear hown4 hgrow4 hownA hnews hm1 hm2 hm3
    go_ret
    exact ⟨.inl ⟨_, _, _, HP.out, rfl, HO4.out⟩, HB4.out⟩
  · rcases HA.out with ⟨_, h1⟩ | ⟨h1, _, _, h2⟩
    · exact absurd h1 h0
    · subst h2
      have H1 := Lib.hid h1
      clear h1 h0
      unfold Broke
      go_wp2
      exact ⟨rfl, .inr ⟨H1.out, rfl⟩, HB3.out.mono hbase⟩

/-- Shares, as long as each fits. -/
def shareA (b : Rat) : List Rat → Option (List Rat)
  | [] => some []
  | q :: qs => if Fits (q / b) then (shareA b qs).map (q / b :: ·) else none
theorem shareA_all {b : Rat} : ∀ {qs rs : List Rat}, shareA b qs = some rs → rs = qs.map (· / b)
  | [], rs, h => by simp [shareA] at h; rw [h]; rfl
  | q :: qs, rs, h => by
    unfold shareA at h
    split at h
    · obtain ⟨r, h1, rfl⟩ := Option.map_eq_some_iff.1 h
      rw [shareA_all h1]; rfl
    · cases h
theorem shareA_fits {b : Rat} : ∀ {qs : List Rat}, (∀ q ∈ qs, Fits (q / b)) → shareA b qs = some (qs.map (· / b))
  | [], _ => rfl
  | q :: qs, h => by
    unfold shareA
    rw [if_pos (h q (List.mem_cons_self ..)), shareA_fits fun x hx => h x (List.mem_cons_of_mem _ hx)]; rfl

/-- What a list of shares answers. -/
def SharesPost (base : Nat) (r : Option (List Rat)) (w : World) (e : Ending) (w' : World) : Prop :=
  ((∃ rs ps v, r = some rs ∧ IsL rs ps ∧ e = .returned v ∧ Own w' base v ps) ∨ (r = none ∧ e = Broke 4)) ∧ Below base w w'

theorem IsL.snoc {qs : List Rat} {ps : List PP} (h : IsL qs ps) {q : Rat} {x y : ByteArray} (hq : IsP q x y) : IsL (qs ++ [q]) (ps ++ [(x, y)]) := by
  refine ⟨by simp [h.1], fun k h1 h2 => ?_⟩
  rcases Nat.lt_or_ge k ps.length with hk | hk
  · have hk' : k < qs.length := by rw [h.1]; exact hk
    rw [List.getElem_append_left hk', List.getElem_append_left hk]
    exact h.2 k hk' hk
  · have e1 : k = ps.length := by simp at h2; omega
    have e2 : k = qs.length := by rw [h.1]; exact e1
    rw [List.getElem_append_right (by omega), List.getElem_append_right (by omega)]
    simpa using hq
theorem IsL.nil : IsL [] [] := ⟨rfl, fun k h => by simp at h⟩

set_option maxRecDepth 100000 in
set_option maxHeartbeats 4000000 in
theorem foldShare_any {ga : Nat} {b : Rat} {cu cv : ByteArray} {v : Value} {qs : List Rat} {ps : List PP} {w : World} (hb : IsP b cu cv) (hpos : 0 < b) (hq : IsL qs ps) (hv : PL w v ps) (hn600 : ps.length ≤ 600)
    (hga : ga < w.heap.size) (c0 : w.cell? ⟨ga, 0, none⟩ = some (.string cu)) (c1 : w.cell? ⟨ga, 1, none⟩ = some (.string cv)) (hT : Tabs w) :
    Calls Tryz.prog 127 #[v, .slice none 0 0, .func (.func 128) #[] #[.pointer (some ⟨ga, 0, none⟩)]] w (SharesPost w.heap.size (shareA b qs) w) := by
  obtain ⟨p, cap, rfl, hcap, hmax, hp⟩ := hv
  obtain ⟨n, hn⟩ : ∃ n, ps.length = n := ⟨_, rfl⟩
  rw [hn] at hcap hn600 ⊢
  unfold maxLen at hmax
  have HN := Lib.hid hn
  have HB0 := Lib.hid hb
  have HC := Lib.hid (And.intro c0 c1)
  have HQ := Lib.hid hq
  have HT := Lib.hid hT
  have HP := Lib.hid hp
  clear hn hb hq hT hp c0 c1
  go_enter Tryz.func127, Tryz.ntmps127
  go_wp2
  go_loopw [1, 11] (fun vo i wr => ∃ (k : Nat) (rs : List Rat) (os : List PP), i = .int .i64 k ∧ k ≤ n ∧ Hid (IsL rs os) ∧ Hid (os.length = k) ∧ Hid (Own wr w.heap.size vo os) ∧ Hid (shareA b qs = (shareA b (qs.drop k)).map (rs ++ ·)) ∧ Hid (Below w.heap.size w wr)) (fun _ i _ => n - (intOf i).toNat)
  case atStart => exact ⟨0, [], [], rfl, Nat.zero_le _, IsL.nil, rfl, Own.nil _ _, by show _ = _; simp, Below.refl _ _⟩
  case round =>
    obtain ⟨k, rs, os, rfl, hk, HI, HL, HO, HS, HB⟩ := hrel
    by_cases hlt : k < n
    · obtain ⟨bb, off, rfl, hbl, hat⟩ := HP.out (List.ne_nil_of_length_pos (by rw [HN.out]; omega))
      have hkp : k < ps.length := by rw [HN.out]; exact hlt
      obtain ⟨e0, e1⟩ := (hat.below HB.out hbl) k hkp
      obtain ⟨s, hs⟩ : ∃ u, ps[k].1 = u := ⟨_, rfl⟩
      obtain ⟨t, ht⟩ : ∃ v, ps[k].2 = v := ⟨_, rfl⟩
      rw [hs] at e0
      rw [ht] at e1
      obtain ⟨q, hq⟩ : ∃ q, qs[k]'(by rw [HQ.out.length]; exact hkp) = q := ⟨_, rfl⟩
      have HU : Hid (IsP q s t) := by rw [← hq, ← hs, ← ht]; exact HQ.out.get k hkp
      have HD : Hid (qs.drop k = q :: qs.drop (k + 1)) := by show _ = _; rw [← hq]; exact List.drop_eq_getElem_cons _
      clear hat hkp hs ht hq
      have hsz := HB.out.size
      go_wp2_with fail
      have hal := (Below.refl wr.heap.size wr).alloc (Nat.le_refl _) (.cells #[.string s, .string t] 24)
      have hB2 : Below w.heap.size w (wr.alloc (.cells #[.string s, .string t] 24)) := HB.out.trans (hal.mono HB.out.size)
      refine (share1_any HU.out HB0.out hpos (HO.out.after hal) (by rw [HL.out]; omega) hga hB2.size ((hB2.cell (p := ⟨ga, 0, none⟩) hga).trans HC.out.1) ((hB2.cell (p := ⟨ga, 1, none⟩) hga).trans HC.out.2) (HT.out.below hB2 (Nat.le_refl _))).mono ?_
      rintro e w2 ⟨hE, hb2⟩
      have HB2 := Lib.hid (hB2.trans hb2)
      clear hb2 hal hB2 e0 e1
      rcases hE with ⟨x', y', v', h1, rfl, h2⟩ | ⟨h1, rfl⟩
      · have HI2 := Lib.hid (HI.out.snoc h1)
        have HO2 := Lib.hid h2
        have HL2 : Hid ((os ++ [(x', y')]).length = k + 1) := by show _ = _; rw [List.length_append, HL.out]; rfl
        have HS2 : Hid (shareA b qs = (shareA b (qs.drop (k + 1))).map ((rs ++ [q / b]) ++ ·)) := by
          show _ = _
          rw [HS.out, HD.out, shareA, if_pos h1.fits, Option.map_map]
          congr 1
          funext l
          simp
        clear h1 h2
        go_wp2
        go_roundw
        case rel => exact ⟨k + 1, _, _, by go_num, by omega, HI2, HL2, HO2, HS2, HB2⟩
        case measure => simp [intOf]; omega
      · have HN2 : Hid (shareA b qs = none) := by
          show _ = _
          rw [HS.out, HD.out, shareA, if_neg h1]; rfl
        clear h1
        unfold Broke
        go_wp2
        exact ⟨rfl, .inr ⟨HN2.out, rfl⟩, HB2.out⟩
    · have HS2 : Hid (shareA b qs = some rs) := by
        show _ = _
        rw [HS.out, List.drop_of_length_le (by rw [HQ.out.length, HN.out]; omega)]; simp [shareA]
      go_wp2
      go_ret
      exact ⟨.inl ⟨_, _, _, HS2.out, HI.out, rfl, HO.out⟩, HB.out⟩
end Go.Proofs.YthbpadjhlkdpeaaGreatDoor
/- weight's sum, share. -/
namespace Go.Proofs.YthbpadjhlkdpeaaGreatDoor
open Go.RowKit Go.Shelf



theorem isP_int {n : Nat} {x : List UInt8} (h : Lib.decDigits n = x) (hx : x.length ≤ 600) : IsP (n : Nat) (str x) (str [49]) := by
  have h1 : numD ((n : Nat) : Rat) = x := by unfold numD; rw [Rat.num_natCast, Int.toNat_natCast, h]
  have h2 : denD ((n : Nat) : Rat) = [49] := by unfold denD; rw [Rat.den_natCast, decDigits_one']
  exact ⟨Rat.natCast_nonneg, by rw [h1], by rw [h2], by unfold Fits; rw [h1, h2]; exact ⟨hx, by decide⟩⟩
theorem isP_zero : IsP 0 (⟨#[48]⟩ : ByteArray) (⟨#[49]⟩ : ByteArray) := by have := isP_int (n := 0) decDigits_zero (by decide); exact this
theorem isP_one : IsP 1 (⟨#[49]⟩ : ByteArray) (⟨#[49]⟩ : ByteArray) := by have := isP_int (n := 1) decDigits_one' (by decide); exact this

/-- A fraction's numerator says "0" just where it is 0. -/
theorem IsP.num_zero {q : Rat} {s t : ByteArray} (h : IsP q s t) : (s.toList == [48]) = true ↔ q = 0 := by
  have e : s.toList = s.data.toList := ByteArray.toList_eq ..
  rw [e, beq_iff_eq]
  constructor
  · intro h1
    refine h.inj isP_zero ?_ ?_ |>.trans rfl
    · rw [← str_eq s, h1]; rfl
    · have h2 : q.num.toNat = 0 := by rw [← h.vals.1, h1]; rfl
      have h3 := num_toNat h.nn
      rw [h2] at h3
      have h4 := Rat.num_eq_zero.1 h3.symm
      subst h4
      exact (h.same isP_zero rfl).2
  · rintro rfl
    rw [(h.same isP_zero rfl).1]
theorem IsP.pos {q : Rat} {s t : ByteArray} (h : IsP q s t) (h0 : q ≠ 0) : 0 < q := Rat.lt_of_le_of_ne h.nn (Ne.symm h0)

set_option maxRecDepth 100000 in
set_option maxHeartbeats 2000000 in
theorem sum_any {v : Value} {qs : List Rat} {ps : List PP} (hq : IsL qs ps) {w : World} (hv : PL w v ps) (hT : Tabs w) :
    Calls Tryz.prog 76 #[v] w (SumPost (sumA 0 qs) w) := by
  have HV := Lib.hid hv
  have HQ := Lib.hid hq
  have HT := Lib.hid hT
  obtain ⟨p, cap, rfl, _, _, _⟩ := hv
  obtain ⟨n, hn⟩ : ∃ n, ps.length = n := ⟨_, rfl⟩
  rw [hn] at HV ⊢
  clear hq hT hn
  go_enter Tryz.func76, Tryz.ntmps76
  go_wp2_with fail
  obtain ⟨w1, hw1⟩ : ∃ w1, w.alloc (.cells #[.string ⟨#[]⟩, .string ⟨#[]⟩] 24) = w1 := ⟨_, rfl⟩
  rw [hw1]
  have HX1 : Hid (Boxes w.heap.size [.cells #[.string ⟨#[]⟩, .string ⟨#[]⟩] 24] w1) := by rw [← hw1]; exact Boxes.one w _
  have HB1 : Hid (Below w.heap.size w w1) := by rw [← hw1]; exact (Below.refl _ w).alloc (Nat.le_refl _) _
  clear hw1
  refine (foldSum_any isP_zero HQ.out (HV.out.after HB1.out (Nat.le_refl _)) (HT.out.below HB1.out (Nat.le_refl _))).mono ?_
  rintro e w2 ⟨hE, hb2⟩
  have HX2 := Lib.hid (HX1.out.below hb2 HX1.out.lt)
  have HB2 := Lib.hid (HB1.out.trans (hb2.mono HB1.out.size))
  clear hb2
  rcases hE with ⟨q, x, y, h1, h2, rfl⟩ | ⟨h1, rfl⟩
  · have HS := Lib.hid (And.intro h1 h2)
    clear h1 h2
    have r0 := HX2.out.cell 0 0 (b := w.heap.size) rfl rfl rfl
    have r1 := HX2.out.cell 0 1 (b := w.heap.size) rfl rfl rfl
    have f0 := HX2.out.free 0 0 (b := w.heap.size) rfl rfl
    have f1 := HX2.out.free 0 1 (b := w.heap.size) rfl rfl
    go_wp2
    have q := two_put_cells (HX2.out.block 0 (b := w.heap.size) rfl rfl) (.string x) (.string y)
    have HBQ := Lib.hid (two_put_below HB2.out (b := w.heap.size) (Nat.le_refl _) (.string x) (.string y))
    obtain ⟨w9, hw9⟩ : ∃ w9, (w2.setCell ⟨w.heap.size, 0, none⟩ (.string x)).setCell ⟨w.heap.size, 1, none⟩ (.string y) = w9 := ⟨_, rfl⟩
    rw [hw9] at q HBQ
    obtain ⟨q0, q1⟩ := q
    rw [hw9]
    clear r0 r1 f0 f1 hw9
    refine bodyPost_ret (v := .agg #[.string x, .string y]) (by simp [results, Tryz.f76, go_sem, q0, q1]) rfl ⟨.inl ⟨_, _, _, HS.out.1, HS.out.2, rfl⟩, HBQ.out⟩
  · have H1 := Lib.hid h1
    clear h1
    unfold Broke
    go_wp2
    exact ⟨rfl, .inr ⟨H1.out, rfl⟩, HB2.out⟩

theorem Own.mono {w : World} {b c : Nat} {v : Value} {ps : List PP} (h : Own w c v ps) (hb : b ≤ c) : Own w b v ps := by
  obtain ⟨h1, h2⟩ := h
  refine ⟨h1, ?_⟩
  rcases h2 with h2 | ⟨g, cap, cur, hv, hb', hr⟩
  · exact .inl h2
  · exact .inr ⟨g, cap, cur, hv, by omega, hr⟩

/-- What share answers. -/
def SharesOf (b : Rat) (r : Option (List Rat)) (w : World) (e : Ending) (w' : World) : Prop := (b = 0 ∧ e = Broke 7 ∧ Below w.heap.size w w') ∨ (b ≠ 0 ∧ SharesPost w.heap.size r w e w')

set_option maxRecDepth 100000 in
set_option maxHeartbeats 2000000 in
theorem share_any {b : Rat} {cu cv : ByteArray} {v : Value} {qs : List Rat} {ps : List PP} {w : World} (hb : IsP b cu cv) (hq : IsL qs ps) (hv : PL w v ps) (hn600 : ps.length ≤ 600) (hT : Tabs w) :
    Calls Tryz.prog 77 #[v, .agg #[.string cu, .string cv]] w (SharesOf b (shareA b qs) w) := by
  have HV := Lib.hid hv
  have HQ := Lib.hid hq
  have HT := Lib.hid hT
  have HB := Lib.hid hb
  have HN := Lib.hid hn600
  obtain ⟨p, cap, rfl, _, _, _⟩ := hv
  obtain ⟨n, hn⟩ : ∃ n, ps.length = n := ⟨_, rfl⟩
  rw [hn] at HV ⊢
  clear hq hT hn hn600
  by_cases h0 : b = 0
  · have hz : (cu.toList == [48]) = true := hb.num_zero.2 h0
    have H0 := Lib.hid h0
    clear hb h0
    go_enter Tryz.func77, Tryz.ntmps77
    go_wp2
    exact ⟨rfl, .inl ⟨H0.out, rfl, (Below.refl _ w).alloc (Nat.le_refl _) _⟩⟩
  · have hz : (cu.toList == [48]) = false := by rw [Bool.eq_false_iff]; exact fun h => h0 (hb.num_zero.1 h)
    have H0 := Lib.hid h0
    clear hb h0
    have hmf : ∀ (fn : Fn) (first cap : Array Value) (w : World), (Instr.makeFunc fn first cap).run Tryz.prog w = .ok (.func fn first cap) w := fun _ _ _ _ => rfl
    go_enter Tryz.func77, Tryz.ntmps77
    go_wp2_with fail
    have HX1 := Lib.hid (Boxes.one w (.cells #[.string cu, .string cv] 24))
    have HB1 : Hid (Below w.heap.size w (w.alloc (.cells #[.string cu, .string cv] 24))) := (Below.refl _ w).alloc (Nat.le_refl _) _
    refine (foldShare_any HB.out (HB.out.pos H0.out) HQ.out (HV.out.after HB1.out (Nat.le_refl _)) HN.out (by simp) (HX1.out.cell 0 0 (b := w.heap.size) rfl rfl rfl) (HX1.out.cell 0 1 (b := w.heap.size) rfl rfl rfl) (HT.out.below HB1.out (Nat.le_refl _))).mono ?_
    rintro e w2 ⟨hE, hb2⟩
    have HB2 := Lib.hid (HB1.out.trans (hb2.mono (by simp)))
    clear hb2
    rcases hE with ⟨rs, os, v', h1, h2, rfl, h3⟩ | ⟨h1, rfl⟩
    · have HS := Lib.hid (And.intro h1 (And.intro h2 (h3.mono (b := w.heap.size) (by simp))))
      clear h1 h2 h3
      go_wp2
      go_ret
      exact .inr ⟨H0.out, .inl ⟨_, _, _, HS.out.1, HS.out.2.1, rfl, HS.out.2.2⟩, HB2.out⟩
    · have H1 := Lib.hid h1
      clear h1
      unfold Broke
      go_wp2
      exact ⟨rfl, .inr ⟨H0.out, .inr ⟨H1.out, rfl⟩, HB2.out⟩⟩
end Go.Proofs.YthbpadjhlkdpeaaGreatDoor
/- A region that draws its order, of reads and of writes in a forced order, in whatever mixture: each read is taken first as soon as it can come up; whatever writes comes up alone. In whatever order it goes, it comes to what the text's order comes to. -/
namespace Go.Proofs.YthbpadjhlkdpeaaGreatDoor
open Go.RowKit

section
variable {P : Program} {ops : Array Oper} {Q : Exit → Act → World → Prop} {md : Region.Mode} {S : World → Prop} {bar : Nat → Bool}

/-- The operations in the order of the text; true: a read. -/
def mixed (P : Program) (ops : Array Oper) (Q : Exit → Act → World → Prop) (S : World → Prop) (bar : Nat → Bool) : List Bool → Nat → List Oper → Act → World → Prop
  | true :: ks, k, o :: l, a, w => ∃ v, YieldsIf P ops S o v a ∧ mixed P ops Q S bar ks (k + 1) l (a.put o.dst v) w
  | false :: ks, k, o :: l, a, w => (if Region.wanted o (yielded ops a.tmps) then o.wp P a w (fun a' w' => (bar k = true ∨ S w') ∧ mixed P ops Q S bar ks (k + 1) l a' w') Q
      else (bar k = true ∨ S w) ∧ mixed P ops Q S bar ks (k + 1) l (a.put o.dst undef) w)
  | _, _, _, a, w => Q .normal a w

/-- The closed facts, from the k-th operation on. -/
def mixedB (md : Region.Mode) (ops : Array Oper) (bar : Nat → Bool) : List Bool → Nat → Array Bool → Bool
  | [], _, listed => decide (Region.ready md ops listed = [])
  | true :: ks, k, listed => (Region.ready md ops listed).contains k && Region.free md ops listed k && !bar k && ((List.range ops.size).all fun j => !bar j || decide (j = k) || Region.waitsFor md ops j k) && mixedB md ops bar ks (k + 1) (listed.setIfInBounds k true)
  | false :: ks, k, listed => decide (Region.ready md ops listed = [k]) && (!bar k || ks.all fun b => !b) && mixedB md ops bar ks (k + 1) (listed.setIfInBounds k true)

theorem wpJ_of_mixed (hsel : Region.noSelect ops = true) (hQ : ∀ c a o v w, Q (.panic c) (a.put o v) w → Q (.panic c) a w) (hbo : ∀ j, ops.size ≤ j → bar j = false) :
    ∀ (ks : List Bool) (k : Nat) (l : List Oper) (listed : Array Bool) (a : Act) (w : World), ks.length = l.length → (∀ j, l[j]? = ops[k + j]?) → mixedB md ops bar ks k listed = true →
      (S w ∨ ks.all (fun b => !b) = true) → mixed P ops Q S bar ks k l a w → wpJ P md ops Q S bar l.length listed a w
  | [], k, l, listed, a, w, hl, _, hB, _, h => by
    obtain rfl : l = [] := List.eq_nil_of_length_eq_zero hl.symm
    exact ⟨of_decide_eq_true hB, h⟩
  | true :: ks, k, [], listed, a, w, hl, _, _, _, _ => by simp at hl
  | false :: ks, k, [], listed, a, w, hl, _, _, _, _ => by simp at hl
  | true :: ks, k, o :: l, listed, a, w, hl, ho, hB, hS, h => by
    have h0 : ops[k]? = some o := by simpa using (ho 0).symm
    simp only [mixedB, Bool.and_eq_true] at hB
    obtain ⟨⟨⟨⟨hr, hf⟩, hbk⟩, hw⟩, hB'⟩ := hB
    have hSw : S w := by
      rcases hS with hS | hS
      · exact hS
      · simp at hS
    obtain ⟨v, hy, hrest⟩ := h
    have hbk' : bar k = false := by simpa using hbk
    have hwait : Waits md ops bar k := fun j hj hne => by
      have hjl : j < ops.size := by
        rcases Nat.lt_or_ge j ops.size with h' | h'
        · exact h'
        · rw [hbo j h'] at hj; cases hj
      rw [List.all_eq_true] at hw
      have := hw j (List.mem_range.2 hjl)
      rw [hj] at this
      simpa [hne] using this
    have ih := wpJ_of_mixed hsel hQ hbo ks (k + 1) l (listed.setIfInBounds k true) (a.put o.dst v) w (by simpa using hl) (fun j => by have := ho (j + 1); simpa [Nat.add_assoc, Nat.add_comm 1 j] using this) hB' (.inl hSw) hrest
    rw [List.length_cons]
    exact wpJ_first h0 hsel (fun c a w => hQ c a o.dst v w) hwait hbk' l.length listed a w (Region.free_spec h0 hf) (by simpa using hr) hy hSw ih
  | false :: ks, k, o :: l, listed, a, w, hl, ho, hB, hS, h => by
    have h0 : ops[k]? = some o := by simpa using (ho 0).symm
    simp only [mixedB, Bool.and_eq_true, decide_eq_true_eq] at hB
    obtain ⟨⟨hr, hbk⟩, hB'⟩ := hB
    refine ⟨fun h1 => (by rw [hr] at h1; cases h1), fun i hi => ?_⟩
    rw [hr] at hi
    obtain rfl : i = k := by simpa using hi
    have ih := fun a' w' (hs : bar i = true ∨ S w') h' => wpJ_of_mixed hsel hQ hbo ks (i + 1) l (listed.setIfInBounds i true) a' w' (by simpa using hl) (fun j => by have := ho (j + 1); simpa [Nat.add_assoc, Nat.add_comm 1 j] using this) hB' (by
      rcases hs with hs | hs
      · rw [hs] at hbk
        exact .inr (by simpa using hbk)
      · exact .inl hs) h'
    unfold wpOp
    simp only [h0]
    unfold mixed at h
    split at h
    · rename_i hw; simp only [hw, if_true]; exact .inl (Oper.wp_mono (fun a' w' h' => ⟨h'.1, ih a' w' h'.1 h'.2⟩) h)
    · rename_i hw; simp only [hw]; exact ⟨h.1, ih _ _ h.1 h.2⟩

def mixedOk (l : List Oper) (ks : List Bool) (bar : Nat → Bool) : Bool :=
  Region.noSelect l.toArray && decide (ks.length = l.length) && mixedB .any l.toArray bar ks 0 (Array.replicate l.toArray.size false) && noDefer l.toArray

theorem region_mixed {l : List Oper} (ks : List Bool) (S : World → Prop) (bar : Nat → Bool) (hB : mixedOk l ks bar = true) (hbo : ∀ j, l.length ≤ j → bar j = false) (hQ : ∀ c a o v w, Q (.panic c) (a.put o v) w → Q (.panic c) a w) {a : Act} {w : World} (hS : S w)
    (H : mixed P l.toArray Q S bar ks 0 l a w) : wpAny P .any l.toArray Q l.toArray.size (Array.replicate l.toArray.size false) a w := by
  simp only [mixedOk, Bool.and_eq_true, decide_eq_true_eq] at hB
  obtain ⟨⟨⟨hsel, hn⟩, hm⟩, _⟩ := hB
  exact wpAny_of_J _ _ _ _ (wpJ_of_mixed hsel hQ (fun j hj => hbo j (by simpa using hj)) ks 0 l _ a w hn (fun j => by simp) hm (.inl hS) H)

theorem mixed_plain {id : Nat} {a : Act} {w : World} {l : List Oper} (ks : List Bool) (S : World → Prop) (bar : Nat → Bool) (hm : P.follows .mixedOrders = true)
    (hB : mixedOk l ks bar = true) (hbo : ∀ j, l.length ≤ j → bar j = false) (hQ : ∀ c a o v w, Q (.panic c) (a.put o v) w → Q (.panic c) a w) (hS : S w.drew)
    (H : mixed P l.toArray Q S bar ks 0 l a w.drew) : (Code.region id l.toArray true).wp P Q a w :=
  wp_region_any hm (region_mixed ks S bar hB hbo hQ hS H)
theorem mixed_in_round {n r id : Nat} {a : Act} {w : World} {l : List Oper} (ks : List Bool) (S : World → Prop) (bar : Nat → Bool) (hm : P.follows .mixedOrders = true)
    (hB : mixedOk l ks bar = true) (hbo : ∀ j, l.length ≤ j → bar j = false) (hQ : ∀ c a o v w, Q (.panic c) (a.put o v) w → Q (.panic c) a w) (hout : ∀ a w, ¬ Q .outgrown a w) (hS : S w.drew)
    (H : mixed P l.toArray Q S bar ks 0 l a w.drew) : (Code.region id l.toArray true).wpIn (Fence.wide.inRound r) n P Q a w := by
  have hd : noDefer l.toArray = true := by simp only [mixedOk, Bool.and_eq_true] at hB; exact hB.2
  exact wpIn_region_any hm (wpAnyIn_of_wpAny hd hout _ _ _ _ (region_mixed ks S bar hB hbo hQ hS H))

theorem mixed_read {o : Oper} {ks : List Bool} {k : Nat} {l : List Oper} {a : Act} {w : World} (v : Value) (hw : Region.wanted o (yielded ops a.tmps) = true) (hv : ∀ w, S w → (execOp a.eval o).run P w = .ok (.value v) w)
    (h : mixed P ops Q S bar ks (k + 1) l (a.put o.dst v) w) : mixed P ops Q S bar (true :: ks) k (o :: l) a w := ⟨v, .inl ⟨hw, hv⟩, h⟩
theorem mixed_write {o : Oper} {ks : List Bool} {k : Nat} {l : List Oper} {a : Act} {w : World} (hw : Region.wanted o (yielded ops a.tmps) = true)
    (h : ∀ K : Act → World → Prop, (∀ a' w', (bar k = true ∨ S w') → mixed P ops Q S bar ks (k + 1) l a' w' → K a' w') → o.wp P a w K Q) : mixed P ops Q S bar (false :: ks) k (o :: l) a w := by
  unfold mixed
  rw [if_pos hw]
  exact h _ fun _ _ h1 h2 => ⟨h1, h2⟩
theorem mixed_end {k : Nat} {a : Act} {w : World} (h : Q .normal a w) : mixed P ops Q S bar [] k [] a w := h
end
end Go.Proofs.YthbpadjhlkdpeaaGreatDoor
/- weight's products. -/
namespace Go.Proofs.YthbpadjhlkdpeaaGreatDoor
open Go.RowKit Go.Shelf

/-- Products of two lists, as long as each fits. -/
def prodA : List Rat → List Rat → Option (List Rat)
  | [], _ => some []
  | _ :: _, [] => some []
  | q :: qs, r :: rs => if Fits (q * r) then (prodA qs rs).map (q * r :: ·) else none

/-- Mul of two valid fractions. -/
theorem mul_step {a b : Rat} {s t u v : ByteArray} (ha : IsP a s t) (hb : IsP b u v) (w : World) (hT : Tabs w) :
    Calls Tryz.prog 18 #[.agg #[.string s, .string t], .agg #[.string u, .string v]] w (PartPost (Ans (a * b)) w) := by
  refine (mul_rat s t u v w ha.limit.1 ha.limit.2 hb.limit.1 hb.limit.2 hT).mono ?_
  rintro e w' ⟨x, y, n, rfl, h, hB⟩
  have h1 := h.both ha.ok hb.ok
  rw [ha.rat, hb.rat] at h1
  exact ⟨x, y, n, rfl, h1, hB⟩

set_option maxRecDepth 100000 in
set_option maxHeartbeats 4000000 in
theorem products_any {v v2 : Value} {qs rs : List Rat} {ps os : List PP} {w : World} (hq : IsL qs ps) (hr : IsL rs os) (hv : PL w v ps) (hv2 : PL w v2 os) (hlen : os.length = ps.length) (hn600 : ps.length ≤ 600) (hT : Tabs w) :
    Calls Tryz.prog 75 #[v, v2] w (SharesPost w.heap.size (prodA qs rs) w) := by
  obtain ⟨p, cap, rfl, hcap, hmax, hp⟩ := hv
  obtain ⟨p2, cap2, rfl, hcap2, hmax2, hp2⟩ := hv2
  obtain ⟨i0, hi, hz0, hz1, hz2⟩ := info_parts info_part
  obtain ⟨n, hn⟩ : ∃ n, ps.length = n := ⟨_, rfl⟩
  rw [hlen] at hcap2 ⊢
  have HL2 : Hid (os.length = n) := by show _ = _; rw [hlen, hn]
  rw [hn] at hcap hcap2 hn600 ⊢
  unfold maxLen at hmax hmax2
  have HN := Lib.hid hn
  have HQ := Lib.hid hq
  have HR := Lib.hid hr
  have HT := Lib.hid hT
  have HP := Lib.hid hp
  have HP2 := Lib.hid hp2
  clear hn hq hr hT hp hp2 hlen
  go_enter Tryz.func75, Tryz.ntmps75
  go_wp2
  go_loopw [5, 10] (fun vo i wr => ∃ (k : Nat) (ts : List Rat) (us : List PP), i = .int .i64 k ∧ k ≤ n ∧ Hid (IsL ts us) ∧ Hid (us.length = k) ∧ Hid (Own wr w.heap.size vo us) ∧ Hid (prodA qs rs = (prodA (qs.drop k) (rs.drop k)).map (ts ++ ·)) ∧ Hid (Below w.heap.size w wr)) (fun _ i _ => n - (intOf i).toNat)
  case atStart => exact ⟨0, [], [], rfl, Nat.zero_le _, IsL.nil, rfl, Own.nil _ _, by show _ = _; simp, Below.refl _ _⟩
  case round =>
    obtain ⟨k, ts, us, rfl, hk, HI, HL, HO, HS, HB⟩ := hrel
    by_cases hlt : k < n
    · obtain ⟨bb, off, rfl, hbl, hat⟩ := HP.out (List.ne_nil_of_length_pos (by rw [HN.out]; omega))
      obtain ⟨bb2, off2, rfl, hbl2, hat2⟩ := HP2.out (List.ne_nil_of_length_pos (by rw [HL2.out]; omega))
      have hkp : k < ps.length := by rw [HN.out]; exact hlt
      have hkp2 : k < os.length := by rw [HL2.out]; exact hlt
      obtain ⟨e0, e1⟩ := (hat.below HB.out hbl) k hkp
      obtain ⟨d0, d1⟩ := (hat2.below HB.out hbl2) k hkp2
      obtain ⟨s, hs⟩ : ∃ u, ps[k].1 = u := ⟨_, rfl⟩
      obtain ⟨t, ht⟩ : ∃ v, ps[k].2 = v := ⟨_, rfl⟩
      obtain ⟨u, hu⟩ : ∃ u, os[k].1 = u := ⟨_, rfl⟩
      obtain ⟨v, hv⟩ : ∃ v, os[k].2 = v := ⟨_, rfl⟩
      rw [hs] at e0
      rw [ht] at e1
      rw [hu] at d0
      rw [hv] at d1
      obtain ⟨q, hq⟩ : ∃ q, qs[k]'(by rw [HQ.out.length]; exact hkp) = q := ⟨_, rfl⟩
      obtain ⟨r, hr⟩ : ∃ q, rs[k]'(by rw [HR.out.length]; exact hkp2) = q := ⟨_, rfl⟩
      have HU : Hid (IsP q s t) := by rw [← hq, ← hs, ← ht]; exact HQ.out.get k hkp
      have HV : Hid (IsP r u v) := by rw [← hr, ← hu, ← hv]; exact HR.out.get k hkp2
      have HD : Hid (qs.drop k = q :: qs.drop (k + 1) ∧ rs.drop k = r :: rs.drop (k + 1)) := ⟨by rw [← hq]; exact List.drop_eq_getElem_cons _, by rw [← hr]; exact List.drop_eq_getElem_cons _⟩
      clear hat hkp hs ht hq hat2 hkp2 hu hv hr
      have hsz := HB.out.size
      obtain ⟨po, no, co, rfl⟩ : ∃ p n c, u5 = .slice p n c := by
        rcases HO.out.2 with ⟨h, _⟩ | ⟨g, cap, cur, h, _⟩
        · exact ⟨_, _, _, h⟩
        · exact ⟨_, _, _, h⟩
      obtain ⟨w1, hw1⟩ : ∃ w1, wr.alloc (.cells #[.string s, .string t] 24) = w1 := ⟨_, rfl⟩
      have hal : Below wr.heap.size wr w1 := by rw [← hw1]; exact (Below.refl wr.heap.size wr).alloc (Nat.le_refl _) _
      have HX1 : Hid (Boxes wr.heap.size [.cells #[.string s, .string t] 24] w1) := by rw [← hw1]; exact Boxes.one wr _
      have HB1 : Hid (Below w.heap.size w w1) := HB.out.trans (hal.mono HB.out.size)
      have HO1 := Lib.hid (HO.out.after hal)
      have hl1 : bb2 < wr.heap.size := by omega
      have j0 := (hal.cell (p := ⟨bb2, off2 + k * 2, none⟩) hl1).trans d0
      have j1 := (hal.cell (p := ⟨bb2, off2 + k * 2 + 1, none⟩) hl1).trans d1
      have i0' : (0 : Int) ≤ (k : Int) := by omega
      have i1' : (k : Int) < (n : Int) := by omega
      have HOB : Hid (some wr.heap.size ≠ (Value.slice po no co).ownBlock ∧ some bb2 ≠ (Value.slice po no co).ownBlock) := by
        constructor
        · intro hc
          have := (World.ownsRow.lt HO.out _ hc.symm).2
          omega
        · intro hc
          have := (World.ownsRow.lt HO.out _ hc.symm).1
          omega
      have hm1 : us.length + 1 ≤ maxLen := by rw [HL.out]; unfold maxLen; omega
      have hm2 : (us.length + 1) * 32 ≤ 140737488355328 := by rw [HL.out]; omega
      clear hal d0 d1
      go_wp2_with fail
      clear hw1
      have k0 := HX1.out.cell 0 0 (b := wr.heap.size) rfl rfl rfl
      have k1 := HX1.out.cell 0 1 (b := wr.heap.size) rfl rfl rfl
      have hS0 : w1.drew.cell? ⟨wr.heap.size, 0, none⟩ = some (.string s) ∧ w1.drew.cell? ⟨wr.heap.size, 1, none⟩ = some (.string t) ∧ w1.drew.cell? ⟨bb2, off2 + k * 2, none⟩ = some (.string u) ∧ w1.drew.cell? ⟨bb2, off2 + k * 2 + 1, none⟩ = some (.string v) := ⟨k0, k1, j0, j1⟩
      refine mixed_plain [true, true, true, true, true, true, false, true, true, false, false, false, false] (fun w' => w'.cell? ⟨wr.heap.size, 0, none⟩ = some (.string s) ∧ w'.cell? ⟨wr.heap.size, 1, none⟩ = some (.string t) ∧ w'.cell? ⟨bb2, off2 + k * 2, none⟩ = some (.string u) ∧ w'.cell? ⟨bb2, off2 + k * 2 + 1, none⟩ = some (.string v)) (fun _ => false)
        (by kernel_rfl) (by kernel_rfl) (fun _ _ => rfl) (fun _ _ o _ _ h => by cases o <;> exact h) hS0 ?_
      iterate 6
        refine mixed_read _ rfl (fun w' hS => by obtain ⟨s1, s2, s3, s4⟩ := hS; go_simp; rfl) ?_
        simp only [Act.put, List.setIfInBounds_toArray, List.set_cons_zero, List.set_cons_succ]
      refine mixed_write rfl fun K hK => ?_
      go_simp
      go_at_call 18
      refine (mul_step HU.out HV.out _ (HT.out.below HB1.out.drew (Nat.le_refl _))).mono ?_
      rintro e w2 ⟨x, y, m, rfl, hx, hb⟩
      have HXY := Lib.hid hx
      have HX2 := Lib.hid (HX1.out.drew.below hb HX1.out.lt)
      have HB2 : Hid (Below w.heap.size w w2) := HB1.out.drew.trans (hb.mono HB1.out.size)
      have HO2 : Hid (Own w2 w.heap.size (.slice po no co) us) := HO1.out.after (w' := w2) (((Below.refl w1.heap.size w1).drew).trans hb)
      have hl2 : bb2 < w1.heap.size := Nat.lt_of_lt_of_le hl1 (Nat.le_trans (Nat.le_succ _) HX1.out.lt)
      have ka2 := HX2.out.cell 0 0 (b := wr.heap.size) rfl rfl rfl
      have kb2 := HX2.out.cell 0 1 (b := wr.heap.size) rfl rfl rfl
      have kc2 := (hb.cell (p := ⟨bb2, off2 + k * 2, none⟩) hl2).trans j0
      have kd2 := (hb.cell (p := ⟨bb2, off2 + k * 2 + 1, none⟩) hl2).trans j1
      refine hK _ _ (.inr ⟨ka2, kb2, kc2, kd2⟩) ?_
      clear hK K hx hb k0 k1 j0 j1 hS0
      iterate 2
        refine mixed_read _ rfl (fun w' hS => by go_simp; rfl) ?_
        simp only [Act.put, List.setIfInBounds_toArray, List.set_cons_zero, List.set_cons_succ]
      refine mixed_write rfl fun K hK => ?_
      go_simp
      go_at_call 124
      refine (must_any x y m _).mono ?_
      rintro e w3 ⟨hE, hb⟩
      have HX3 := Lib.hid (HX2.out.below hb HX2.out.lt)
      have HB3 : Hid (Below w.heap.size w w3) := HB2.out.trans (hb.mono HB2.out.size)
      have HO3 : Hid (Own w3 w.heap.size (.slice po no co) us) := HO2.out.after hb
      have hl3 : bb2 < w2.heap.size := Nat.lt_of_lt_of_le hl1 (Nat.le_trans (Nat.le_succ _) HX2.out.lt)
      have ka3 := HX3.out.cell 0 0 (b := wr.heap.size) rfl rfl rfl
      have kb3 := HX3.out.cell 0 1 (b := wr.heap.size) rfl rfl rfl
      have kc3 := (hb.cell (p := ⟨bb2, off2 + k * 2, none⟩) hl3).trans kc2
      have kd3 := (hb.cell (p := ⟨bb2, off2 + k * 2 + 1, none⟩) hl3).trans kd2
      clear hb ka2 kb2 kc2 kd2
      rcases hE with ⟨h0, rfl⟩ | ⟨h0, rfl⟩
      · have HP3 : Hid (IsP (q * r) x y) := HXY.out.zero h0
        clear h0
        refine hK _ _ (.inr ⟨ka3, kb3, kc3, kd3⟩) ?_
        clear hK K
        have hownA : (w3.alloc (.cells #[.string x, .string y] 24)).ownsRow w.heap.size 24 2 (.slice po no co) us.length (pcells us) := World.ownsRow.alloc HO3.out _
        have hnews : ∀ (j : Nat) (z : Value), ([.string x, .string y] : List Value)[j]? = some z → (w3.alloc (.cells #[.string x, .string y] 24)).cell? ((⟨w3.heap.size, 0, none⟩ : Addr).add j) = some z := World.news_of_block (World.alloc_heap_new w3 _)
        have al3 := (Below.refl w3.heap.size w3).alloc (Nat.le_refl _) (.cells #[.string x, .string y] 24)
        have hm3 : w.heap.size ≤ (w3.alloc (.cells #[.string x, .string y] 24)).heap.size := Nat.le_trans HB3.out.size al3.size
        have hm6 : wr.heap.size < w3.heap.size := HX3.out.lt
        have hm4 : wr.heap.size < (w3.alloc (.cells #[.string x, .string y] 24)).heap.size := Nat.lt_of_lt_of_le hm6 al3.size
        have hm5 : bb2 < (w3.alloc (.cells #[.string x, .string y] 24)).heap.size := Nat.lt_trans hl1 hm4
        have qa3 := (al3.cell (p := ⟨wr.heap.size, 0, none⟩) hm6).trans ka3
        have qb3 := (al3.cell (p := ⟨wr.heap.size, 1, none⟩) hm6).trans kb3
        have qc3 := (al3.cell (p := ⟨bb2, off2 + k * 2, none⟩) (Nat.lt_trans hl1 hm6)).trans kc3
        have qd3 := (al3.cell (p := ⟨bb2, off2 + k * 2 + 1, none⟩) (Nat.lt_trans hl1 hm6)).trans kd3
        refine mixed_write rfl fun K hK => ?_
        go_simp
        refine hK _ _ (.inr ⟨qa3, qb3, qc3, qd3⟩) ?_
        clear hK K
        refine mixed_write rfl fun K hK => ?_
        refine wp_append_lies _ _ _ _ rfl w.heap.size 24 i0 (.agg #[.string ⟨#[]⟩, .string ⟨#[]⟩]) 2 32 Tryz.underlying34 hi hz0 hz1 hz2 rfl (by decide) (.slice po no co) us.length (pcells us) rfl hownA ⟨w3.heap.size, 0, none⟩ 1 1 [.string x, .string y] rfl rfl hnews (by simp [Value.oneCell']) (by decide) hm1 hm2 hm3 (w3.heap.size + 1) (by simp) ?_
        intro gg cap5 w5 hown5 hgrow hat hlt5
        have q1 := hgrow.block wr.heap.size hm4 HOB.out.1
        have q2 := hgrow.block bb2 hm5 HOB.out.2
        have ka5 := (World.cell?_of_block (w := w3.alloc (.cells #[.string x, .string y] 24)) (a := ⟨wr.heap.size, 0, none⟩) q1).trans qa3
        have kb5 := (World.cell?_of_block (w := w3.alloc (.cells #[.string x, .string y] 24)) (a := ⟨wr.heap.size, 1, none⟩) q1).trans qb3
        have kc5 := (World.cell?_of_block (w := w3.alloc (.cells #[.string x, .string y] 24)) (a := ⟨bb2, off2 + k * 2, none⟩) q2).trans qc3
        have kd5 := (World.cell?_of_block (w := w3.alloc (.cells #[.string x, .string y] 24)) (a := ⟨bb2, off2 + k * 2 + 1, none⟩) q2).trans qd3
        have HB5 : Hid (Below w.heap.size w w5) := (HB3.out.alloc HB3.out.size _).grown hgrow hm3 (fun z hz => (World.ownsRow.lt hownA z hz).1)
        have HO5 : Hid (Own w5 w.heap.size (.slice (some ⟨gg, 0, none⟩) (us.length + 1) cap5) (us ++ [(x, y)])) := by
          show w5.ownsRow _ _ _ _ _ _
          rw [List.length_append, pcells_append]; exact hown5
        clear hgrow hat hlt5 hown5 hownA hnews al3 qa3 qb3 qc3 qd3 q1 q2
        refine hK _ _ (.inr ⟨ka5, kb5, kc5, kd5⟩) ?_
        clear hK K
        refine mixed_write rfl fun K hK => ?_
        go_simp
        refine hK _ _ (.inr ⟨ka5, kb5, kc5, kd5⟩) ?_
        clear hK K
        refine mixed_end ?_
        rw [HL.out] at HO5 ⊢
        have HI2 := Lib.hid (HI.out.snoc HP3.out)
        have HL3 : Hid ((us ++ [(x, y)]).length = k + 1) := by show _ = _; rw [List.length_append, HL.out]; rfl
        have HS2 : Hid (prodA qs rs = (prodA (qs.drop (k + 1)) (rs.drop (k + 1))).map ((ts ++ [q * r]) ++ ·)) := by
          show _ = _
          rw [HS.out, HD.out.1, HD.out.2, prodA, if_pos HP3.out.fits, Option.map_map]
          congr 1
          funext l
          simp
        go_wp2
        go_roundw
        case rel => exact ⟨k + 1, _, _, by go_num, by omega, HI2, HL3, HO5, HS2, HB5⟩
        case measure => simp [intOf]; omega
      · have HN2 : Hid (prodA qs rs = none ∧ m = 4) := by
          rcases HXY.out with ⟨_, h1⟩ | ⟨h1, _, _, h2⟩
          · exact absurd h1 h0
          · exact ⟨by rw [HS.out, HD.out.1, HD.out.2, prodA, if_neg h1]; rfl, h2⟩
        clear h0
        rw [HN2.out.2]
        exact ⟨rfl, .inr ⟨HN2.out.1, rfl⟩, HB3.out⟩
    · have HS2 : Hid (prodA qs rs = some ts) := by
        show _ = _
        rw [HS.out, List.drop_of_length_le (by rw [HQ.out.length, HN.out]; omega)]; simp [prodA]
      go_wp2
      go_ret
      exact ⟨.inl ⟨_, _, _, HS2.out, HI.out, rfl, HO.out⟩, HB.out⟩
end Go.Proofs.YthbpadjhlkdpeaaGreatDoor
