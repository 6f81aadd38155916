/- The parts Fewest, LawFewest of a proof, put together by program (merge.py). -/
import Derived.Test.YthbpadjhlkdpeaaGreatDoorG42
import Derived.Test.YthbpadjhlkdpeaaGreatDoorG37
import Derived.Laws.BitsAllLaws
/- No fewer elements have a sum than Cover says: plain law. -/
namespace Go.Proofs.YthbpadjhlkdpeaaGreatDoor
open Go.RowKit Go.Shelf

/-- The chosen indices and elements. -/
def selI (c k : Nat) : List Nat := (List.range k).filter fun i => decide (c / 2 ^ i % 2 = 1)
def selP (ps : List PP) (c k : Nat) : List PP := (selI c k).map fun i => ps.getD i (⟨#[]⟩, ⟨#[]⟩)
theorem sel_yes {ps : List PP} {c k : Nat} {p : PP} (h : c / 2 ^ k % 2 = 1) (hp : ps[k]? = some p) : selP ps c (k + 1) = selP ps c k ++ [p] := by
  unfold selP selI
  rw [List.range_succ, List.filter_append, List.map_append]
  simp [h, List.getD, hp]
theorem sel_no {ps : List PP} {c k : Nat} (h : ¬ c / 2 ^ k % 2 = 1) : selP ps c (k + 1) = selP ps c k := by
  unfold selP selI
  rw [List.range_succ, List.filter_append, List.map_append]
  simp [h]
theorem sel_len (ps : List PP) (c k : Nat) : (selP ps c k).length ≤ k := by
  unfold selP selI
  rw [List.length_map]
  exact Nat.le_trans (List.length_filter_le _ _) (by simp)
theorem sel_mem {ps : List PP} {c k : Nat} (hk : k ≤ ps.length) : ∀ p ∈ selP ps c k, p ∈ ps := by
  intro p hp
  unfold selP at hp
  obtain ⟨i, hi, rfl⟩ := List.mem_map.1 hp
  have h1 : i < k := by
    have := (List.mem_filter.1 hi).1
    simpa using this
  have h2 : i < ps.length := by omega
  simp [List.getD, h2]
theorem sel_rats {ps : List PP} {c k : Nat} (hk : k ≤ ps.length) : rats (selP ps c k) = pick (rats ps) (selI c k) := by
  unfold rats selP pick
  rw [List.map_map]
  refine List.map_congr_left fun i hi => ?_
  have h1 : i < k := by
    have := (List.mem_filter.1 hi).1
    simpa using this
  have h2 : i < ps.length := by omega
  simp [List.getD, h2]
theorem pick_small {m : Nat} {qs : List Rat} {l : List Nat} (h : Small m qs) (hl : ∀ i ∈ l, i < qs.length) : Small m (pick qs l) := fun q hq => by
  obtain ⟨i, hi, rfl⟩ := List.mem_map.1 hq
  refine h _ ?_
  simp [List.getD, hl i hi]
theorem RankOf.lt {qs : List Rat} {L : List Nat} (h : RankOf qs L) : ∀ i ∈ L, i < qs.length := fun i hi => by
  have := (h.1.mem_iff (a := i)).1 hi
  simpa using this
theorem RankOf.len {qs : List Rat} {L : List Nat} (h : RankOf qs L) : L.length = qs.length := by
  have := h.1.length_eq
  simpa using this
theorem RankOf.nodup {qs : List Rat} {L : List Nat} (h : RankOf qs L) : L.Nodup := h.1.nodup_iff.2 List.nodup_range
theorem sum_fits {qs : List Rat} (h : Small 20 qs) (hl : qs.length ≤ 10) : Fits (sumR 0 qs) ∧ sumA 0 qs = some (sumR 0 qs) := by
  obtain ⟨h1, _, h3⟩ := h.sum (by omega)
  exact ⟨h3.fits (by omega) (by omega), h1⟩
theorem fewest_plain {ps : List PP} {L : List Nat} {c : Nat} {P : Rat} (hok : ∀ p ∈ ps, okP p.1 p.2 = true) (hs : ∀ p ∈ ps, p.1.size ≤ 20 ∧ p.2.size ≤ 20) (hn : ps.length ≤ 10) (hL : RankOf (rats ps) L) (hp : P ≤ sumR 0 (rats (selP ps c ps.length))) :
    ∃ m, coverA (pick (rats ps) L) 0 P 0 = (m, 0) ∧ m ≤ (selP ps c ps.length).length := by
  have hsm := small_rats hok hs
  have hrl : (rats ps).length = ps.length := by simp [rats]
  have hsl : (selP ps c ps.length).length = (selI c ps.length).length := by simp [selP]
  have hsi : ∀ i ∈ selI c ps.length, i < ps.length := fun i hi => by
    have := (List.mem_filter.1 hi).1
    simpa using this
  rw [sel_rats (Nat.le_refl _)] at hp
  have hle := first_most (qs := rats ps) L (selI c ps.length) (hL.2.imp fun {a b} h => by
    rcases h with h | ⟨h, _⟩
    · exact Rat.le_of_lt h
    · rw [h]; exact Rat.le_refl) (List.nodup_range.filter _) (fun x hx => (hL.1.mem_iff (a := x)).2 (by rw [hrl]; simpa using hsi x hx))
  have hll : L.length = ps.length := by rw [hL.len, hrl]
  have hk : (selI c ps.length).length ≤ (pick (rats ps) L).length := by
    rw [← hsl]
    have := sel_len ps c ps.length
    simp [pick, hll]
    exact this
  obtain ⟨m, h1, h2⟩ := cover_le (pick (rats ps) L) 0 P 0 (selI c ps.length).length (fun j hj => by
    have e : (pick (rats ps) L).take j = pick (rats ps) (L.take j) := by simp [pick, List.map_take]
    rw [e]
    have hz := (sum_fits (qs := pick (rats ps) (L.take j)) (pick_small (l := L.take j) hsm fun i hi => hL.lt i (List.mem_of_mem_take hi)) (by simp [pick, hll]; omega)).1
    have : (0 : Rat) + sumR 0 (pick (rats ps) (L.take j)) = sumR 0 (pick (rats ps) (L.take j)) := by grind
    rw [this]; exact hz) hk (by
    have e : (pick (rats ps) L).take (selI c ps.length).length = pick (rats ps) (L.take (selI c ps.length).length) := by simp [pick, List.map_take]
    rw [e]
    have := Rat.le_trans hp hle
    grind)
  exact ⟨m, h1, by rw [hsl]; omega⟩

/-- Which indices have been seen. -/
def seenV (L : List Nat) (k n : Nat) : List Value := (List.range n).map fun i => Value.bool (decide (i ∈ L.take k))
theorem seen_start (L : List Nat) (n : Nat) : seenV L 0 n = List.replicate n (.bool false) := by
  unfold seenV
  simp only [List.take_zero, List.not_mem_nil, decide_false]
  rw [List.map_const', List.length_range]
theorem seen_at {L : List Nat} {k n i : Nat} (hi : i < n) (h : i ∉ L.take k) : (seenV L k n)[i]? = some (.bool false) := by
  unfold seenV
  simp [hi, h]
theorem seen_set {L : List Nat} {k n i : Nat} (hk : k < L.length) (h : L.getD k 0 = i) : (seenV L k n).set i (.bool true) = seenV L (k + 1) n := by
  have hi : L[k] = i := by rw [← h]; simp [List.getD, hk]
  refine List.ext_getElem? fun j => ?_
  unfold seenV
  rw [List.getElem?_set, List.take_succ_eq_append_getElem hk, hi]
  by_cases hj : i = j
  · subst hj
    by_cases hn : i < n
    · simp [hn]
    · simp [hn]
  · rw [if_neg hj]
    by_cases hn : j < n
    · simp [hn]
      intro h2
      exact absurd h2.symm hj
    · simp [hn]
theorem nodup_fresh {L : List Nat} {k i : Nat} (h : L.Nodup) (hk : k < L.length) (hi : L.getD k 0 = i) : i ∉ L.take k := by
  have hi : L[k] = i := by rw [← hi]; simp [List.getD, hk]
  intro hm
  have h2 : (L.take k ++ L.drop k).Nodup := by rw [List.take_append_drop]; exact h
  have h3 := (List.nodup_append.1 h2).2.2 i hm i (by rw [List.drop_eq_getElem_cons hk, hi]; simp)
  exact h3 rfl
theorem geR_at {qs : List Rat} {L : List Nat} {k i y : Nat} (h : L.Pairwise (geR qs)) (hk : k + 1 < L.length) (hi : L.getD (k + 1) 0 = i) (hy : L.getD k 0 = y) : geR qs y i := by
  have e1 : L[k + 1] = i := by rw [← hi]; simp [List.getD, hk]
  have e2 : L[k] = y := by rw [← hy]; simp [List.getD, Nat.lt_of_succ_lt hk]
  have := List.pairwise_iff_getElem.1 h k (k + 1) (by omega) hk (by omega)
  rw [e1, e2] at this
  exact this
end Go.Proofs.YthbpadjhlkdpeaaGreatDoor
/- WeightFewest's walk. -/
namespace Go.Proofs.YthbpadjhlkdpeaaGreatDoor
open Go.RowKit Go.Shelf
attribute [local go_sem ↓] Go.wp_at_zero Go.wp_at_succ

theorem info_bool : (Tryz.prog.info? 4).map (fun i => (i.zero, i.size, i.bytes)) = some (some (.bool false), 1, 1) := by kernel_rfl

set_option maxRecDepth 100000 in
set_option maxHeartbeats 8000000 in
theorem fewest_early0 {v : Value} {ps : List PP} (s t : ByteArray) (c : Nat) {w : World} (hv : PL w v ps) (hT : Tabs w) (h : 10 < ps.length) :
    Calls Tryz.prog 13 #[v, pV s t, .int .u16 c] w (BoolPost w true) := by
  skip
  obtain ⟨n, hn⟩ : ∃ n, ps.length = n := ⟨_, rfl⟩
  obtain ⟨p1, c1, rfl⟩ : ∃ p c, v = .slice p n c := by obtain ⟨p, c, h, _⟩ := id hv; exact ⟨_, _, by rw [← hn]; exact h⟩
  have HU := Lib.hid hv
  have HN := Lib.hid hn
  have HT := Lib.hid hT
  have hl : (10 : Int) < n := by omega
  clear hv hn hT h
  skip
  go_enter Tryz.func13, Tryz.ntmps13
  go_wp2_with fail
  obtain ⟨w0, hw0⟩ : ∃ w0, w.alloc (pObj s t) = w0 := ⟨_, rfl⟩
  rw [hw0]
  have HB0 : Hid (Below w.heap.size w w0) := by rw [← hw0]; exact (Below.refl _ w).alloc (Nat.le_refl _) _
  have HA0 : Hid (Ats [(w.heap.size, s, t)] w0) := by rw [← hw0]; exact (Ats.nil w).push s t
  clear hw0
  refine (alive_any _ (HT.out.below HB0.out (Nat.le_refl _))).mono ?_
  rintro e w1 ⟨rfl, hb1⟩
  have HB1 := Lib.hid (HB0.out.trans (hb1.mono HB0.out.size))
  have HA1 := Lib.hid (HA0.out.after hb1 (Nat.le_refl _))
  clear hb1 HA0 HB0
  go_wp2
  go_ret
  exact ⟨rfl, HB1.out⟩
set_option maxRecDepth 100000 in
set_option maxHeartbeats 8000000 in
theorem fewest_early1 {v : Value} {ps : List PP} (s t : ByteArray) (c : Nat) {w : World} (hv : PL w v ps) (hT : Tabs w) (h : ps.length ≤ 10) (hs : shortB 20 ps = false) :
    Calls Tryz.prog 13 #[v, pV s t, .int .u16 c] w (BoolPost w true) := by
  skip
  obtain ⟨n, hn⟩ : ∃ n, ps.length = n := ⟨_, rfl⟩
  obtain ⟨p1, c1, rfl⟩ : ∃ p c, v = .slice p n c := by obtain ⟨p, c, h, _⟩ := id hv; exact ⟨_, _, by rw [← hn]; exact h⟩
  have HU := Lib.hid hv
  have HN := Lib.hid hn
  have HT := Lib.hid hT
  have hl : ¬ (10 : Int) < n := by omega
  have hld : decide ((10 : Int) < n) = false := decide_eq_false hl
  have HS := Lib.hid hs
  clear hv hn hT h hs
  skip
  go_enter Tryz.func13, Tryz.ntmps13
  go_wp2_with fail
  obtain ⟨w0, hw0⟩ : ∃ w0, w.alloc (pObj s t) = w0 := ⟨_, rfl⟩
  rw [hw0]
  have HB0 : Hid (Below w.heap.size w w0) := by rw [← hw0]; exact (Below.refl _ w).alloc (Nat.le_refl _) _
  have HA0 : Hid (Ats [(w.heap.size, s, t)] w0) := by rw [← hw0]; exact (Ats.nil w).push s t
  clear hw0
  refine (alive_any _ (HT.out.below HB0.out (Nat.le_refl _))).mono ?_
  rintro e w1 ⟨rfl, hb1⟩
  have HB1 := Lib.hid (HB0.out.trans (hb1.mono HB0.out.size))
  have HA1 := Lib.hid (HA0.out.after hb1 (Nat.le_refl _))
  clear hb1 HA0 HB0
  go_wp2_with fail
  refine (short_any 20 (by decide) (HU.out.after HB1.out (Nat.le_refl _))).mono ?_
  rintro e w2 ⟨rfl, hb⟩
  rw [HS.out]
  have HB2 := Lib.hid (HB1.out.trans (hb.mono HB1.out.size))
  have HA2 := Lib.hid (HA1.out.after hb (Nat.le_refl _))
  clear hb HA1 HB1
  go_wp2
  go_ret
  exact ⟨rfl, HB2.out⟩
set_option maxRecDepth 100000 in
set_option maxHeartbeats 8000000 in
theorem fewest_early2 {v : Value} {ps : List PP} (s t : ByteArray) (c : Nat) {w : World} (hv : PL w v ps) (hT : Tabs w) (h : ps.length ≤ 10) (hs : shortB 20 ps = true) (hs2 : shortB 20 [(s, t)] = false) :
    Calls Tryz.prog 13 #[v, pV s t, .int .u16 c] w (BoolPost w true) := by
  skip
  obtain ⟨n, hn⟩ : ∃ n, ps.length = n := ⟨_, rfl⟩
  obtain ⟨p1, c1, rfl⟩ : ∃ p c, v = .slice p n c := by obtain ⟨p, c, h, _⟩ := id hv; exact ⟨_, _, by rw [← hn]; exact h⟩
  have HU := Lib.hid hv
  have HN := Lib.hid hn
  have HT := Lib.hid hT
  have hl : ¬ (10 : Int) < n := by omega
  have hld : decide ((10 : Int) < n) = false := decide_eq_false hl
  have HS := Lib.hid hs
  have HS2 := Lib.hid hs2
  clear hv hn hT h hs hs2
  skip
  go_enter Tryz.func13, Tryz.ntmps13
  go_wp2_with fail
  obtain ⟨w0, hw0⟩ : ∃ w0, w.alloc (pObj s t) = w0 := ⟨_, rfl⟩
  rw [hw0]
  have HB0 : Hid (Below w.heap.size w w0) := by rw [← hw0]; exact (Below.refl _ w).alloc (Nat.le_refl _) _
  have HA0 : Hid (Ats [(w.heap.size, s, t)] w0) := by rw [← hw0]; exact (Ats.nil w).push s t
  clear hw0
  refine (alive_any _ (HT.out.below HB0.out (Nat.le_refl _))).mono ?_
  rintro e w1 ⟨rfl, hb1⟩
  have HB1 := Lib.hid (HB0.out.trans (hb1.mono HB0.out.size))
  have HA1 := Lib.hid (HA0.out.after hb1 (Nat.le_refl _))
  clear hb1 HA0 HB0
  go_wp2_with fail
  refine (short_any 20 (by decide) (HU.out.after HB1.out (Nat.le_refl _))).mono ?_
  rintro e w2 ⟨rfl, hb⟩
  rw [HS.out]
  have HB2 := Lib.hid (HB1.out.trans (hb.mono HB1.out.size))
  have HA2 := Lib.hid (HA1.out.after hb (Nat.le_refl _))
  clear hb HA1 HB1
  have m0 := HA2.out.c0 0 rfl
  have m1 := HA2.out.c1 0 rfl
  go_wp2_with fail
  clear m0 m1
  have hal := (Below.refl w2.heap.size w2).alloc (Nat.le_refl _) (.cells #[.string s, .string t] 24)
  have HBL := Lib.hid (HB2.out.trans (hal.mono HB2.out.size))
  have HAL := Lib.hid (HA2.out.after hal (Nat.le_refl _))
  clear hal HA2 HB2
  refine (short_any 20 (by decide) (pl_one _ s t)).mono ?_
  rintro e w3 ⟨rfl, hb⟩
  rw [HS2.out]
  have HB3 := Lib.hid (HBL.out.trans (hb.mono HBL.out.size))
  have HA3 := Lib.hid (HAL.out.after hb (Nat.le_refl _))
  clear hb HAL HBL
  go_wp2
  go_ret
  exact ⟨rfl, HB3.out⟩
set_option maxRecDepth 100000 in
set_option maxHeartbeats 8000000 in
theorem fewest_early3 {v : Value} {ps : List PP} (s t : ByteArray) (c : Nat) {w : World} (hv : PL w v ps) (hT : Tabs w) (h : ps.length ≤ 10) (hs : shortB 20 ps = true) (hs2 : shortB 20 [(s, t)] = true) (hc : chkL [ps] ≠ 0) :
    Calls Tryz.prog 13 #[v, pV s t, .int .u16 c] w (BoolPost w true) := by
  have hz := shortB_iff.1 hs
  have HZ := Lib.hid hz
  have HC : Hid (chkL [ps] = 2) := chkL_two hc (by omega)
  skip
  obtain ⟨n, hn⟩ : ∃ n, ps.length = n := ⟨_, rfl⟩
  obtain ⟨p1, c1, rfl⟩ : ∃ p c, v = .slice p n c := by obtain ⟨p, c, h, _⟩ := id hv; exact ⟨_, _, by rw [← hn]; exact h⟩
  have HU := Lib.hid hv
  have HN := Lib.hid hn
  have HT := Lib.hid hT
  have hl : ¬ (10 : Int) < n := by omega
  have hld : decide ((10 : Int) < n) = false := decide_eq_false hl
  have hn10 : n ≤ 10 := by omega
  have HS := Lib.hid hs
  have HS2 := Lib.hid hs2
  clear hv hn hT h hs hs2 hz hc
  skip
  go_enter Tryz.func13, Tryz.ntmps13
  go_wp2_with fail
  obtain ⟨w0, hw0⟩ : ∃ w0, w.alloc (pObj s t) = w0 := ⟨_, rfl⟩
  rw [hw0]
  have HB0 : Hid (Below w.heap.size w w0) := by rw [← hw0]; exact (Below.refl _ w).alloc (Nat.le_refl _) _
  have HA0 : Hid (Ats [(w.heap.size, s, t)] w0) := by rw [← hw0]; exact (Ats.nil w).push s t
  clear hw0
  refine (alive_any _ (HT.out.below HB0.out (Nat.le_refl _))).mono ?_
  rintro e w1 ⟨rfl, hb1⟩
  have HB1 := Lib.hid (HB0.out.trans (hb1.mono HB0.out.size))
  have HA1 := Lib.hid (HA0.out.after hb1 (Nat.le_refl _))
  clear hb1 HA0 HB0
  go_wp2_with fail
  refine (short_any 20 (by decide) (HU.out.after HB1.out (Nat.le_refl _))).mono ?_
  rintro e w2 ⟨rfl, hb⟩
  rw [HS.out]
  have HB2 := Lib.hid (HB1.out.trans (hb.mono HB1.out.size))
  have HA2 := Lib.hid (HA1.out.after hb (Nat.le_refl _))
  clear hb HA1 HB1
  have m0 := HA2.out.c0 0 rfl
  have m1 := HA2.out.c1 0 rfl
  go_wp2_with fail
  clear m0 m1
  have hal := (Below.refl w2.heap.size w2).alloc (Nat.le_refl _) (.cells #[.string s, .string t] 24)
  have HBL := Lib.hid (HB2.out.trans (hal.mono HB2.out.size))
  have HAL := Lib.hid (HA2.out.after hal (Nat.le_refl _))
  clear hal HA2 HB2
  refine (short_any 20 (by decide) (pl_one _ s t)).mono ?_
  rintro e w3 ⟨rfl, hb⟩
  rw [HS2.out]
  have HB3 := Lib.hid (HBL.out.trans (hb.mono HBL.out.size))
  have HA3 := Lib.hid (HAL.out.after hb (Nat.le_refl _))
  clear hb HAL HBL
  go_wp2_with fail
  refine (rank_any (HU.out.after HB3.out (Nat.le_refl _)) (fun _ p hp => by have := HZ.out p hp; omega) (by rw [HN.out]; omega)).mono ?_
  rintro e w4 ⟨hb, hE⟩
  have HB4 := Lib.hid (HB3.out.trans (hb.mono HB3.out.size))
  have HA4 := Lib.hid (HA3.out.after hb (Nat.le_refl _))
  clear hb HA3 HB3
  rcases hE with ⟨_, rfl⟩ | ⟨h, _⟩
  rotate_left
  · rw [HC.out] at h; exact absurd h (by decide)
  rw [HC.out]
  go_wp2
  go_ret
  exact ⟨rfl, HB4.out⟩

theorem bit_one (c k : Nat) (hc : c < 65536) : bits BinOp.and IntKind.u16 ((c : Int) / 2 ^ k) 1 = ((c / 2 ^ k % 2 : Nat) : Int) := by
  have e : ((c : Int) / 2 ^ k) = ((c / 2 ^ k : Nat) : Int) := by rw [Int.natCast_ediv, Int.natCast_pow]; rfl
  have h := u16_and_nat (c / 2 ^ k) 1 (Nat.lt_of_le_of_lt (Nat.div_le_self _ _) hc) (by decide)
  rw [e]
  rw [Nat.and_one_is_mod] at h
  exact h
theorem Nums.all {k : IntKind} {w : World} {p : Option Addr} {n cap : Nat} {xs : List Nat} (h : Nums k w (.slice p n cap) xs) (hn : xs.length = n) (hj : 0 < n) : ∃ b off, p = some ⟨b, off, none⟩ ∧ b < w.heap.size ∧ ∀ j, j < n → w.cell? ⟨b, off + j, none⟩ = some (.int k (xs.getD j 0 : Nat)) := by
  obtain ⟨p', c', hv, _, _, h4⟩ := h
  injection hv with e1 e2 e3
  subst e1
  obtain ⟨b, off, rfl, hb, hat⟩ := h4 (List.ne_nil_of_length_pos (by omega))
  exact ⟨b, off, rfl, hb, fun j hj => hat.getD (by omega) rfl⟩
/-- The row of what has been seen. -/
def Seen (w : World) (g n : Nat) (L : List Nat) (k : Nat) : Prop := w.ownsRow g 4 1 (.slice (some ⟨g, 0, none⟩) n n) n (seenV L k n)
theorem Seen.cell {w : World} {g n k i : Nat} {L : List Nat} (h : Seen w g n L k) (hi : i < n) (hm : i ∉ L.take k) : w.cell? ⟨g, i, none⟩ = some (.bool false) := by
  have := World.ownsRow.cellAt h i (by simpa [seenV] using hi)
  rw [this]
  exact seen_at hi hm
theorem Seen.frozen {w : World} {g n k : Nat} {L : List Nat} (h : Seen w g n L k) (i : Nat) : w.frozen? ⟨g, i, none⟩ = false := World.ownsRow.frozenAt h i
theorem Seen.next {w : World} {g n k i : Nat} {L : List Nat} (h : Seen w g n L k) (hk : k < L.length) (hi : L.getD k 0 = i) : Seen (w.setCell ⟨g, i, none⟩ (.bool true)) g n L (k + 1) := by
  have := (World.ownsRow.stored h i (.bool true)).1
  rw [seen_set hk hi] at this
  exact this
theorem Seen.below {w w' : World} {g n k B : Nat} {L : List Nat} (h : Seen w g n L k) (hb : Below B w w') (hB : w.heap.size ≤ B) : Seen w' g n L k := by
  have hl := (World.ownsRow.lt h g (by simp [Value.ownBlock])).2
  obtain ⟨h1, h2⟩ := h
  refine ⟨h1, ?_⟩
  rcases h2 with h2 | ⟨g', cap, cur, hv, hb', hg, hr⟩
  · exact .inl h2
  · have e : g' = g := by
      injection hv with e1 e2 e3
      injection e1 with e1
      injection e1 with e1
      exact e1.symm
    subst e
    exact .inr ⟨g', cap, cur, hv, hb', by rw [hb.block g' (by omega)]; exact hg, hr⟩

set_option maxRecDepth 100000 in
set_option maxHeartbeats 16000000 in
theorem fewest_main {v : Value} {ps : List PP} (s t : ByteArray) (c : Nat) (hc16 : c < 65536) {w : World} (hv : PL w v ps) (hT : Tabs w) (h : ps.length ≤ 10) (hs : shortB 20 ps = true) (hs2 : shortB 20 [(s, t)] = true) (hc : chkL [ps] = 0) :
    Calls Tryz.prog 13 #[v, pV s t, .int .u16 c] w (BoolPost w true) := by
  have hz := shortB_iff.1 hs
  have hz2 := (shortB_iff.1 hs2) (s, t) (by simp)
  dsimp only at hz2
  have HZ := Lib.hid hz
  have HZ2 : Hid (s.size ≤ 1000000 ∧ t.size ≤ 1000000) := ⟨by omega, by omega⟩
  have HC := Lib.hid hc
  have HOK : Hid (∀ p ∈ ps, okP p.1 p.2 = true) := (chkL_one hc).2
  obtain ⟨i0, hi, hz0, hz1, hz2'⟩ := info_parts info_bool
  skip
  obtain ⟨n, hn⟩ : ∃ n, ps.length = n := ⟨_, rfl⟩
  obtain ⟨p1, c1, rfl⟩ : ∃ p c, v = .slice p n c := by obtain ⟨p, c, h, _⟩ := id hv; exact ⟨_, _, by rw [← hn]; exact h⟩
  have HU := Lib.hid hv
  have HN := Lib.hid hn
  have HT := Lib.hid hT
  have hl : ¬ (10 : Int) < n := by omega
  have hld : decide ((10 : Int) < n) = false := decide_eq_false hl
  have hn10 : n ≤ 10 := by omega
  have HS := Lib.hid hs
  have HS2 := Lib.hid hs2
  clear hv hn hT h hs hs2 hz hc hz2
  skip
  go_enter Tryz.func13, Tryz.ntmps13
  go_wp2_with fail
  obtain ⟨w0, hw0⟩ : ∃ w0, w.alloc (pObj s t) = w0 := ⟨_, rfl⟩
  rw [hw0]
  have HB0 : Hid (Below w.heap.size w w0) := by rw [← hw0]; exact (Below.refl _ w).alloc (Nat.le_refl _) _
  have HA0 : Hid (Ats [(w.heap.size, s, t)] w0) := by rw [← hw0]; exact (Ats.nil w).push s t
  clear hw0
  refine (alive_any _ (HT.out.below HB0.out (Nat.le_refl _))).mono ?_
  rintro e w1 ⟨rfl, hb1⟩
  have HB1 := Lib.hid (HB0.out.trans (hb1.mono HB0.out.size))
  have HA1 := Lib.hid (HA0.out.after hb1 (Nat.le_refl _))
  clear hb1 HA0 HB0
  go_wp2_with fail
  refine (short_any 20 (by decide) (HU.out.after HB1.out (Nat.le_refl _))).mono ?_
  rintro e w2 ⟨rfl, hb⟩
  rw [HS.out]
  have HB2 := Lib.hid (HB1.out.trans (hb.mono HB1.out.size))
  have HA2 := Lib.hid (HA1.out.after hb (Nat.le_refl _))
  clear hb HA1 HB1
  have m0 := HA2.out.c0 0 rfl
  have m1 := HA2.out.c1 0 rfl
  go_wp2_with fail
  clear m0 m1
  have hal := (Below.refl w2.heap.size w2).alloc (Nat.le_refl _) (.cells #[.string s, .string t] 24)
  have HBL := Lib.hid (HB2.out.trans (hal.mono HB2.out.size))
  have HAL := Lib.hid (HA2.out.after hal (Nat.le_refl _))
  clear hal HA2 HB2
  refine (short_any 20 (by decide) (pl_one _ s t)).mono ?_
  rintro e w3 ⟨rfl, hb⟩
  rw [HS2.out]
  have HB3 := Lib.hid (HBL.out.trans (hb.mono HBL.out.size))
  have HA3 := Lib.hid (HAL.out.after hb (Nat.le_refl _))
  clear hb HAL HBL
  go_wp2_with fail
  refine (rank_any (HU.out.after HB3.out (Nat.le_refl _)) (fun _ p hp => by have := HZ.out p hp; omega) (by rw [HN.out]; omega)).mono ?_
  rintro e w4 ⟨hb, hE⟩
  have HB4 := Lib.hid (HB3.out.trans (hb.mono HB3.out.size))
  have HA4 := Lib.hid (HA3.out.after hb (Nat.le_refl _))
  clear hb HA3 HB3
  rcases hE with ⟨h, _⟩ | ⟨_, v2, L, rfl, hL, hv2⟩
  · exact absurd HC.out h
  have hrl : (rats ps).length = n := by rw [← HN.out]; simp [rats]
  have hLL : L.length = n := by rw [hL.len, hrl]
  have hLM : ∀ i ∈ L, i < n := fun i hi => by have := hL.lt i hi; rw [hrl] at this; exact this
  obtain ⟨p2, c2, rfl⟩ : ∃ p c, v2 = .slice p n c := by obtain ⟨p, c, h, _⟩ := id hv2; exact ⟨_, _, by rw [← hLL]; exact h⟩
  have HL := Lib.hid hL
  have HV := Lib.hid hv2
  have HLL := Lib.hid hLL
  have HLM := Lib.hid hLM
  clear hL hv2 hLL hLM hrl
  go_wp2_with (at_make; refine wpList_make_full _ rfl _ _ 85 rfl w4.heap.size 4 i0 (.bool false) 1 Tryz.underlying85 hi hz0 hz1 _ _ _ _ n rfl rfl rfl rfl ?b2 ?b3 (Nat.le_refl _) ?_)
  case b2 => rw [hz2']; omega
  case b3 => unfold maxLen; omega
  intro w5 hown hgrow
  obtain ⟨g, hg⟩ : ∃ g, w4.heap.size = g := ⟨_, rfl⟩
  rw [hg] at hown ⊢
  have HSE : Hid (Seen w5 g n L 0) := by
    show World.ownsRow _ _ _ _ _ _ _
    rw [seen_start, ← toList_madeCells_one]
    exact hown
  have HBG : Hid (Below g w4 w5) := (Below.refl g w4).grown hgrow (by omega) (fun k h => by cases h)
  have HG : Hid (w.heap.size ≤ g ∧ w4.heap.size = g) := ⟨by rw [← hg]; exact HB4.out.size, hg⟩
  clear hown hgrow hg
  go_wp2
  go_loopw [58] (fun vi wr => ∃ k : Nat, vi = .int .i64 k ∧ k ≤ n ∧ Hid (Seen wr g n L k) ∧ Hid (Below g w4 wr)) (fun vi _ => n - (intOf vi).toNat)
  case atStart => exact ⟨0, rfl, Nat.zero_le _, HSE, HBG⟩
  case round =>
    clear HSE HBG
    obtain ⟨k, rfl, hk, HSE, HB⟩ := hrel
    have HBZ : Hid (Below w.heap.size w wr) := HB4.out.trans (HB.out.mono HG.out.1)
    by_cases hlt : k < n
    · have hltz : (k : Int) < n := by omega
      obtain ⟨rb, ro, rfl, hrb, hcr⟩ := HV.out.all HLL.out (by omega)
      obtain ⟨i, hi'⟩ : ∃ i, L.getD k 0 = i := ⟨_, rfl⟩
      have cr := hcr k hlt
      rw [hi'] at cr
      have hin : i < n := HLM.out i (by rw [← hi']; simp [List.getD, HLL.out, hlt])
      have hgs := HG.out.2
      have c0 := (HB.out.cell (p := ⟨rb, ro + k, none⟩) (by rw [← hgs]; exact hrb)).trans cr
      have cs := HSE.out.cell hin (nodup_fresh HL.out.nodup (by rw [HLL.out]; exact hlt) hi')
      have fs := HSE.out.frozen i
      have hi0 : (0 : Int) ≤ i := by omega
      have hi1 : (i : Int) < n := by omega
      have hi2 : ¬ (i : Int) < 0 := by omega
      have hi3 : ¬ (n : Int) ≤ i := by omega
      have hi4 : decide ((i : Int) < 0) = false := decide_eq_false hi2
      have hi5 : decide ((n : Int) ≤ i) = false := decide_eq_false hi3
      have HNX : Hid (Seen (wr.setCell ⟨g, i, none⟩ (.bool true)) g n L (k + 1)) := HSE.out.next (by rw [HLL.out]; exact hlt) hi'
      have HBX : Hid (Below g w4 (wr.setCell ⟨g, i, none⟩ (.bool true))) := HB.out.setCell (p := ⟨g, i, none⟩) (Nat.le_refl _) _
      have HI := Lib.hid hi'
      have HRB := Lib.hid (And.intro hrb hcr)
      clear hrb hcr cr hi'
      rcases Nat.eq_zero_or_pos k with hk0 | hk0
      · subst hk0
        rw [Nat.add_zero] at c0
        go_wp2
        go_roundw
        case rel => exact ⟨1, by go_num, by omega, HNX, HBX⟩
        case measure => simp [intOf]; omega
      · obtain ⟨kp, rfl⟩ : ∃ kp, k = kp + 1 := ⟨k - 1, by omega⟩
        have hkz : (0 : Int) < (kp : Int) + 1 := by omega
        have hkp0 : (0 : Int) ≤ kp := by omega
        have hkp1 : (kp : Int) < n := by omega
        have hwp : IntKind.i64.wrap (kp : Int) = (kp : Int) := by rw [IntKind.wrap_i64]; omega
        obtain ⟨y, hy⟩ : ∃ y, L.getD kp 0 = y := ⟨_, rfl⟩
        have hyn : y < n := HLM.out y (by rw [← hy]; simp [List.getD, HLL.out, Nat.lt_of_succ_lt hlt])
        have hge := geR_at HL.out.2 (by rw [HLL.out]; exact hlt) HI.out hy
        obtain ⟨b, o, sy, ty, sx, tx, rfl, e1, e2, hcs⟩ := HU.out.two HN.out hyn hin
        have q1 : IsP (ratP sy ty) sy ty := isP_of_ok (HOK.out (sy, ty) (List.mem_of_getElem? e1))
        have q2 : IsP (ratP sx tx) sx tx := isP_of_ok (HOK.out (sx, tx) (List.mem_of_getElem? e2))
        obtain ⟨r, hr⟩ : ∃ r, sgnR (ratP sy ty) (ratP sx tx) = r := ⟨_, rfl⟩
        unfold geR at hge
        rw [rats_at e1, rats_at e2] at hge
        have hyi : r = 0 → (y : Int) < i := fun h0 => by
          rw [← hr] at h0
          unfold sgnR at h0
          rcases hge with h1 | ⟨_, h1⟩
          · rw [if_neg (by grind), if_neg (by grind)] at h0
            exact absurd h0 (by decide)
          · omega
        have hr0 : 0 ≤ r := by
          rw [← hr]
          unfold sgnR
          rcases hge with h1 | ⟨h1, _⟩
          · rw [if_neg (by grind), if_neg (by grind)]; decide
          · rw [if_neg (by grind), if_pos h1]; decide
        have hy0 : (0 : Int) ≤ y := by omega
        have hy1 : (y : Int) < n := by omega
        have HQ1 := Lib.hid q1
        have HQ2 := Lib.hid q2
        have HR := Lib.hid hr
        have hgs := HG.out.2
        have hS : ∀ w', Below g w4 w' → w'.cell? ⟨rb, ro + kp, none⟩ = some (.int .i64 (y : Nat)) ∧ w'.cell? ⟨b, o + y * 2, none⟩ = some (.string sy) ∧ w'.cell? ⟨b, o + y * 2 + 1, none⟩ = some (.string ty) ∧ w'.cell? ⟨b, o + i * 2, none⟩ = some (.string sx) ∧ w'.cell? ⟨b, o + i * 2 + 1, none⟩ = some (.string tx) := fun w' h => by
          have h1 := HRB.out.2 kp (by omega)
          rw [hy] at h1
          exact ⟨(h.cell (p := ⟨rb, ro + kp, none⟩) (by rw [← hgs]; exact HRB.out.1)).trans h1, hcs w' (HB4.out.trans (h.mono HG.out.1))⟩
        have HKS := Lib.hid hS
        clear hS hcs q1 q2 e1 e2 hge hr hy hgs
        go_wp2_with fail
        obtain ⟨W, hW⟩ : ∃ W, wr.setCell ⟨g, i, none⟩ (.bool true) = W := ⟨_, rfl⟩
        rw [hW] at HNX HBX
        rw [hW]
        clear hW c0 cs fs HSE
        obtain ⟨k0, k1, k2, k3, k4⟩ := HKS.out W HBX.out
        have hWS : g ≤ W.heap.size := by have := HBX.out.size; have := HG.out.2; omega
        go_region_held3
          (fun w' => w'.cell? ⟨rb, ro + kp, none⟩ = some (.int .i64 (y : Nat)) ∧ w'.cell? ⟨b, o + y * 2, none⟩ = some (.string sy) ∧ w'.cell? ⟨b, o + y * 2 + 1, none⟩ = some (.string ty) ∧ w'.cell? ⟨b, o + i * 2, none⟩ = some (.string sx) ∧ w'.cell? ⟨b, o + i * 2 + 1, none⟩ = some (.string tx))
          (first | exact ⟨k0, k1, k2, k3, k4⟩ | exact HK6.out)
          (first
            | (go_at_call 37; refine (cmp_to HQ1.out HQ2.out HR.out _).mono ?_; rintro e w6 ⟨rfl, hb⟩; have HX6 : Hid (Below W.heap.size W w6) := ((Below.refl W.heap.size W).drew).trans hb; have HBY : Hid (Below g w4 w6) := HBX.out.trans (HX6.out.mono hWS); have HK6 := Lib.hid (HKS.out w6 HBY.out); clear hb))
        have HNY : Hid (Seen w6 g n L (kp + 1 + 1)) := HNX.out.below HX6.out (Nat.le_refl _)
        clear k0 k1 k2 k3 k4 HX6 HNX HBX
        obtain ⟨k0, _, _, _, _⟩ := HK6.out
        have hr1 : ¬ r < 0 := by omega
        have hr1d : decide (r < 0) = false := decide_eq_false hr1
        by_cases hrz : r = 0
        · have hyi1 : ¬ (i : Int) < y := by have := hyi hrz; omega
          have hyi2 : decide ((i : Int) < y) = false := decide_eq_false hyi1
          subst hrz
          clear hyi hr0 hr1 hr1d
          go_wp2
          go_roundw
          case rel => exact ⟨kp + 1 + 1, by go_num, by omega, HNY, HBY⟩
          case measure => simp [intOf]; omega
        · have hrb : (r == 0) = false := by rw [beq_eq_false_iff_ne]; exact hrz
          clear hyi
          go_wp2
          go_roundw
          case rel => exact ⟨kp + 1 + 1, by go_num, by omega, HNY, HBY⟩
          case measure => simp [intOf]; omega
    · obtain rfl : n = k := by omega
      have HAE := Lib.hid (HA4.out.after HB.out (Nat.le_of_eq HG.out.2))
      have HUE := Lib.hid (HU.out.after HBZ.out (Nat.le_refl _))
      have q0 := HAE.out.c0 0 rfl
      have q1 := HAE.out.c1 0 rfl
      clear HSE HB
      obtain ⟨wz, rfl⟩ : ∃ wz : World, wz = wr := ⟨_, rfl⟩
      go_wp2_with fail
      refine (cover_any (s := s) (t := t) HUE.out (fun _ p hp => by have := HZ.out p hp; omega) HZ2.out.1 HZ2.out.2 (by rw [HN.out]; omega) (HT.out.below HBZ.out (Nat.le_refl _))).mono ?_
      rintro e w6 ⟨hb, hE⟩
      have HB6 := Lib.hid (HBZ.out.trans (hb.mono HBZ.out.size))
      have HA6 := Lib.hid (HAE.out.after hb (Nat.le_refl _))
      have HU6 := Lib.hid (HUE.out.after hb (Nat.le_refl _))
      clear hb HAE q0 q1 HUE HBZ
      obtain ⟨m, f, rfl, hF⟩ : ∃ (m : Nat) (f : Int), e = .returned (.tuple #[.int .i64 m, .int .i64 f]) ∧ ((okP s t = false ∧ f = 2) ∨ (okP s t = true ∧ coverA (pick (rats ps) L) 0 (ratP s t) 0 = (m, f))) := by
        rcases hE with ⟨h, _⟩ | ⟨_, h, rfl⟩ | ⟨_, h, L', hL', m, f, h2, rfl⟩
        · exact absurd HC.out h
        · exact ⟨0, 2, rfl, .inl ⟨h, rfl⟩⟩
        · obtain rfl := hL'.unique HL.out
          exact ⟨m, f, rfl, .inr ⟨h, h2⟩⟩
      have HF := Lib.hid hF
      have HL0 := Lib.hid HL.out
      clear hE hF hlt hk
      obtain ⟨j0, hj, hj0, hj1, hj2⟩ := info_parts info_part
      obtain ⟨G, hG⟩ : ∃ G, w6.heap.size = G := ⟨_, rfl⟩
      have HGG := Lib.hid hG
      clear hG
      go_wp2
      go_loopw [16, 119] (fun vo vi wr => ∃ (k : Nat) (us : List PP), vi = .int .i64 k ∧ k ≤ n ∧ Hid (us = selP ps c k) ∧ us.length ≤ k ∧ Hid (Own wr G vo us) ∧ Hid (Below G w6 wr)) (fun _ vi _ => n - (intOf vi).toNat)
      case atStart => exact ⟨0, [], rfl, Nat.zero_le _, by first | rfl | exact Lib.hid (by simp [selP, selI]), Nat.le_refl _, Own.nil _ _, Below.refl _ _⟩
      case round =>
        obtain ⟨k, us, rfl, hk, HSL, hus, HO, HB⟩ := hrel
        obtain ⟨wy, rfl⟩ : ∃ wy : World, wy = wr := ⟨_, rfl⟩
        obtain ⟨po, co, rfl, hco, hcm, _⟩ := id HO.out.pl
        obtain ⟨z, hz⟩ : ∃ z, us.length = z := ⟨_, rfl⟩
        have HL := Lib.hid hz
        rw [hz] at hus hco HO ⊢
        clear hz
        by_cases hlt : k < n
        · have hkp : k < ps.length := by rw [HN.out]; exact hlt
          have hltz : (k : Int) < n := by omega
          have hkz : (0 : Int) ≤ k := by omega
          obtain ⟨b, o, x, y, _, _, rfl, e1, _, hcs⟩ := HU6.out.two HN.out hlt hlt
          obtain ⟨e0, e2, _, _⟩ := hcs wy (by rw [HGG.out]; exact HB.out)
          have HPK := Lib.hid e1
          clear hcs e1 hkp
          by_cases hbit : c / 2 ^ k % 2 = 1
          · have HS2' : Hid (us ++ [(x, y)] = selP ps c (k + 1)) := by show _ = _; rw [HSL.out]; exact (sel_yes hbit HPK.out).symm
            have hbv : (bits BinOp.and IntKind.u16 ((c : Int) / 2 ^ k) 1 == 1) = true := by rw [bit_one c k hc16, hbit]; rfl
            have HLN : Hid ((us ++ [(x, y)]).length ≤ k + 1) := by
              have := HL.out
              show _ ≤ _
              rw [List.length_append, HL.out]
              exact Nat.succ_le_succ hus
            have hm1 : z + 1 ≤ maxLen := by unfold maxLen; omega
            have hm2 : (z + 1) * 32 ≤ 140737488355328 := by omega
            have hownA : (wy.alloc (.cells #[.string x, .string y] 24)).ownsRow G 24 2 (.slice po z co) z (pcells us) := by
              have h := HO.out
              unfold Own at h
              rw [HL.out] at h
              exact World.ownsRow.alloc h _
            have hnews : ∀ (j : Nat) (v : Value), ([.string x, .string y] : List Value)[j]? = some v → (wy.alloc (.cells #[.string x, .string y] 24)).cell? ((⟨wy.heap.size, 0, none⟩ : Addr).add j) = some v := World.news_of_block (World.alloc_heap_new wy _)
            have al3 := (Below.refl wy.heap.size wy).alloc (Nat.le_refl _) (.cells #[.string x, .string y] 24)
            have hszG : G ≤ wy.heap.size := by have := HB.out.size; rw [HGG.out] at this; exact this
            have hm3 : G ≤ (wy.alloc (.cells #[.string x, .string y] 24)).heap.size := Nat.le_trans hszG al3.size
            clear hbit
            go_wp2_with (at_builtin; go_loud (refine wpList_append_lies _ rfl _ _ 34 rfl G 24 j0 (.agg #[.string ⟨#[]⟩, .string ⟨#[]⟩]) 2 32 Tryz.underlying34 hj hj0 hj1 hj2 rfl (by decide) _ z (pcells us) rfl hownA ⟨wy.heap.size, 0, none⟩ 1 1 [.string x, .string y] rfl rfl hnews (by simp [Value.oneCell']) (by decide) hm1 hm2 hm3 (wy.heap.size + 1) (by simp) ?_); intro gg cap5 w7 hown5 hgrow hat hlt5)
            have HB7 : Hid (Below G w6 w7) := (HB.out.alloc hszG _).grown hgrow hm3 (fun z hz => (World.ownsRow.lt hownA z hz).1)
            have HO7 : Hid (Own w7 G (.slice (some ⟨gg, 0, none⟩) (z + 1) cap5) (us ++ [(x, y)])) := by
              show w7.ownsRow _ _ _ _ _ _
              rw [List.length_append, HL.out, pcells_append]; exact hown5
            clear hgrow hat hlt5 hown5 hownA hnews al3 hm3
            go_wp2
            go_roundw
            case rel => exact ⟨k + 1, us ++ [(x, y)], by go_num, by omega, HS2', HLN.out, HO7, HB7⟩
            case measure => simp [intOf]; omega
          · have HS2' : Hid (us = selP ps c (k + 1)) := by show _ = _; rw [HSL.out]; exact (sel_no hbit).symm
            have hbv : (bits BinOp.and IntKind.u16 ((c : Int) / 2 ^ k) 1 == 1) = false := by
              rw [bit_one c k hc16]
              have : c / 2 ^ k % 2 = 0 := by omega
              rw [this]; rfl
            have HLN : Hid (us.length ≤ k + 1) := by have := HL.out; show _ ≤ _; omega
            clear hbit
            go_wp2
            go_roundw
            case rel => exact ⟨k + 1, us, by go_num, by omega, HS2', HLN.out, HO, HB⟩
            case measure => simp [intOf]; omega
        · obtain rfl : n = k := by omega
          have HPL := Lib.hid HO.out.pl
          have HZB : Hid (Below w.heap.size w wy) := HB6.out.trans (HB.out.mono (by rw [← HGG.out]; exact HB6.out.size))
          have HA7 := Lib.hid (HA6.out.after HB.out (Nat.le_of_eq HGG.out))
          have HMP : Hid (∀ p ∈ us, p ∈ ps) := by
            show ∀ p ∈ us, p ∈ ps
            rw [HSL.out]; exact sel_mem (by rw [HN.out]; exact Nat.le_refl _)
          clear HO HB hlt hk
          go_wp2_with fail
          refine (sumOf_any HPL.out (fun _ p hp => by have := HZ.out p (HMP.out p hp); omega) (HT.out.below HZB.out (Nat.le_refl _))).mono ?_
          rintro e w7 ⟨hb, hE⟩
          obtain ⟨x, y, hSx, rfl⟩ : ∃ x y, IsP (sumR 0 (rats us)) x y ∧ e = .returned (.tuple #[pV x y, .int .i64 0]) := by
            have hzl := HL.out
            have h1 : chkL [us] = 0 := chkL_ok (fun l hl => by obtain rfl := List.mem_singleton.1 hl; omega) (fun l hl p hp => by obtain rfl := List.mem_singleton.1 hl; exact HOK.out p (HMP.out p hp))
            have h2 := (sum_fits (small_rats (fun p hp => HOK.out p (HMP.out p hp)) (fun p hp => HZ.out p (HMP.out p hp))) (by simp [rats]; omega)).2
            rcases hE with ⟨h, _⟩ | ⟨_, ⟨z', x, y, h3, h4, rfl⟩ | ⟨h3, _⟩⟩
            · exact absurd h1 h
            · rw [h2] at h3
              obtain rfl := Option.some.inj h3
              exact ⟨x, y, h4, rfl⟩
            · rw [h2] at h3; cases h3
          have hbp := hb.alloc hb.size (pObj x y)
          have HB8 : Hid (Below w.heap.size w (w7.alloc (pObj x y))) := HZB.out.trans (hbp.mono HZB.out.size)
          have HA8 := Lib.hid ((HA7.out.after hb (Nat.le_refl _)).push x y)
          have HSX := Lib.hid hSx
          clear hb hbp hE hSx HA7 HZB
          have q0 := HA8.out.c0 1 rfl
          have q1 := HA8.out.c1 1 rfl
          cases ho : okP s t
          · have HE := Lib.hid (okE_no ho)
            obtain rfl : f = 2 := by
              rcases HF.out with ⟨_, h⟩ | ⟨h, _⟩
              · exact h
              · rw [ho] at h; cases h
            clear ho
            go_wp2_with fail
            refine (check_any s t _ HZ2.out.1 HZ2.out.2).mono ?_
            rintro e w8 ⟨rfl, hb⟩
            rw [HE.out]
            have HB9 := Lib.hid (HB8.out.trans (hb.mono HB8.out.size))
            clear hb q0 q1
            go_wp2
            go_ret
            exact ⟨rfl, HB9.out⟩
          · have HE := Lib.hid (okE_yes ho)
            have HP := Lib.hid (isP_of_ok ho)
            have hcv : coverA (pick (rats ps) L) 0 (ratP s t) 0 = (m, f) := by
              rcases HF.out with ⟨h, _⟩ | ⟨_, h⟩
              · rw [ho] at h; cases h
              · exact h
            obtain ⟨r, hr⟩ : ∃ r, sgnR (sumR 0 (rats us)) (ratP s t) = r := ⟨_, rfl⟩
            have hmf : 0 ≤ r → f = 0 ∧ m ≤ z := fun h0 => by
              have hle : ratP s t ≤ sumR 0 (rats us) := by
                rw [← hr] at h0
                unfold sgnR at h0
                split at h0
                · exact absurd h0 (by decide)
                · grind
              have hus2 : us = selP ps c ps.length := by rw [HSL.out, HN.out]
              obtain ⟨m', h1, h2⟩ := fewest_plain (c := c) (P := ratP s t) HOK.out HZ.out (by rw [HN.out]; exact hn10) HL0.out (by rw [← hus2]; exact hle)
              rw [hcv] at h1
              obtain ⟨rfl, rfl⟩ := Prod.mk.inj h1
              rw [← hus2, HL.out] at h2
              exact ⟨rfl, h2⟩
            have HR := Lib.hid hr
            clear ho hcv hr
            go_wp2_with fail
            refine (check_any s t _ HZ2.out.1 HZ2.out.2).mono ?_
            rintro e w8 ⟨rfl, hb⟩
            rw [HE.out]
            have HB9 := Lib.hid (HB8.out.trans (hb.mono HB8.out.size))
            have HA9 := Lib.hid (HA8.out.after hb (Nat.le_refl _))
            clear hb q0 q1 HA8
            have q0 := HA9.out.c0 1 rfl
            have q1 := HA9.out.c1 1 rfl
            have q2 := HA9.out.c0 0 rfl
            have q3 := HA9.out.c1 0 rfl
            go_wp2_with fail
            refine (cmp_to HSX.out HP.out HR.out _).mono ?_
            rintro e w9 ⟨rfl, hb⟩
            have HBA := Lib.hid (HB9.out.trans (hb.mono HB9.out.size))
            clear hb q0 q1 q2 q3 HA9
            by_cases h0 : 0 ≤ r
            · obtain ⟨rfl, hm⟩ := hmf h0
              have hm1 : (m : Int) ≤ z := by omega
              have hm2 : decide ((m : Int) ≤ z) = true := decide_eq_true hm1
              clear hmf hm
              go_wp2
              go_ret
              exact ⟨by simp, HBA.out⟩
            · have h0d : decide (0 ≤ r) = false := decide_eq_false h0
              clear hmf
              go_wp2
              go_ret
              exact ⟨by simp, HBA.out⟩
theorem fewest_law {v : Value} {ps : List PP} {w : World} (hv : PL w v ps) (s t : ByteArray) (c : Nat) (hc : c < 65536) (hT : Tabs w) :
    Calls Tryz.prog 13 #[v, pV s t, .int .u16 c] w (BoolPost w true) := by
  by_cases h : ps.length ≤ 10
  · cases hs : shortB 20 ps
    · exact fewest_early1 s t c hv hT h hs
    · cases hs2 : shortB 20 [(s, t)]
      · exact fewest_early2 s t c hv hT h hs hs2
      · by_cases hk : chkL [ps] = 0
        · exact fewest_main s t c hc hv hT h hs hs2 hk
        · exact fewest_early3 s t c hv hT h hs hs2 hk
  · exact fewest_early0 s t c hv hT (by omega)
end Go.Proofs.YthbpadjhlkdpeaaGreatDoor
