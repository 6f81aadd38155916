/- The parts DGreat, Long6, DSlope, RSlope of a proof, put together by program (merge6.py). -/
import Derived.Test.YtcncdepjbhnknaaGreatDoorH19
import Derived.Test.YtcncdepjbhnknaaGreatDoorH15
import Derived.Test.YtcncdepjbhnknaaGreatDoorH11
import Derived.Test.YtcncdepjbhnknaaGreatDoorR05
import Derived.Test.YtcncdepjbhnknaaGreatDoorH20
import Derived.Test.YtcncdepjbhnknaaGreatDoorR06
set_option linter.unusedVariables false
set_option linter.unusedSimpArgs false
namespace Go.Proofs.YtcncdepjbhnknaaGreatDoor
open Go.RowKit Go.Shelf
attribute [local go_sem ↓] Go.wp_at_zero Go.wp_at_succ

def fewB (b : BB) : Prop := (b.1.1.size ≤ 30 ∧ b.1.2.size ≤ 30) ∧ (b.2.1.size ≤ 30 ∧ b.2.2.size ≤ 30)
def GreatPost (bs : List BB) (w : World) (e : Ending) (w' : World) : Prop := ∃ r : Bool, e = .returned (.bool r) ∧ (r = false → bs.length ≤ 66 ∧ ∀ i, i < bs.length → fewB (bAt bs i)) ∧ Below w.heap.size w w'
theorem few_lim {bs : List BB} (h : ∀ i, i < bs.length → fewB (bAt bs i)) : LimB bs := fun x hx => by
  obtain ⟨i, hi, rfl⟩ := List.getElem_of_mem hx
  have h1 := h i hi
  rw [bAt_get hi] at h1
  obtain ⟨⟨a1, a2⟩, a3, a4⟩ := h1
  exact ⟨⟨by omega, by omega⟩, by omega, by omega⟩
abbrev S4g (b o : Nat) (s t u v : ByteArray) (w' : World) : Prop := w'.cell? ⟨b, o, none⟩ = some (.string s) ∧ w'.cell? ⟨b, o + 1, none⟩ = some (.string t) ∧ w'.cell? ⟨b, o + 2, none⟩ = some (.string u) ∧ w'.cell? ⟨b, o + 3, none⟩ = some (.string v)
set_option maxRecDepth 100000 in
set_option maxHeartbeats 4000000 in
theorem great_any {v : Value} {bs : List BB} {w : World} (hv : BL w v bs) : Calls Tryz.prog 19 #[v] w (GreatPost bs w) := by
  obtain ⟨n, hn⟩ : ∃ n, bs.length = n := ⟨_, rfl⟩
  obtain ⟨p, c, rfl⟩ : ∃ p c, v = .slice p n c := by obtain ⟨p, c, h, _⟩ := id hv; exact ⟨_, _, by rw [← hn]; exact h⟩
  obtain ⟨_, hcc, hnc⟩ := hv.len
  have HV := Lib.hid hv
  have HN := Lib.hid hn
  clear hv hn
  by_cases hl : n ≤ 66
  · have hno : ¬ (66 : Int) < (n : Int) := by omega
    go_enter Tryz.func19, Tryz.ntmps19
    go_wp2_with fail
    go_loopw [3] (fun i wr => ∃ k : Nat, i = .int .i64 k ∧ k ≤ n ∧ Hid (∀ j, j < k → fewB (bAt bs j)) ∧ Hid (Below w.heap.size w wr)) (fun i _ => n - (intOf i).toNat)
    case atStart => exact ⟨0, rfl, Nat.zero_le _, fun j hj => by omega, Below.refl _ _⟩
    case round =>
      obtain ⟨k, rfl, hk, HK, HB⟩ := hrel
      by_cases hlt : k < n
      · obtain ⟨b, off, rfl, _, hat⟩ := HV.out.at HN.out (by omega)
        have hS := hat wr.drew HB.out.drew k hlt
        obtain ⟨q, hq⟩ : ∃ q, bAt bs k = q := ⟨_, rfl⟩
        rw [hq] at hS
        have HQ := Lib.hid hq
        obtain ⟨⟨s, t⟩, u, v⟩ := q
        dsimp only at hS
        have i0' : (0 : Int) ≤ (k : Int) := by omega
        have i1' : (k : Int) < (n : Int) := by omega
        clear hat hq
        go_wp2_with fail
        refine tsteps_plain [(true, 0), (true, 1), (true, 2), (true, 3), (true, 4), (true, 5), (true, 6), (true, 7), (true, 8), (true, 9), (true, 10), (true, 11), (true, 12), (true, 13), (true, 14), (true, 15), (true, 16), (true, 17), (true, 18), (true, 19), (true, 20), (true, 21), (true, 22), (true, 23), (true, 24), (true, 25), (true, 26), (true, 27), (true, 28), (true, 29), (true, 30), (true, 31)] (S4g b (off + k * 4) s t u v) (fun _ => false)
          (by kernel_rfl) (by kernel_rfl) (by kernel_rfl) (fun _ _ => rfl) (fun _ _ o _ _ h => by cases o <;> exact h) hS ?_
        iterate 32
          refine steps_read _ rfl rfl (fun w' hS => by obtain ⟨a0, a1, a2, a3⟩ := hS; go_simp; first | rfl | (rw [if_pos (by omega)])) ?_
          simp only [List.getElem_toArray, List.getElem_cons_succ, List.getElem_cons_zero, Act.put, List.setIfInBounds_toArray, List.set_cons_zero, List.set_cons_succ]
        refine steps_end ?_
        obtain ⟨mx, hmx⟩ : ∃ mx : Int, max (s.size : Int) (max (t.size : Int) (max (u.size : Int) (v.size : Int))) = mx := ⟨_, rfl⟩
        rw [hmx]
        by_cases h30 : (30 : Int) < mx
        · go_wp2
          go_ret
          exact ⟨true, rfl, (fun h => by cases h), HB.out.drew⟩
        · go_wp2
          have hb : fewB (bAt bs k) := by
            rw [HQ.out]
            show (s.size ≤ 30 ∧ t.size ≤ 30) ∧ (u.size ≤ 30 ∧ v.size ≤ 30)
            exact ⟨⟨by omega, by omega⟩, by omega, by omega⟩
          refine ⟨⟨k + 1, by simp, by omega, ?_, HB.out.drew⟩, ?_⟩
          · intro j hj
            rcases Nat.lt_or_ge j k with h | h
            · exact HK.out j h
            · obtain rfl : j = k := by omega
              exact hb
          · simp only [intOf]
            omega
      · obtain rfl : k = n := by omega
        have HF : Hid (bs.length ≤ 66 ∧ ∀ i, i < bs.length → fewB (bAt bs i)) := ⟨by rw [HN.out]; exact hl, fun i hi => HK.out i (by rw [← HN.out]; exact hi)⟩
        go_wp2
        go_ret
        exact ⟨false, rfl, fun _ => HF.out, HB.out⟩
  · have hno : (66 : Int) < (n : Int) := by omega
    go_enter Tryz.func19, Tryz.ntmps19
    go_wp2
    go_ret
    exact ⟨true, rfl, (fun h => by cases h), Below.refl _ _⟩
end Go.Proofs.YtcncdepjbhnknaaGreatDoor
namespace Go.Proofs.YtcncdepjbhnknaaGreatDoor
open Go.RowKit Go.Shelf

def LongPost (ps : List PP) (w : World) (e : Ending) (w' : World) : Prop := ∃ r : Bool, e = .returned (.bool r) ∧ (r = false → (∀ p ∈ ps, p.1.size ≤ 310 ∧ p.2.size ≤ 310) ∧ ps.length ≤ 520) ∧ Below w.heap.size w w'
set_option maxRecDepth 100000 in
set_option maxHeartbeats 4000000 in
theorem long_any {v : Value} {ps : List PP} {w : World} (hv : PL w v ps) : Calls Tryz.prog 36 #[v] w (LongPost ps w) := by
  obtain ⟨p, cap, rfl, hcap, hmax, hp⟩ := hv
  obtain ⟨n, hn⟩ : ∃ n, ps.length = n := ⟨_, rfl⟩
  rw [hn] at hcap ⊢
  unfold maxLen at hmax
  have HN := Lib.hid hn
  have HP := Lib.hid hp
  clear hn hp
  go_enter Tryz.func36, Tryz.ntmps36
  go_wp2
  go_loopw [7] (fun i wr => ∃ (k : Nat), i = .int .i64 k ∧ k ≤ n ∧ Hid (∀ j (h : j < ps.length), j < k → ps[j].1.size ≤ 310 ∧ ps[j].2.size ≤ 310) ∧ Hid (Below w.heap.size w wr)) (fun i _ => n - (intOf i).toNat)
  case atStart => exact ⟨0, rfl, Nat.zero_le _, fun j _ h => by omega, Below.refl _ _⟩
  case round =>
    obtain ⟨k, rfl, hk, HK, HB⟩ := hrel
    obtain ⟨w0, rfl⟩ : ∃ w0 : World, w0 = wr := ⟨_, rfl⟩
    by_cases hlt : k < n
    · obtain ⟨bb, off, rfl, hbl, hat⟩ := HP.out (List.ne_nil_of_length_pos (by rw [HN.out]; omega))
      have hkp : k < ps.length := by rw [HN.out]; exact hlt
      obtain ⟨e0, e1⟩ := (hat.below HB.out hbl) k hkp
      obtain ⟨u, hu⟩ : ∃ u, ps[k].1 = u := ⟨_, rfl⟩
      obtain ⟨v, hv⟩ : ∃ v, ps[k].2 = v := ⟨_, rfl⟩
      rw [hu] at e0
      rw [hv] at e1
      have HU := Lib.hid hu
      have HV := Lib.hid hv
      have HB2 := Lib.hid (HB.out.alloc HB.out.size (.cells #[.string u, .string v] 46))
      clear hat hu hv
      by_cases h1 : (310 : Int) < u.size
      · go_wp2
        go_ret
        exact ⟨true, rfl, (fun h => by cases h), HB2.out⟩
      · by_cases h2 : (310 : Int) < v.size
        · go_wp2
          go_ret
          exact ⟨true, rfl, (fun h => by cases h), HB2.out⟩
        · have HK2 : Hid (∀ j (h : j < ps.length), j < k + 1 → ps[j].1.size ≤ 310 ∧ ps[j].2.size ≤ 310) := fun j h1 h2 => by
            rcases Nat.lt_or_ge j k with h3 | h3
            · exact HK.out j h1 h3
            · obtain rfl : j = k := by omega
              rw [HU.out, HV.out]; omega
          go_wp2
          go_roundw
          case rel => exact ⟨k + 1, by go_num, by omega, HK2, HB2⟩
          case measure => simp [intOf]; omega
    · have HQ : Hid (∀ p ∈ ps, p.1.size ≤ 310 ∧ p.2.size ≤ 310) := fun p hp => by
        obtain ⟨j, hj, rfl⟩ := List.getElem_of_mem hp
        exact HK.out j hj (by rw [HN.out] at hj; omega)
      by_cases hl : (520 : Int) < n
      · go_wp2
        go_ret
        exact ⟨true, rfl, (fun h => by cases h), HB.out⟩
      · have HLL : Hid (ps.length ≤ 520) := by rw [HN.out]; show n ≤ 520; omega
        go_wp2
        go_ret
        exact ⟨false, rfl, fun _ => ⟨HQ.out, HLL.out⟩, HB.out⟩
end Go.Proofs.YtcncdepjbhnknaaGreatDoor
namespace Go.Proofs.YtcncdepjbhnknaaGreatDoor
open Go.RowKit Go.Shelf
attribute [local go_sem ↓] Go.wp_at_zero Go.wp_at_succ

def SlopeG (c : Rat) (x y : ByteArray) (n : Int) : Prop := n = 0 ∧ IsP c x y
set_option maxRecDepth 100000 in
set_option maxHeartbeats 4000000 in
theorem slope1_any {w : World} {a b c d : Rat} {s0 t0 u0 v0 s1 t1 u1 v1 x1 y1 x2 y2 x y : ByteArray} (A1 B1 : Nat) (hA : w.heap[A1]? = some (bO s0 t0 u0 v0)) (hB : w.heap[B1]? = some (bO s1 t1 u1 v1))
    (hc : IsP c s0 t0) (ha : IsP a u0 v0) (hd : IsP d s1 t1) (hb : IsP b u1 v1) (h1 : IsP (b - a) x1 y1) (h2 : IsP (d - c) x2 y2) (h3 : IsP ((b - a) / (d - c)) x y) (hp : 0 < d - c) (hT : Tabs w) :
    Calls Tryz.prog 86 #[.pointer (some ⟨A1, 0, none⟩), .pointer (some ⟨B1, 0, none⟩)] w (DoneD (SlopeG ((b - a) / (d - c))) w) := by
  have hb0 : Below w.heap.size w (w.alloc (pObj ⟨#[]⟩ ⟨#[]⟩)) := (Below.refl _ w).alloc (Nat.le_refl _) _
  have HB0 := Lib.hid hb0
  have HR := Lib.hid (rise_to hc ha hd hb h1 h2 h3 hp _ (hT.below hb0 (Nat.le_refl _)))
  have HH3 := Lib.hid h3
  have la := (Array.getElem?_eq_some_iff.1 hA).1
  have lb := (Array.getElem?_eq_some_iff.1 hB).1
  have a0 : (w.alloc (pObj ⟨#[]⟩ ⟨#[]⟩)).cell? ⟨A1, 0, none⟩ = some (.string s0) := (cell_old _ _ _ la).trans (known_cell hA 0 rfl)
  have a1 : (w.alloc (pObj ⟨#[]⟩ ⟨#[]⟩)).cell? ⟨A1, 1, none⟩ = some (.string t0) := (cell_old _ _ _ la).trans (known_cell hA 1 rfl)
  have a2 : (w.alloc (pObj ⟨#[]⟩ ⟨#[]⟩)).cell? ⟨A1, 2, none⟩ = some (.string u0) := (cell_old _ _ _ la).trans (known_cell hA 2 rfl)
  have a3 : (w.alloc (pObj ⟨#[]⟩ ⟨#[]⟩)).cell? ⟨A1, 3, none⟩ = some (.string v0) := (cell_old _ _ _ la).trans (known_cell hA 3 rfl)
  have b0 : (w.alloc (pObj ⟨#[]⟩ ⟨#[]⟩)).cell? ⟨B1, 0, none⟩ = some (.string s1) := (cell_old _ _ _ lb).trans (known_cell hB 0 rfl)
  have b1 : (w.alloc (pObj ⟨#[]⟩ ⟨#[]⟩)).cell? ⟨B1, 1, none⟩ = some (.string t1) := (cell_old _ _ _ lb).trans (known_cell hB 1 rfl)
  have b2 : (w.alloc (pObj ⟨#[]⟩ ⟨#[]⟩)).cell? ⟨B1, 2, none⟩ = some (.string u1) := (cell_old _ _ _ lb).trans (known_cell hB 2 rfl)
  have b3 : (w.alloc (pObj ⟨#[]⟩ ⟨#[]⟩)).cell? ⟨B1, 3, none⟩ = some (.string v1) := (cell_old _ _ _ lb).trans (known_cell hB 3 rfl)
  have HP : Hid ((w.alloc (pObj ⟨#[]⟩ ⟨#[]⟩)).heap[w.heap.size]? = some (pObj ⟨#[]⟩ ⟨#[]⟩)) := World.alloc_heap_new w _
  clear hb0 hA hB la lb hc ha hd hb h1 h2 h3 hp hT
  go_enter Tryz.func86, Tryz.ntmps86
  go_wp2_with fail
  refine HR.out.mono ?_
  rintro e w2 ⟨rfl, hb⟩
  have h2 : w2.heap[w.heap.size]? = some (pObj ⟨#[]⟩ ⟨#[]⟩) := (hb.block _ (by simp)).trans HP.out
  have HB2 : Hid (Below w.heap.size w w2) := HB0.out.trans (hb.mono HB0.out.size)
  have H2 := Lib.hid h2
  clear a0 a1 a2 a3 b0 b1 b2 b3 hb HR HP
  have c0 : w2.cell? ⟨w.heap.size, 0, none⟩ = some (.string ⟨#[]⟩) := known_cell h2 0 rfl
  have c1 : w2.cell? ⟨w.heap.size, 1, none⟩ = some (.string ⟨#[]⟩) := known_cell h2 1 rfl
  have f0 : w2.frozen? ⟨w.heap.size, 0, none⟩ = false := known_frozen h2 0
  have f1 : w2.frozen? ⟨w.heap.size, 1, none⟩ = false := known_frozen h2 1
  clear h2
  go_wp2
  obtain ⟨q0, q1⟩ := two_put_cells H2.out (.string x) (.string y)
  exact bodyPost_ret (v := .agg #[.string x, .string y]) (by simp [results, Tryz.f86, go_sem, q0, q1]) rfl ⟨x, y, 0, .inl ⟨rfl, rfl⟩, ⟨rfl, HH3.out⟩, two_put_below HB2.out (Nat.le_refl _) (.string x) (.string y)⟩
set_option maxRecDepth 100000 in
set_option maxHeartbeats 8000000 in
theorem dSlope_any {v : Value} {bs : List BB} {w : World} {s t : ByteArray} (hv : BL w v bs) (hz : LimB bs) (hs : s.size ≤ 1000000) (ht : t.size ≤ 1000000) (hD : DetV w) (hT : Tabs w) :
    Calls Tryz.prog 38 #[v, .agg #[.string s, .string t]] w (PartPost (SlopeA bs s t) w) := by
  obtain ⟨n, hn⟩ : ∃ n, bs.length = n := ⟨_, rfl⟩
  obtain ⟨p, c, rfl⟩ : ∃ p c, v = .slice p n c := by obtain ⟨p, c, h, _⟩ := id hv; exact ⟨_, _, by rw [← hn]; exact h⟩
  clear hn
  obtain ⟨w3, hw3⟩ : ∃ z, (w.alloc (pObj s t)).alloc (pObj ⟨#[]⟩ ⟨#[]⟩) = z := ⟨_, rfl⟩
  have hs3 : w3.heap.size = w.heap.size + 2 := by rw [← hw3]; simp
  have HX : Hid (Boxes w.heap.size [pObj s t, pObj ⟨#[]⟩ ⟨#[]⟩] w3) := by rw [← hw3]; exact Boxes.two w _ _
  have HB3 : Hid (Below w.heap.size w w3) := by rw [← hw3]; exact ((Below.refl _ w).alloc (Nat.le_refl _) _).alloc (by simp) _
  have hb4 : Below w3.heap.size w3 (w3.alloc (.cells #[.string s, .string t] 46)) := (Below.refl _ w3).alloc (Nat.le_refl _) _
  have HB4 : Hid (Below w.heap.size w (w3.alloc (.cells #[.string s, .string t] 46))) := HB3.out.trans (hb4.mono HB3.out.size)
  have hlim : LimP [(s, t)] := fun p hp => by
    rw [List.mem_singleton] at hp
    subst hp
    exact ⟨hs, ht⟩
  have HR := Lib.hid (dright_any (hv.after HB4.out (Nat.le_refl _)) hz (pl_single w3 s t) hlim (hD.below HB4.out (Nat.le_refl _)) (hT.below HB4.out (Nat.le_refl _)))
  rw [hs3] at HR
  have HX4 := Lib.hid (HX.out.below hb4 (by rw [hs3]; exact Nat.le_refl _))
  have HV := Lib.hid hv
  have HT := Lib.hid hT
  have HD := Lib.hid hD
  have d0 : w3.cell? ⟨w.heap.size, 0, none⟩ = some (.string s) := HX.out.cell 0 0 rfl rfl rfl
  have d1 : w3.cell? ⟨w.heap.size, 1, none⟩ = some (.string t) := HX.out.cell 0 1 rfl rfl rfl
  have hs3' := hs3
  rw [← hw3] at d0 d1 HR HX4 HB4 hs3'
  clear hv hz hD hT hb4 hw3 hs hs3 HB3 HX hlim ht
  go_enter Tryz.func38, Tryz.ntmps38
  go_wp2_with fail
  refine HR.out.mono ?_
  rintro e w5 ⟨hE, hb⟩
  have HX5 := Lib.hid (HX4.out.below hb (by simp))
  have HB5 := Lib.hid (HB4.out.trans (hb.mono HB4.out.size))
  clear d0 d1 hb HR HX4 HB4 hs3'
  have hl5 := HX5.out.lt
  rcases hE with ⟨hr, rfl⟩ | ⟨hr, rfl⟩
  · have HRP := Lib.hid (rightP_one.1 hr)
    have hsm := isP_small (rightP_one.1 hr).2
    have HSM := Lib.hid hsm
    have d0 : w5.cell? ⟨w.heap.size, 0, none⟩ = some (.string s) := HX5.out.cell 0 0 rfl rfl rfl
    have d1 : w5.cell? ⟨w.heap.size, 1, none⟩ = some (.string t) := HX5.out.cell 0 1 rfl rfl rfl
    have HPC := Lib.hid (piece_any (HV.out.after HB5.out (Nat.le_refl _)) HRP.out.1 hsm.1)
    clear hr hsm
    go_wp2_with fail
    refine HPC.out.mono ?_
    rintro e w6 ⟨i, j, inn, he, hA, hb⟩
    have HB6 := Lib.hid (HB5.out.trans (hb.mono HB5.out.size))
    have HX6 := Lib.hid (HX5.out.below hb (by simpa using hl5))
    obtain ⟨q0, hq0⟩ : ∃ q, bAt bs i = q := ⟨_, rfl⟩
    obtain ⟨q1, hq1⟩ : ∃ q, bAt bs j = q := ⟨_, rfl⟩
    have HQ0 := Lib.hid hq0
    have HQ1 := Lib.hid hq1
    rw [hq0, hq1] at he
    obtain ⟨⟨s0, t0⟩, u0, v0⟩ := q0
    obtain ⟨⟨s1, t1⟩, u1, v1⟩ := q1
    subst he
    clear d0 d1 hb HPC hq0 hq1 HX5 HB5 hl5
    obtain ⟨A, hAs⟩ : ∃ A, w6.heap.size = A := ⟨_, rfl⟩
    obtain ⟨w7, hw7⟩ : ∃ z, (w6.alloc (bO s0 t0 u0 v0)).alloc (bO s1 t1 u1 v1) = z := ⟨_, rfl⟩
    have hal : Below w6.heap.size w6 w7 := by rw [← hw7]; exact ((Below.refl _ w6).alloc (Nat.le_refl _) _).alloc (by simp) _
    have HB7 : Hid (Below w.heap.size w w7) := HB6.out.trans (hal.mono HB6.out.size)
    have HX7 := Lib.hid (HX6.out.below hal HX6.out.lt)
    have HY7 : Hid (Boxes A [bO s0 t0 u0 v0, bO s1 t1 u1 v1] w7) := by rw [← hw7, ← hAs]; exact Boxes.two w6 _ _
    have c0 : w7.cell? ⟨w.heap.size + 1, 0, none⟩ = some (.string ⟨#[]⟩) := HX7.out.cell 1 0 rfl rfl rfl
    have c1 : w7.cell? ⟨w.heap.size + 1, 1, none⟩ = some (.string ⟨#[]⟩) := HX7.out.cell 1 1 rfl rfl rfl
    have f0 : w7.frozen? ⟨w.heap.size + 1, 0, none⟩ = false := HX7.out.free 1 0 rfl rfl
    have f1 : w7.frozen? ⟨w.heap.size + 1, 1, none⟩ = false := HX7.out.free 1 1 rfl rfl
    rcases hA with ⟨hp, ⟨hi, rfl, rfl⟩ | ⟨hi, rfl, rfl⟩⟩
    · have hC := HRP.out.1
      obtain ⟨⟨x1, y1, j1⟩, ⟨x2, y2, j2⟩, ⟨x, y, j3⟩, j4⟩ := slope_isP hC hi
      have hC0 := (hC.isC (i := i) (by omega)).1
      have hH0 := (hC.isH (i := i) (by omega)).1
      have hC1 := (hC.isC (i := i + 1) hi).1
      have hH1 := (hC.isH (i := i + 1) hi).1
      rw [HQ0.out] at hC0 hH0
      rw [HQ1.out] at hC1 hH1
      have HA : Hid (SlopeA bs s t x y 0) := by
        refine .inr ⟨HRP.out, rfl, _, ⟨i, hp, rfl⟩, ?_⟩
        unfold slo
        rw [if_pos hi]
        exact j3
      have HTR : Hid (Calls Tryz.prog 68 #[.func (.func 86) #[] #[.pointer (some ⟨A, 0, none⟩), .pointer (some ⟨A + 1, 0, none⟩)]] w7 (PartPost (SlopeG ((hR bs (i + 1) - hR bs i) / (cR bs (i + 1) - cR bs i))) w7)) :=
        dtried_any (enters_of Tryz.func86 (by kernel_rfl) rfl) fun W hW => by
          have hx := HY7.out.below hW HY7.out.lt
          have hbw := HB7.out.trans (hW.mono HB7.out.size)
          exact slope1_any A (A + 1) (hx.block 0 rfl rfl) (hx.block 1 rfl rfl) hC0 hH0 hC1 hH1 j1 j2 j3 j4 (HT.out.below hbw (Nat.le_refl _))
      have HJ3 : Hid (IsP ((hR bs (i + 1) - hR bs i) / (cR bs (i + 1) - cR bs i)) x y) := j3
      clear j1 j2 j3 j4 hC hC0 hH0 hC1 hH1 hp hi hal
      go_wp2_with fail
      refine HTR.out.mono ?_
      rintro e w8 ⟨x', y', m, rfl, ⟨rfl, hA⟩, hb⟩
      obtain ⟨rfl, rfl⟩ := isP_one' hA HJ3.out rfl
      have HX8 := Lib.hid (HX7.out.below hb HX7.out.lt)
      have HB8 := Lib.hid (HB7.out.trans (hb.mono HB7.out.size))
      clear c0 c1 f0 f1 hb hA HTR hw7 hAs
      have c0 : w8.cell? ⟨w.heap.size + 1, 0, none⟩ = some (.string ⟨#[]⟩) := HX8.out.cell 1 0 rfl rfl rfl
      have c1 : w8.cell? ⟨w.heap.size + 1, 1, none⟩ = some (.string ⟨#[]⟩) := HX8.out.cell 1 1 rfl rfl rfl
      have f0 : w8.frozen? ⟨w.heap.size + 1, 0, none⟩ = false := HX8.out.free 1 0 rfl rfl
      have f1 : w8.frozen? ⟨w.heap.size + 1, 1, none⟩ = false := HX8.out.free 1 1 rfl rfl
      go_wp2
      obtain ⟨q0, q1⟩ := two_put_cells (HX8.out.block 1 (b := w.heap.size + 1) rfl rfl) (.string x') (.string y')
      exact bodyPost_ret (v := .tuple #[.agg #[.string x', .string y'], .int .i64 0]) (by simp [results, Tryz.f38, go_sem, q0, q1]) rfl ⟨x', y', 0, rfl, HA.out, two_put_below HB8.out (by show _ ≤ _; omega) (.string x') (.string y')⟩
    · have HA : Hid (SlopeA bs s t ⟨#[48]⟩ ⟨#[49]⟩ 0) := by
        refine .inr ⟨HRP.out, rfl, _, ⟨j, hp, rfl⟩, ?_⟩
        unfold slo
        rw [if_neg (by omega)]
        exact isP_zero
      have z0 := (HD.out.below HB7.out (Nat.le_refl _)).z0
      have z1 := (HD.out.below HB7.out (Nat.le_refl _)).z1
      clear hp hi hal
      go_wp2
      obtain ⟨q0, q1⟩ := two_put_cells (HX7.out.block 1 (b := w.heap.size + 1) rfl rfl) (.string ⟨#[48]⟩) (.string ⟨#[49]⟩)
      exact bodyPost_ret (v := .tuple #[.agg #[.string ⟨#[48]⟩, .string ⟨#[49]⟩], .int .i64 0]) (by simp [results, Tryz.f38, go_sem, q0, q1]) rfl ⟨⟨#[48]⟩, ⟨#[49]⟩, 0, rfl, HA.out, two_put_below HB7.out (by show _ ≤ _; omega) (.string ⟨#[48]⟩) (.string ⟨#[49]⟩)⟩
  · have HA : Hid (SlopeA bs s t ⟨#[]⟩ ⟨#[]⟩ 2) := .inl ⟨fun h => hr (rightP_one.2 h), rfl, rfl, rfl⟩
    have c0 : w5.cell? ⟨w.heap.size + 1, 0, none⟩ = some (.string ⟨#[]⟩) := HX5.out.cell 1 0 rfl rfl rfl
    have c1 : w5.cell? ⟨w.heap.size + 1, 1, none⟩ = some (.string ⟨#[]⟩) := HX5.out.cell 1 1 rfl rfl rfl
    have f0 : w5.frozen? ⟨w.heap.size + 1, 0, none⟩ = false := HX5.out.free 1 0 rfl rfl
    have f1 : w5.frozen? ⟨w.heap.size + 1, 1, none⟩ = false := HX5.out.free 1 1 rfl rfl
    clear hr HV HT hl5
    go_wp2
    obtain ⟨q0, q1⟩ := two_put_cells (HX5.out.block 1 (b := w.heap.size + 1) rfl rfl) (.string ⟨#[]⟩) (.string ⟨#[]⟩)
    exact bodyPost_ret (v := .tuple #[.agg #[.string ⟨#[]⟩, .string ⟨#[]⟩], .int .i64 2]) (by simp [results, Tryz.f38, go_sem, q0, q1]) rfl ⟨⟨#[]⟩, ⟨#[]⟩, 2, rfl, HA.out, two_put_below HB5.out (by show _ ≤ _; omega) (.string ⟨#[]⟩) (.string ⟨#[]⟩)⟩
end Go.Proofs.YtcncdepjbhnknaaGreatDoor
namespace Go.Proofs.YtcncdepjbhnknaaGreatDoor
open Go.RowKit Go.Shelf
attribute [local go_sem ↓] Go.wp_at_zero Go.wp_at_succ

set_option maxRecDepth 100000 in
set_option maxHeartbeats 8000000 in
theorem rslope_any {v : Value} {bs : List BB} {w : World} {s t : ByteArray} (hv : BL w v bs) (hz : LimB bs) (hs : s.size ≤ 1000000) (ht : t.size ≤ 1000000) :
    Calls Tryz.prog 39 #[v, pV s t] w (PartPost (SlopeA bs s t) w) := by
  obtain ⟨n, hn⟩ : ∃ n, bs.length = n := ⟨_, rfl⟩
  obtain ⟨p, c, rfl⟩ : ∃ p c, v = .slice p n c := by obtain ⟨p, c, h, _⟩ := id hv; exact ⟨_, _, by rw [← hn]; exact h⟩
  obtain ⟨_, hcc, hnc⟩ := hv.len
  have HL := Lib.hid hn
  have HV := Lib.hid hv
  have HZ := Lib.hid hz
  have HSZ : Hid (s.size ≤ 1000000 ∧ t.size ≤ 1000000) := ⟨hs, ht⟩
  clear hv hn hz hs ht
  go_enter Tryz.func39, Tryz.ntmps39
  have HE0 : Hid (Env w.heap.size w [(w.heap.size + 1, pObj ⟨#[]⟩ ⟨#[]⟩), (w.heap.size, pObj s t)] [] ((w.alloc (pObj s t)).alloc (pObj ⟨#[]⟩ ⟨#[]⟩))) := ((Env.start w).push (pObj s t) rfl).push _ (by simp)
  go_wp2_with fail
  refine (rcurve_any (HV.out.after HE0.out.base (Nat.le_refl _)) HZ.out).mono ?_
  rintro e w1 ⟨r, rfl, hr, hb⟩
  have HE1 := Lib.hid (HE0.out.step hb)
  have HR := Lib.hid hr
  clear hb hr HE0
  cases r
  · have HNO : Hid (¬ (CurveP bs ∧ smallP 300 (s, t) = true)) := fun h => by have := HR.out.2 h.1; cases this
    skip
    have HA : Hid (SlopeA bs s t ⟨#[]⟩ ⟨#[]⟩ 2) := .inl ⟨HNO.out, rfl, rfl, rfl⟩
    skip
    -- ahead of a walk: what the first block holds
    have r0 := HE1.out.cell 0 0 rfl rfl
    have r1 := HE1.out.cell 0 1 rfl rfl
    have f0 := HE1.out.free 0 0 rfl
    have f1 := HE1.out.free 0 1 rfl
    go_wp2
    have HE9 := Lib.hid (HE1.out.fill (.string ⟨#[]⟩) (.string ⟨#[]⟩))
    skip
    have q0 := HE9.out.cell 0 0 (v := .string ⟨#[]⟩) rfl rfl
    have q1 := HE9.out.cell 0 1 (v := .string ⟨#[]⟩) rfl rfl
    exact bodyPost_ret (v := .tuple #[.agg #[.string ⟨#[]⟩, .string ⟨#[]⟩], .int .i64 2]) (by simp [results, Tryz.f39, go_sem, q0, q1]) rfl ⟨⟨#[]⟩, ⟨#[]⟩, 2, rfl, HA.out, HE9.out.base⟩
  · have HC := Lib.hid (HR.out.1 rfl)
    clear HR
    have c0 := HE1.out.cell 1 0 (v := .string s) rfl rfl
    have c1 := HE1.out.cell 1 1 (v := .string t) rfl rfl
    go_wp2_with fail
    refine (rdeep_any s t HSZ.out.1 HSZ.out.2 _).mono ?_
    rintro e w2 ⟨rfl, hb⟩
    have HE2 := Lib.hid (HE1.out.step hb)
    clear hb c0 c1 HE1
    cases hsm : smallP 300 (s, t)
    · have HNO : Hid (¬ (CurveP bs ∧ smallP 300 (s, t) = true)) := fun h => by rw [hsm] at h; cases h.2
      clear hsm
      skip
      have HA : Hid (SlopeA bs s t ⟨#[]⟩ ⟨#[]⟩ 2) := .inl ⟨HNO.out, rfl, rfl, rfl⟩
      skip
      -- ahead of a walk: what the first block holds
      have r0 := HE2.out.cell 0 0 rfl rfl
      have r1 := HE2.out.cell 0 1 rfl rfl
      have f0 := HE2.out.free 0 0 rfl
      have f1 := HE2.out.free 0 1 rfl
      go_wp2
      have HE9 := Lib.hid (HE2.out.fill (.string ⟨#[]⟩) (.string ⟨#[]⟩))
      skip
      have q0 := HE9.out.cell 0 0 (v := .string ⟨#[]⟩) rfl rfl
      have q1 := HE9.out.cell 0 1 (v := .string ⟨#[]⟩) rfl rfl
      exact bodyPost_ret (v := .tuple #[.agg #[.string ⟨#[]⟩, .string ⟨#[]⟩], .int .i64 2]) (by simp [results, Tryz.f39, go_sem, q0, q1]) rfl ⟨⟨#[]⟩, ⟨#[]⟩, 2, rfl, HA.out, HE9.out.base⟩
    · obtain ⟨isq, hz300⟩ := isP_small hsm
      have HSM := Lib.hid hsm
      obtain ⟨q, hq⟩ : ∃ q, ratP s t = q := ⟨_, rfl⟩
      dsimp only at isq hz300
      rw [hq] at isq hz300
      have HRQ := Lib.hid hq
      have IQ := Lib.hid isq
      have ZQ := Lib.hid hz300
      have c0 := HE2.out.cell 1 0 (v := .string s) rfl rfl
      have c1 := HE2.out.cell 1 1 (v := .string t) rfl rfl
      clear hsm isq hz300 hq
      go_wp2_with fail
      refine (rplace_any (HV.out.after HE2.out.base (Nat.le_refl _)) HC.out IQ.out).mono ?_
      rintro e w3 ⟨k, rfl, hp, hb⟩
      have HE3 := Lib.hid (HE2.out.step hb)
      have hkn := hp.1
      rw [HL.out] at hkn
      have HP := Lib.hid hp
      have hln := HC.out.len
      rw [HL.out] at hln
      obtain ⟨r, hr⟩ : ∃ r, n = r + 1 := ⟨n - 1, by omega⟩
      have e1 : IntKind.i64.wrap ((n : Int) - 1) = (r : Int) := by rw [IntWalk.i64_in _ (by omega)]; omega
      obtain ⟨b, off, rfl, hbl, hat⟩ := HV.out.at HL.out (by omega)
      have HAT := Lib.hid hat
      have k0' : (0 : Int) ≤ (k : Int) := by omega
      have k1' : (k : Int) < (n : Int) := by omega
      obtain ⟨ic, _⟩ := HC.out.isC (i := k) (by rw [HL.out]; exact hkn)
      obtain ⟨ih, _⟩ := HC.out.isH (i := k) (by rw [HL.out]; exact hkn)
      obtain ⟨z, hz⟩ : ∃ z, bAt bs k = z := ⟨_, rfl⟩
      rw [hz] at ic ih
      have HFK : Hid (∀ V, Below w.heap.size w V → V.cell? ⟨b, off + k * 4, none⟩ = some (.string z.1.1) ∧ V.cell? ⟨b, off + k * 4 + 1, none⟩ = some (.string z.1.2) ∧ V.cell? ⟨b, off + k * 4 + 2, none⟩ = some (.string z.2.1) ∧ V.cell? ⟨b, off + k * 4 + 3, none⟩ = some (.string z.2.2)) := fun V hV => by rw [← hz]; exact hat V hV k hkn
      obtain ⟨⟨s1, t1⟩, u1, v1⟩ := z
      dsimp only at HFK ic ih
      have IC := Lib.hid ic
      have IH := Lib.hid ih
      have HRN := Lib.hid hr
      clear hb hp c0 c1 HE2 hat hz ic ih hr
      by_cases hkr : k = r
      · have bk : ((k : Int) == (r : Int)) = true := by rw [beq_iff_eq, hkr]
        have HA : Hid (SlopeA bs s t ⟨#[48]⟩ ⟨#[49]⟩ 0) := .inr ⟨⟨HC.out, HSM.out⟩, rfl, 0, ⟨k, by rw [HRQ.out]; exact HP.out, by
          unfold slo
          rw [if_neg (by rw [HL.out, HRN.out, hkr]; omega)]⟩, isP_zero⟩
        clear hkr
        go_wp2_with fail
        refine (rzero_any _).mono ?_
        rintro e w4 ⟨rfl, hb⟩
        have HE4 := Lib.hid (HE3.out.step hb)
        clear hb
        skip
        -- ahead of a walk: what the first block holds
        have r0 := HE4.out.cell 0 0 rfl rfl
        have r1 := HE4.out.cell 0 1 rfl rfl
        have f0 := HE4.out.free 0 0 rfl
        have f1 := HE4.out.free 0 1 rfl
        go_wp2
        have HE9 := Lib.hid (HE4.out.fill (.string ⟨#[48]⟩) (.string ⟨#[49]⟩))
        skip
        have q0 := HE9.out.cell 0 0 (v := .string ⟨#[48]⟩) rfl rfl
        have q1 := HE9.out.cell 0 1 (v := .string ⟨#[49]⟩) rfl rfl
        exact bodyPost_ret (v := .tuple #[.agg #[.string ⟨#[48]⟩, .string ⟨#[49]⟩], .int .i64 0]) (by simp [results, Tryz.f39, go_sem, q0, q1]) rfl ⟨⟨#[48]⟩, ⟨#[49]⟩, 0, rfl, HA.out, HE9.out.base⟩
      · have bk : ((k : Int) == (r : Int)) = false := by rw [beq_eq_false_iff_ne]; omega
        obtain ⟨m, hm⟩ : ∃ m, m = k + 1 := ⟨_, rfl⟩
        have e2 : IntKind.i64.wrap ((k : Int) + 1) = (m : Int) := by rw [IntWalk.i64_in _ (by omega)]; omega
        have hmn : k + 1 < bs.length := by have := HL.out; have := HRN.out; omega
        have m0' : (0 : Int) ≤ (m : Int) := by omega
        have m1' : (m : Int) < (n : Int) := by have := HL.out; omega
        obtain ⟨⟨x1, y1, f1⟩, ⟨x2, y2, f2⟩, ⟨x3, y3, f3⟩, f8⟩ := slope_isP HC.out hmn
        obtain ⟨ic, _⟩ := HC.out.isC (i := k + 1) hmn
        obtain ⟨ih, _⟩ := HC.out.isH (i := k + 1) hmn
        obtain ⟨z, hz⟩ : ∃ z, bAt bs (k + 1) = z := ⟨_, rfl⟩
        rw [hz] at ic ih
        have HFM : Hid (∀ V, Below w.heap.size w V → V.cell? ⟨b, off + m * 4, none⟩ = some (.string z.1.1) ∧ V.cell? ⟨b, off + m * 4 + 1, none⟩ = some (.string z.1.2) ∧ V.cell? ⟨b, off + m * 4 + 2, none⟩ = some (.string z.2.1) ∧ V.cell? ⟨b, off + m * 4 + 3, none⟩ = some (.string z.2.2)) := fun V hV => by rw [← hz, hm]; exact HAT.out V hV (k + 1) (by have := HL.out; omega)
        obtain ⟨⟨s2, t2⟩, u2, v2⟩ := z
        dsimp only at HFM ic ih
        have CT2 := Lib.hid (fun W => rslope_to IC.out IH.out ic ih f1 f2 f3 f8 W)
        have HA : Hid (SlopeA bs s t x3 y3 0) := .inr ⟨⟨HC.out, HSM.out⟩, rfl, _, ⟨k, by rw [HRQ.out]; exact HP.out, rfl⟩, by unfold slo; rw [if_pos hmn]; exact f3⟩
        clear hz hm hmn ic ih f1 f2 f3 f8 hkr HP HC HSM HRQ IQ ZQ IC IH HRN
        go_wp2_with fail
        obtain ⟨W, hW⟩ : ∃ z, w3.drew = z := ⟨_, rfl⟩
        have HE5 : Hid (Env w.heap.size w [(w.heap.size + 1, pObj ⟨#[]⟩ ⟨#[]⟩), (w.heap.size, pObj s t)] [] W) := by rw [← hW]; exact HE3.out.drew
        refine tsteps_plain [(true, 0), (true, 1), (true, 2), (true, 3), (true, 4), (true, 5), (true, 6), (true, 7), (true, 8), (false, 9), (false, 10), (true, 11)] (fun V => ∃ o, Env w.heap.size w [(w.heap.size + 1, o), (w.heap.size, pObj s t)] [] V) (fun _ => false)
          (by kernel_rfl) (by kernel_rfl) (by kernel_rfl) (fun _ _ => rfl) (fun _ _ o _ _ h => by cases o <;> exact h) ⟨_, by rw [hW]; exact HE5.out⟩ ?_
        rw [hW]
        clear hW
        skip
        iterate 9
          refine steps_read _ rfl rfl (fun w' hS => by obtain ⟨o, hS⟩ := hS; obtain ⟨a0, a1, a2, a3⟩ := HFK.out w' hS.base; obtain ⟨b0, b1, b2, b3⟩ := HFM.out w' hS.base; go_simp; first | rfl | (rw [if_pos (by omega)])) ?_
          simp only [List.getElem_toArray, List.getElem_cons_succ, List.getElem_cons_zero, Act.put, List.setIfInBounds_toArray, List.set_cons_zero, List.set_cons_succ]
        -- as ECALL, where S says that the first block holds something
        refine steps_write rfl rfl fun K hK => ?_
        go_simp
        go_at_call 84
        have HEC := HE5
        refine (CT2.out _).mono ?_
        rintro e w6 ⟨rfl, hb⟩
        have HE6 := Lib.hid (HE5.out.step hb)
        refine hK _ _ (.inr ⟨_, HE6.out⟩) ?_
        clear hK K hb HEC
        -- in a region: the store into the first block
        have r0 := HE6.out.cell 0 0 rfl rfl
        have r1 := HE6.out.cell 0 1 rfl rfl
        have f0 := HE6.out.free 0 0 rfl
        have f1 := HE6.out.free 0 1 rfl
        refine steps_write rfl rfl fun K hK => ?_
        go_simp
        have HE7 := Lib.hid (HE6.out.fill (.string x3) (.string y3))
        refine hK _ _ (.inr ⟨_, HE7.out⟩) ?_
        clear hK K r0 r1 f0 f1
        iterate 1
          refine steps_read _ rfl rfl (fun w' hS => by skip; go_simp; first | rfl | (rw [if_pos (by omega)])) ?_
          simp only [List.getElem_toArray, List.getElem_cons_succ, List.getElem_cons_zero, Act.put, List.setIfInBounds_toArray, List.set_cons_zero, List.set_cons_succ]
        refine steps_end ?_
        go_wp2
        skip
        have q0 := HE7.out.cell 0 0 (v := .string x3) rfl rfl
        have q1 := HE7.out.cell 0 1 (v := .string y3) rfl rfl
        exact bodyPost_ret (v := .tuple #[.agg #[.string x3, .string y3], .int .i64 0]) (by simp [results, Tryz.f39, go_sem, q0, q1]) rfl ⟨x3, y3, 0, rfl, HA.out, HE7.out.base⟩
end Go.Proofs.YtcncdepjbhnknaaGreatDoor
