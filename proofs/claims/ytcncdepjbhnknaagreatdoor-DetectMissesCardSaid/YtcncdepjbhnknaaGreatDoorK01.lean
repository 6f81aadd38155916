/- The parts DGreat, Long6, MissL, DMiss, DMiss2, StepsP of a proof, put together by program (merge6.py). -/
import Derived.Test.YtcncdepjbhnknaaGreatDoorH19
import Derived.Test.YtcncdepjbhnknaaGreatDoorH15
import Derived.Test.YtcncdepjbhnknaaGreatDoorH11
import Derived.Test.YtcncdepjbhnknaaGreatDoorR05
import Derived.Test.YtcncdepjbhnknaaGreatDoorH20
import Derived.Test.YtcncdepjbhnknaaGreatDoorR04
set_option linter.unusedVariables false
set_option linter.unusedSimpArgs false
namespace Go.Proofs.YtcncdepjbhnknaaGreatDoor
open Go.RowKit Go.Shelf
attribute [local go_sem ↓] Go.wp_at_zero Go.wp_at_succ

def fewB (b : BB) : Prop := (b.1.1.size ≤ 30 ∧ b.1.2.size ≤ 30) ∧ (b.2.1.size ≤ 30 ∧ b.2.2.size ≤ 30)
def GreatPost (bs : List BB) (w : World) (e : Ending) (w' : World) : Prop := ∃ r : Bool, e = .returned (.bool r) ∧ (r = false → bs.length ≤ 66 ∧ ∀ i, i < bs.length → fewB (bAt bs i)) ∧ Below w.heap.size w w'
theorem few_lim {bs : List BB} (h : ∀ i, i < bs.length → fewB (bAt bs i)) : LimB bs := fun x hx => by
  obtain ⟨i, hi, rfl⟩ := List.getElem_of_mem hx
  have h1 := h i hi
  rw [bAt_get hi] at h1
  obtain ⟨⟨a1, a2⟩, a3, a4⟩ := h1
  exact ⟨⟨by omega, by omega⟩, by omega, by omega⟩
abbrev S4g (b o : Nat) (s t u v : ByteArray) (w' : World) : Prop := w'.cell? ⟨b, o, none⟩ = some (.string s) ∧ w'.cell? ⟨b, o + 1, none⟩ = some (.string t) ∧ w'.cell? ⟨b, o + 2, none⟩ = some (.string u) ∧ w'.cell? ⟨b, o + 3, none⟩ = some (.string v)
set_option maxRecDepth 100000 in
set_option maxHeartbeats 4000000 in
theorem great_any {v : Value} {bs : List BB} {w : World} (hv : BL w v bs) : Calls Tryz.prog 19 #[v] w (GreatPost bs w) := by
  obtain ⟨n, hn⟩ : ∃ n, bs.length = n := ⟨_, rfl⟩
  obtain ⟨p, c, rfl⟩ : ∃ p c, v = .slice p n c := by obtain ⟨p, c, h, _⟩ := id hv; exact ⟨_, _, by rw [← hn]; exact h⟩
  obtain ⟨_, hcc, hnc⟩ := hv.len
  have HV := Lib.hid hv
  have HN := Lib.hid hn
  clear hv hn
  by_cases hl : n ≤ 66
  · have hno : ¬ (66 : Int) < (n : Int) := by omega
    go_enter Tryz.func19, Tryz.ntmps19
    go_wp2_with fail
    go_loopw [3] (fun i wr => ∃ k : Nat, i = .int .i64 k ∧ k ≤ n ∧ Hid (∀ j, j < k → fewB (bAt bs j)) ∧ Hid (Below w.heap.size w wr)) (fun i _ => n - (intOf i).toNat)
    case atStart => exact ⟨0, rfl, Nat.zero_le _, fun j hj => by omega, Below.refl _ _⟩
    case round =>
      obtain ⟨k, rfl, hk, HK, HB⟩ := hrel
      by_cases hlt : k < n
      · obtain ⟨b, off, rfl, _, hat⟩ := HV.out.at HN.out (by omega)
        have hS := hat wr.drew HB.out.drew k hlt
        obtain ⟨q, hq⟩ : ∃ q, bAt bs k = q := ⟨_, rfl⟩
        rw [hq] at hS
        have HQ := Lib.hid hq
        obtain ⟨⟨s, t⟩, u, v⟩ := q
        dsimp only at hS
        have i0' : (0 : Int) ≤ (k : Int) := by omega
        have i1' : (k : Int) < (n : Int) := by omega
        clear hat hq
        go_wp2_with fail
        refine tsteps_plain [(true, 0), (true, 1), (true, 2), (true, 3), (true, 4), (true, 5), (true, 6), (true, 7), (true, 8), (true, 9), (true, 10), (true, 11), (true, 12), (true, 13), (true, 14), (true, 15), (true, 16), (true, 17), (true, 18), (true, 19), (true, 20), (true, 21), (true, 22), (true, 23), (true, 24), (true, 25), (true, 26), (true, 27), (true, 28), (true, 29), (true, 30), (true, 31)] (S4g b (off + k * 4) s t u v) (fun _ => false)
          (by kernel_rfl) (by kernel_rfl) (by kernel_rfl) (fun _ _ => rfl) (fun _ _ o _ _ h => by cases o <;> exact h) hS ?_
        iterate 32
          refine steps_read _ rfl rfl (fun w' hS => by obtain ⟨a0, a1, a2, a3⟩ := hS; go_simp; first | rfl | (rw [if_pos (by omega)])) ?_
          simp only [List.getElem_toArray, List.getElem_cons_succ, List.getElem_cons_zero, Act.put, List.setIfInBounds_toArray, List.set_cons_zero, List.set_cons_succ]
        refine steps_end ?_
        obtain ⟨mx, hmx⟩ : ∃ mx : Int, max (s.size : Int) (max (t.size : Int) (max (u.size : Int) (v.size : Int))) = mx := ⟨_, rfl⟩
        rw [hmx]
        by_cases h30 : (30 : Int) < mx
        · go_wp2
          go_ret
          exact ⟨true, rfl, (fun h => by cases h), HB.out.drew⟩
        · go_wp2
          have hb : fewB (bAt bs k) := by
            rw [HQ.out]
            show (s.size ≤ 30 ∧ t.size ≤ 30) ∧ (u.size ≤ 30 ∧ v.size ≤ 30)
            exact ⟨⟨by omega, by omega⟩, by omega, by omega⟩
          refine ⟨⟨k + 1, by simp, by omega, ?_, HB.out.drew⟩, ?_⟩
          · intro j hj
            rcases Nat.lt_or_ge j k with h | h
            · exact HK.out j h
            · obtain rfl : j = k := by omega
              exact hb
          · simp only [intOf]
            omega
      · obtain rfl : k = n := by omega
        have HF : Hid (bs.length ≤ 66 ∧ ∀ i, i < bs.length → fewB (bAt bs i)) := ⟨by rw [HN.out]; exact hl, fun i hi => HK.out i (by rw [← HN.out]; exact hi)⟩
        go_wp2
        go_ret
        exact ⟨false, rfl, fun _ => HF.out, HB.out⟩
  · have hno : (66 : Int) < (n : Int) := by omega
    go_enter Tryz.func19, Tryz.ntmps19
    go_wp2
    go_ret
    exact ⟨true, rfl, (fun h => by cases h), Below.refl _ _⟩
end Go.Proofs.YtcncdepjbhnknaaGreatDoor
namespace Go.Proofs.YtcncdepjbhnknaaGreatDoor
open Go.RowKit Go.Shelf

def LongPost (ps : List PP) (w : World) (e : Ending) (w' : World) : Prop := ∃ r : Bool, e = .returned (.bool r) ∧ (r = false → (∀ p ∈ ps, p.1.size ≤ 310 ∧ p.2.size ≤ 310) ∧ ps.length ≤ 520) ∧ Below w.heap.size w w'
set_option maxRecDepth 100000 in
set_option maxHeartbeats 4000000 in
theorem long_any {v : Value} {ps : List PP} {w : World} (hv : PL w v ps) : Calls Tryz.prog 36 #[v] w (LongPost ps w) := by
  obtain ⟨p, cap, rfl, hcap, hmax, hp⟩ := hv
  obtain ⟨n, hn⟩ : ∃ n, ps.length = n := ⟨_, rfl⟩
  rw [hn] at hcap ⊢
  unfold maxLen at hmax
  have HN := Lib.hid hn
  have HP := Lib.hid hp
  clear hn hp
  go_enter Tryz.func36, Tryz.ntmps36
  go_wp2
  go_loopw [7] (fun i wr => ∃ (k : Nat), i = .int .i64 k ∧ k ≤ n ∧ Hid (∀ j (h : j < ps.length), j < k → ps[j].1.size ≤ 310 ∧ ps[j].2.size ≤ 310) ∧ Hid (Below w.heap.size w wr)) (fun i _ => n - (intOf i).toNat)
  case atStart => exact ⟨0, rfl, Nat.zero_le _, fun j _ h => by omega, Below.refl _ _⟩
  case round =>
    obtain ⟨k, rfl, hk, HK, HB⟩ := hrel
    obtain ⟨w0, rfl⟩ : ∃ w0 : World, w0 = wr := ⟨_, rfl⟩
    by_cases hlt : k < n
    · obtain ⟨bb, off, rfl, hbl, hat⟩ := HP.out (List.ne_nil_of_length_pos (by rw [HN.out]; omega))
      have hkp : k < ps.length := by rw [HN.out]; exact hlt
      obtain ⟨e0, e1⟩ := (hat.below HB.out hbl) k hkp
      obtain ⟨u, hu⟩ : ∃ u, ps[k].1 = u := ⟨_, rfl⟩
      obtain ⟨v, hv⟩ : ∃ v, ps[k].2 = v := ⟨_, rfl⟩
      rw [hu] at e0
      rw [hv] at e1
      have HU := Lib.hid hu
      have HV := Lib.hid hv
      have HB2 := Lib.hid (HB.out.alloc HB.out.size (.cells #[.string u, .string v] 46))
      clear hat hu hv
      by_cases h1 : (310 : Int) < u.size
      · go_wp2
        go_ret
        exact ⟨true, rfl, (fun h => by cases h), HB2.out⟩
      · by_cases h2 : (310 : Int) < v.size
        · go_wp2
          go_ret
          exact ⟨true, rfl, (fun h => by cases h), HB2.out⟩
        · have HK2 : Hid (∀ j (h : j < ps.length), j < k + 1 → ps[j].1.size ≤ 310 ∧ ps[j].2.size ≤ 310) := fun j h1 h2 => by
            rcases Nat.lt_or_ge j k with h3 | h3
            · exact HK.out j h1 h3
            · obtain rfl : j = k := by omega
              rw [HU.out, HV.out]; omega
          go_wp2
          go_roundw
          case rel => exact ⟨k + 1, by go_num, by omega, HK2, HB2⟩
          case measure => simp [intOf]; omega
    · have HQ : Hid (∀ p ∈ ps, p.1.size ≤ 310 ∧ p.2.size ≤ 310) := fun p hp => by
        obtain ⟨j, hj, rfl⟩ := List.getElem_of_mem hp
        exact HK.out j hj (by rw [HN.out] at hj; omega)
      by_cases hl : (520 : Int) < n
      · go_wp2
        go_ret
        exact ⟨true, rfl, (fun h => by cases h), HB.out⟩
      · have HLL : Hid (ps.length ≤ 520) := by rw [HN.out]; show n ≤ 520; omega
        go_wp2
        go_ret
        exact ⟨false, rfl, fun _ => ⟨HQ.out, HLL.out⟩, HB.out⟩
end Go.Proofs.YtcncdepjbhnknaaGreatDoor
namespace Go.Proofs.YtcncdepjbhnknaaGreatDoor
open Go.RowKit Go.Shelf

def ChancesL (bs : List BB) : List PP → List Rat → Prop
  | [], cs => cs = []
  | p :: ps, cs => ∃ c r, cs = c :: r ∧ ChanceR bs.length (cR bs) (hR bs) (ratP p.1 p.2) c ∧ ChancesL bs ps r
theorem chanceR_exists {bs : List BB} (h : CurveP bs) (q : Rat) : ∃ c, ChanceR bs.length (cR bs) (hR bs) q c := by
  have hl := h.len
  obtain ⟨k, hk⟩ := Piece.exists (n := bs.length) (C := cR bs) q (bs.length - 1) (by omega)
  rw [Nat.sub_add_cancel (by omega)] at hk
  exact ⟨_, k, hk, rfl⟩
theorem ChancesL.exists {bs : List BB} (h : CurveP bs) : ∀ ps, ∃ cs, ChancesL bs ps cs
  | [] => ⟨[], rfl⟩
  | p :: ps => by
    obtain ⟨c, hc⟩ := chanceR_exists h (ratP p.1 p.2)
    obtain ⟨r, hr⟩ := ChancesL.exists h ps
    exact ⟨c :: r, c, r, rfl, hc, hr⟩
theorem ChancesL.unique {bs : List BB} : ∀ {ps : List PP} {cs ds : List Rat}, ChancesL bs ps cs → ChancesL bs ps ds → cs = ds
  | [], cs, ds, h, g => by rw [show cs = [] from h, show ds = [] from g]
  | p :: ps, cs, ds, h, g => by
    obtain ⟨c, r, rfl, h1, h2⟩ := h
    obtain ⟨d, s, rfl, g1, g2⟩ := g
    rw [h1.unique g1, ChancesL.unique h2 g2]
theorem ChancesL.append {bs : List BB} : ∀ {ps qs : List PP} {cs ds : List Rat}, ChancesL bs ps cs → ChancesL bs qs ds → ChancesL bs (ps ++ qs) (cs ++ ds)
  | [], qs, cs, ds, h, g => by rw [show cs = [] from h]; exact g
  | p :: ps, qs, cs, ds, h, g => by
    obtain ⟨c, r, rfl, h1, h2⟩ := h
    exact ⟨c, r ++ ds, rfl, h1, h2.append g⟩
theorem ChancesL.reverse {bs : List BB} : ∀ {ps : List PP} {cs : List Rat}, ChancesL bs ps cs → ChancesL bs ps.reverse cs.reverse
  | [], cs, h => by rw [show cs = [] from h]; exact rfl
  | p :: ps, cs, h => by
    obtain ⟨c, r, rfl, h1, h2⟩ := h
    rw [List.reverse_cons, List.reverse_cons]
    exact h2.reverse.append ⟨c, [], rfl, h1, rfl⟩
theorem ChancesL.range {bs : List BB} (hC : CurveP bs) : ∀ {ps : List PP} {cs : List Rat}, ChancesL bs ps cs → ∀ c ∈ cs, 0 ≤ c ∧ c ≤ 1
  | [], cs, h, c, hc => by rw [show cs = [] from h] at hc; cases hc
  | p :: ps, cs, h, c, hc => by
    obtain ⟨d, r, rfl, h1, h2⟩ := h
    rcases List.mem_cons.1 hc with rfl | hc
    · exact ⟨h1.nn hC.conc' (mkRat_nonneg _ _), h1.top hC.conc'⟩
    · exact h2.range hC c hc
def MissE (a : Rat) (cs : List Rat) (x y : ByteArray) (n : Int) : Prop := (∃ r, missA a cs = some r ∧ IsP r x y ∧ n = 0) ∨ (missA a cs = none ∧ x = ⟨#[]⟩ ∧ y = ⟨#[]⟩ ∧ n = 4)
def MissOk (bs : List BB) (ps : List PP) : Prop := (CurveP bs ∧ ps.all (smallP 300) = true) ∧ ps.length ≤ 512
def MissP (bs : List BB) (ps : List PP) (x y : ByteArray) (n : Int) : Prop :=
  (¬ MissOk bs ps ∧ x = ⟨#[]⟩ ∧ y = ⟨#[]⟩ ∧ n = 2) ∨ (MissOk bs ps ∧ ∃ cs, ChancesL bs ps cs ∧ MissE 1 cs x y n)
theorem MissE.det {a : Rat} {cs : List Rat} {x y u v : ByteArray} {n m : Int} (h : MissE a cs x y n) (g : MissE a cs u v m) : x = u ∧ y = v ∧ n = m := by
  rcases h with ⟨r, h1, h2, rfl⟩ | ⟨h1, rfl, rfl, rfl⟩
  · rcases g with ⟨s, g1, g2, rfl⟩ | ⟨g1, _⟩
    · rw [h1] at g1
      obtain ⟨e1, e2⟩ := isP_one' h2 g2 (Option.some.inj g1)
      exact ⟨e1, e2, rfl⟩
    · rw [h1] at g1; cases g1
  · rcases g with ⟨s, g1, _⟩ | ⟨_, rfl, rfl, rfl⟩
    · rw [h1] at g1; cases g1
    · exact ⟨rfl, rfl, rfl⟩
theorem MissP.det {bs : List BB} {ps : List PP} {x y u v : ByteArray} {n m : Int} (h : MissP bs ps x y n) (g : MissP bs ps u v m) : x = u ∧ y = v ∧ n = m := by
  rcases h with ⟨h, rfl, rfl, rfl⟩ | ⟨h, cs, h1, h2⟩
  · rcases g with ⟨_, rfl, rfl, rfl⟩ | ⟨g, _⟩
    · exact ⟨rfl, rfl, rfl⟩
    · exact absurd g h
  · rcases g with ⟨g, _⟩ | ⟨_, ds, g1, g2⟩
    · exact absurd h g
    · rw [h1.unique g1] at h2
      exact h2.det g2
def MissL (bs : List BB) (ps : List PP) (k : Nat) (a : Rat) : Prop := ∀ x y n, (∃ cs, ChancesL bs (ps.drop k) cs ∧ MissE a cs x y n) → ∃ cs, ChancesL bs ps cs ∧ MissE 1 cs x y n
theorem MissL.zero (bs : List BB) (ps : List PP) : MissL bs ps 0 1 := fun _ _ _ h => h
theorem drop_cons {ps : List PP} {k : Nat} (hk : k < ps.length) : ps.drop k = ps[k] :: ps.drop (k + 1) := (List.drop_eq_getElem_cons hk)
theorem MissL.step {bs : List BB} {ps : List PP} {k : Nat} {a c : Rat} (h : MissL bs ps k a) (hk : k < ps.length) (hc : ChanceR bs.length (cR bs) (hR bs) (ratP ps[k].1 ps[k].2) c) (hf : Fits (a * (1 - c))) : MissL bs ps (k + 1) (a * (1 - c)) := by
  rintro x y n ⟨cs, h1, h2⟩
  refine h x y n ⟨c :: cs, ?_, ?_⟩
  · rw [drop_cons hk]
    exact ⟨c, cs, rfl, hc, h1⟩
  · unfold MissE missA
    rw [if_pos hf]
    exact h2
theorem MissL.stop {bs : List BB} {ps : List PP} {k : Nat} {a c : Rat} (h : MissL bs ps k a) (hC : CurveP bs) (hk : k < ps.length) (hc : ChanceR bs.length (cR bs) (hR bs) (ratP ps[k].1 ps[k].2) c) (hf : ¬ Fits (a * (1 - c))) :
    ∃ cs, ChancesL bs ps cs ∧ MissE 1 cs ⟨#[]⟩ ⟨#[]⟩ 4 := by
  obtain ⟨cs, h1⟩ := ChancesL.exists hC (ps.drop (k + 1))
  refine h _ _ _ ⟨c :: cs, ?_, .inr ⟨?_, rfl, rfl, rfl⟩⟩
  · rw [drop_cons hk]
    exact ⟨c, cs, rfl, hc, h1⟩
  · unfold missA
    rw [if_neg hf]
theorem MissL.done {bs : List BB} {ps : List PP} {a : Rat} (h : MissL bs ps ps.length a) {x y : ByteArray} (hx : IsP a x y) : ∃ cs, ChancesL bs ps cs ∧ MissE 1 cs x y 0 := by
  refine h x y 0 ⟨[], ?_, .inl ⟨a, rfl, hx, rfl⟩⟩
  rw [List.drop_length]
  exact rfl
theorem MissP.nums {bs : List BB} {ps : List PP} {x y : ByteArray} {n : Int} (h : MissP bs ps x y n) : n = 2 ∨ n = 0 ∨ n = 4 := by
  rcases h with ⟨_, _, _, h⟩ | ⟨_, cs, _, ⟨_, _, _, h⟩ | ⟨_, _, _, h⟩⟩
  · exact .inl h
  · exact .inr (.inl h)
  · exact .inr (.inr h)
end Go.Proofs.YtcncdepjbhnknaaGreatDoor
namespace Go.Proofs.YtcncdepjbhnknaaGreatDoor
open Go.RowKit Go.Shelf
attribute [local go_sem ↓] Go.wp_at_zero Go.wp_at_succ

theorem chance_size {bs : List BB} {q r : Rat} (h : CurveP bs) (hq0 : 0 ≤ q) (hz : Sz 300 q) (hr : ChanceR bs.length (cR bs) (hR bs) q r) : Sz 409 r := by
  obtain ⟨k, hk, rfl⟩ := hr
  by_cases hi : k + 1 < bs.length
  · have := (lin_size h.conc' h.sizes.1 h.sizes.2 hq0 hz hi hk).2.2.2.2.2
    exact this.mono (by omega)
  · have e : lin bs.length (cR bs) (hR bs) k q = hR bs k := by
      unfold lin slo
      rw [if_neg hi]
      grind
    rw [e]
    exact (h.sizes.2 k hk.1).mono (by omega)
theorem not_isP {r : Rat} (h0 : 0 ≤ r) (h1 : r ≤ 1) (hz : Sz 409 r) : ∃ x y, IsP (1 - r) x y := by
  have z1 : Sz 1 (1 : Rat) := ⟨by decide +kernel, by decide +kernel⟩
  have := Sz.sub (a := 1) (b := r) (by decide) h0 h1 z1 hz
  exact sz_isP' (by grind) this (by decide) (by decide)
theorem not_to {r : Rat} {s t x y : ByteArray} (hr : IsP r s t) (h1 : r ≤ 1) (hx : IsP (1 - r) x y) (w : World)(hT : Tabs w) : Calls Tryz.prog 93 #[pV s t] w (ValPost (.tuple #[pV x y, .int .i64 0]) w) := by
  refine (not_any s t w hr.limit.1 hr.limit.2 hT).mono ?_
  rintro e w' ⟨u, v, n, rfl, h, hb⟩
  have h2 := h.both isP_one.ok hr.ok
  rw [isP_one.rat, hr.rat] at h2
  rcases h2 with ⟨h3, _⟩ | ⟨_, h3⟩
  · grind
  · obtain ⟨rfl, rfl, rfl⟩ := ans_to h3 hx rfl
    exact ⟨rfl, hb⟩
theorem rnot_to {r : Rat} {s t x y : ByteArray} (hr : IsP r s t) (h1 : r ≤ 1) (hx : IsP (1 - r) x y) (w : World) : Calls Tryz.prog 95 #[pV s t] w (ValPost (.tuple #[pV x y, .int .i64 0]) w) := by
  refine (rnot_any s t w hr.limit.1 hr.limit.2).mono ?_
  rintro e w' ⟨u, v, n, rfl, h, hb⟩
  have h2 := h.both isP_one.ok hr.ok
  rw [isP_one.rat, hr.rat] at h2
  rcases h2 with ⟨h3, _⟩ | ⟨_, h3⟩
  · grind
  · obtain ⟨rfl, rfl, rfl⟩ := ans_to h3 hx rfl
    exact ⟨rfl, hb⟩
theorem mul_ans {a b : Rat} {s t u v : ByteArray} (ha : IsP a s t) (hb : IsP b u v) (w : World) (hT : Tabs w) :
    Calls Tryz.prog 29 #[.agg #[.string s, .string t], .agg #[.string u, .string v]] w (PartPost (Ans (a * b)) w) := by
  refine (mul_rat s t u v w ha.limit.1 ha.limit.2 hb.limit.1 hb.limit.2 hT).mono ?_
  rintro e w' ⟨x, y, n, rfl, h, hB⟩
  have h1 := h.both ha.ok hb.ok
  rw [ha.rat, hb.rat] at h1
  exact ⟨x, y, n, rfl, h1, hB⟩
theorem all_get {k : Nat} {ps : List PP} (h : ps.all (smallP k) = true) {i : Nat} (hi : i < ps.length) : smallP k ps[i] = true := List.all_eq_true.1 h _ (List.getElem_mem hi)

def MissD (bs : List BB) (ps : List PP) (x y : ByteArray) (n : Int) : Prop := ∃ cs, ChancesL bs ps cs ∧ MissE 1 cs x y n
abbrev SM (o Bl g : Nat) (v : Value) (x y s t : ByteArray) (w' : World) : Prop := w'.cell? ⟨o, 0, none⟩ = some (.string x) ∧ w'.cell? ⟨o, 1, none⟩ = some (.string y) ∧ w'.cell? ⟨Bl, 0, none⟩ = some v ∧ w'.cell? ⟨g, 0, none⟩ = some (.string s) ∧ w'.cell? ⟨g, 1, none⟩ = some (.string t)
set_option maxRecDepth 100000 in
set_option maxHeartbeats 8000000 in
theorem miss1_any {p1 p2 : Option Addr} {n1 c1 m c2 : Nat} {bs : List BB} {ps : List PP} {w : World} (Bc Bl : Nat) (hc : w.heap[Bc]? = some (.cells #[.slice p2 m c2] 67)) (hl : w.heap[Bl]? = some (.cells #[.slice p1 n1 c1] 34))
    (hv : BL w (.slice p1 n1 c1) bs) (hv2 : PL w (.slice p2 m c2) ps) (hm : ps.length = m) (hok : MissOk bs ps) (hD : DetV w) (hT : Tabs w) :
    Calls Tryz.prog 92 #[.pointer (some ⟨Bc, 0, none⟩), .pointer (some ⟨Bl, 0, none⟩)] w (DoneD (MissD bs ps) w) := by
  have hc0 : w.cell? ⟨Bc, 0, none⟩ = some (.slice p2 m c2) := known_cell hc 0 rfl
  have hcl : Bc < w.heap.size := (Array.getElem?_eq_some_iff.1 hc).1
  have HL := Lib.hid hl
  have HV := Lib.hid hv
  have HT := Lib.hid hT
  have HM := Lib.hid hm
  have HOK := Lib.hid hok
  obtain ⟨_, c2', he, hmc, hmm, hp⟩ := hv2
  injection he with e1 e2 e3
  subst e1 e3
  have HP2 := Lib.hid hp
  have hm64 : m ≤ 512 := by rw [← hm]; exact hok.2
  rw [hm] at hmc
  unfold maxLen at hmm
  obtain ⟨w1, hw1⟩ : ∃ z, (w.alloc (pObj ⟨#[]⟩ ⟨#[]⟩)).alloc (pObj ⟨#[49]⟩ ⟨#[49]⟩) = z := ⟨_, rfl⟩
  have HX1 : Hid (Boxes w.heap.size [pObj ⟨#[]⟩ ⟨#[]⟩, pObj ⟨#[49]⟩ ⟨#[49]⟩] w1) := by rw [← hw1]; exact Boxes.two w _ _
  have HB1 : Hid (Below w.heap.size w w1) := by rw [← hw1]; exact ((Below.refl _ w).alloc (Nat.le_refl _) _).alloc (by simp) _
  have o0 := (hD.below ((Below.refl w.heap.size w).alloc (Nat.le_refl _) (pObj ⟨#[]⟩ ⟨#[]⟩)) (Nat.le_refl _)).o0
  have o1 := (hD.below ((Below.refl w.heap.size w).alloc (Nat.le_refl _) (pObj ⟨#[]⟩ ⟨#[]⟩)) (Nat.le_refl _)).o1
  have b0 : w1.cell? ⟨Bc, 0, none⟩ = some (.slice p2 m c2) := (HB1.out.cell (p := ⟨Bc, 0, none⟩) hcl).trans hc0
  clear hc hl hv hp hT hok hm hD hc0 hcl
  go_enter Tryz.func92, Tryz.ntmps92
  go_wp2
  clear hw1 b0 o0 o1
  go_loopw [9] (fun i wr => ∃ (k : Nat) (xo yo : ByteArray) (a : Rat), i = .int .i64 k ∧ k ≤ m ∧ Hid (Boxes w.heap.size [pObj ⟨#[]⟩ ⟨#[]⟩, pObj xo yo] wr) ∧ Hid (IsP a xo yo ∧ MissL bs ps k a) ∧ Hid (Below w.heap.size w wr)) (fun i _ => m - (intOf i).toNat)
  case atStart => exact ⟨0, _, _, 1, rfl, Nat.zero_le _, HX1, ⟨isP_one, MissL.zero bs ps⟩, HB1⟩
  case round =>
    obtain ⟨k, xo, yo, a, rfl, hk, HX, HA, HB⟩ := hrel
    by_cases hlt : k < m
    · have hkp : k < ps.length := by rw [HM.out]; exact hlt
      obtain ⟨bb, off, rfl, hbl, hat⟩ := HP2.out (List.ne_nil_of_length_pos (by omega))
      obtain ⟨e0, e1⟩ := (hat.below HB.out hbl) k hkp
      have hsm := isP_small (all_get HOK.out.1.2 hkp)
      have HSL : Hid (∀ {a c : Rat}, MissL bs ps k a → ChanceR bs.length (cR bs) (hR bs) (ratP ps[k].1 ps[k].2) c → (Fits (a * (1 - c)) → MissL bs ps (k + 1) (a * (1 - c))) ∧ (¬ Fits (a * (1 - c)) → MissD bs ps ⟨#[]⟩ ⟨#[]⟩ 4)) :=
        fun h hc => ⟨fun hf => h.step hkp hc hf, fun hf => h.stop HOK.out.1.1 hkp hc hf⟩
      obtain ⟨s, hs⟩ : ∃ u, ps[k].1 = u := ⟨_, rfl⟩
      obtain ⟨t, ht⟩ : ∃ u, ps[k].2 = u := ⟨_, rfl⟩
      rw [hs, ht] at hsm HSL
      rw [hs] at e0
      rw [ht] at e1
      have HSM := Lib.hid hsm
      have i0' : (0 : Int) ≤ (k : Int) := by omega
      have i1' : (k : Int) < (m : Int) := by omega
      clear hat hs ht hsm hkp
      go_wp2_with fail
      obtain ⟨g, hg⟩ : ∃ g, wr.heap.size = g := ⟨_, rfl⟩
      obtain ⟨W, hW⟩ : ∃ z, wr.alloc (pObj s t) = z := ⟨_, rfl⟩
      have hXg : w.heap.size + 2 ≤ g := by rw [← hg]; exact HX.out.lt
      have hal : Below wr.heap.size wr W := by rw [← hW]; exact (Below.refl _ wr).alloc (Nat.le_refl _) _
      have HG : Hid (W.heap[g]? = some (pObj s t)) := by rw [← hW, ← hg]; exact World.alloc_heap_new wr _
      have HXW : Hid (Boxes w.heap.size [pObj ⟨#[]⟩ ⟨#[]⟩, pObj xo yo] W) := HX.out.below hal HX.out.lt
      have HBW : Hid (Below w.heap.size w W) := HB.out.trans (hal.mono HB.out.size)
      have HS : Hid (∀ V, Below W.heap.size W V → SM (w.heap.size + 1) Bl g (.slice p1 n1 c1) xo yo s t V) := fun V hV => by
        have hx := HXW.out.below hV HXW.out.lt
        have hb := HBW.out.trans (hV.mono HBW.out.size)
        have hl := (hb.block Bl (Array.getElem?_eq_some_iff.1 HL.out).1).trans HL.out
        have hg := (hV.block g (Array.getElem?_eq_some_iff.1 HG.out).1).trans HG.out
        exact ⟨hx.cell 1 0 (b := w.heap.size + 1) rfl rfl rfl, hx.cell 1 1 (b := w.heap.size + 1) rfl rfl rfl, known_cell hl 0 rfl, known_cell hg 0 rfl, known_cell hg 1 rfl⟩
      have HTW : Hid (∀ V, Below W.heap.size W V → Tabs V) := fun V hV => HT.out.below (HBW.out.trans (hV.mono HBW.out.size)) (Nat.le_refl _)
      have HVW : Hid (∀ V, Below W.heap.size W V → BL V (.slice p1 n1 c1) bs) := fun V hV => HV.out.after (HBW.out.trans (hV.mono HBW.out.size)) (Nat.le_refl _)
      have HW0 : Hid (Below W.heap.size W W.drew) := (Below.refl _ W).drew
      rw [hg, hW]
      clear hW hal e0 e1 hg
      refine tsteps_plain [(true, 0), (true, 1), (true, 2), (false, 3), (false, 4), (true, 5), (true, 6), (false, 7), (false, 8), (true, 9), (true, 10), (false, 11), (false, 12)] (SM (w.heap.size + 1) Bl g (.slice p1 n1 c1) xo yo s t) (fun j => j == 12)
        (by kernel_rfl) (by kernel_rfl) (by kernel_rfl) (fun j hj => by simp at hj ⊢; omega) (fun _ _ o _ _ h => by cases o <;> exact h) (HS.out _ HW0.out) ?_
      skip
      iterate 3
        refine steps_read _ rfl rfl (fun w' hS => by obtain ⟨a0, a1, b0, c0, c1⟩ := hS; go_simp; rfl) ?_
        simp only [List.getElem_toArray, List.getElem_cons_succ, List.getElem_cons_zero, Act.put, List.setIfInBounds_toArray, List.set_cons_zero, List.set_cons_succ]
      refine steps_write rfl rfl fun K hK => ?_
      go_simp
      go_at_call 70
      refine (chance_any (HVW.out _ HW0.out) HOK.out.1.1 HSM.out.1 HSM.out.2 (HTW.out _ HW0.out)).mono ?_
      rintro e w1 ⟨x1, y1, c, rfl, hc1, hx1, hb⟩
      have HW1 : Hid (Below W.heap.size W w1) := HW0.out.trans (hb.mono HW0.out.size)
      obtain ⟨x2, y2, hx2⟩ := not_isP (hc1.nn HOK.out.1.1.conc' HSM.out.1.nn) (hc1.top HOK.out.1.1.conc') (chance_size HOK.out.1.1 HSM.out.1.nn HSM.out.2 hc1)
      have HC : Hid (ChanceR bs.length (cR bs) (hR bs) (ratP s t) c ∧ IsP c x1 y1 ∧ c ≤ 1 ∧ IsP (1 - c) x2 y2) := ⟨hc1, hx1, hc1.top HOK.out.1.1.conc', hx2⟩
      clear hc1 hx1 hx2
      skip
      refine hK _ _ (.inr (HS.out _ HW1.out)) ?_
      clear hK K hb
      refine steps_write rfl rfl fun K hK => ?_
      go_simp
      go_at_call 93
      refine (not_to HC.out.2.1 HC.out.2.2.1 HC.out.2.2.2 _ (HTW.out _ HW1.out)).mono ?_
      rintro e w2 ⟨rfl, hb⟩
      have HW2 : Hid (Below W.heap.size W w2) := HW1.out.trans (hb.mono HW1.out.size)
      skip
      refine hK _ _ (.inr (HS.out _ HW2.out)) ?_
      clear hK K hb
      iterate 2
        refine steps_read _ rfl rfl (fun w' hS => by obtain ⟨a0, a1, b0, c0, c1⟩ := hS; go_simp; rfl) ?_
        simp only [List.getElem_toArray, List.getElem_cons_succ, List.getElem_cons_zero, Act.put, List.setIfInBounds_toArray, List.set_cons_zero, List.set_cons_succ]
      refine steps_write rfl rfl fun K hK => ?_
      go_simp
      go_at_call 77
      refine (dmust_ok x2 y2 _).mono ?_
      rintro e w3 ⟨rfl, hb⟩
      have HW3 : Hid (Below W.heap.size W w3) := HW2.out.trans (hb.mono HW2.out.size)
      skip
      refine hK _ _ (.inr (HS.out _ HW3.out)) ?_
      clear hK K hb
      refine steps_write rfl rfl fun K hK => ?_
      go_simp
      go_at_call 29
      refine (mul_ans HA.out.1 HC.out.2.2.2 _ (HTW.out _ HW3.out)).mono ?_
      rintro e w4 ⟨x3, y3, n3, rfl, hx3, hb⟩
      have HW4 : Hid (Below W.heap.size W w4) := HW3.out.trans (hb.mono HW3.out.size)
      have HX3 := Lib.hid hx3
      clear hx3
      skip
      refine hK _ _ (.inr (HS.out _ HW4.out)) ?_
      clear hK K hb
      iterate 2
        refine steps_read _ rfl rfl (fun w' hS => by obtain ⟨a0, a1, b0, c0, c1⟩ := hS; go_simp; rfl) ?_
        simp only [List.getElem_toArray, List.getElem_cons_succ, List.getElem_cons_zero, Act.put, List.setIfInBounds_toArray, List.set_cons_zero, List.set_cons_succ]
      refine steps_write rfl rfl fun K hK => ?_
      go_simp
      go_at_call 77
      refine (dmust_any x3 y3 n3 _).mono ?_
      rintro e w5 ⟨hE, hb⟩
      have HW5 : Hid (Below W.heap.size W w5) := HW4.out.trans (hb.mono HW4.out.size)
      rcases hE with ⟨h0, rfl⟩ | ⟨h0, rfl⟩
      · have HP3 : Hid (IsP (a * (1 - c)) x3 y3) := HX3.out.zero h0
        have HN3 : Hid (MissL bs ps (k + 1) (a * (1 - c))) := (HSL.out HA.out.2 HC.out.1).1 HP3.out.fits
        clear h0
        skip
        refine hK _ _ (.inr (HS.out _ HW5.out)) ?_
        clear hK K hb
        have HX5 := Lib.hid (HXW.out.below HW5.out HXW.out.lt)
        have HB5 : Hid (Below w.heap.size w w5) := HBW.out.trans (HW5.out.mono HBW.out.size)
        have p0 := HX5.out.cell 1 0 (b := w.heap.size + 1) rfl rfl rfl
        have p1 := HX5.out.cell 1 1 (b := w.heap.size + 1) rfl rfl rfl
        have f0 := HX5.out.free 1 0 (b := w.heap.size + 1) rfl rfl
        have f1 := HX5.out.free 1 1 (b := w.heap.size + 1) rfl rfl
        refine steps_write rfl rfl fun K hK => ?_
        go_simp
        have hq := two_put (HX5.out.block 1 (b := w.heap.size + 1) rfl rfl) (.string x3) (.string y3)
        have hr : ((w5.setCell ⟨w.heap.size + 1, 0, none⟩ (.string x3)).setCell ⟨w.heap.size + 1, 1, none⟩ (.string y3)).heap[w.heap.size]? = some (pObj ⟨#[]⟩ ⟨#[]⟩) := ((Below.heap_setCell _ _ _ _ (by show w.heap.size ≠ w.heap.size + 1; omega)).trans (Below.heap_setCell _ _ _ _ (by show w.heap.size ≠ w.heap.size + 1; omega))).trans (HX5.out.block 0 rfl rfl)
        have HBQ := Lib.hid (two_put_below HB5.out (b := w.heap.size + 1) (Nat.le_succ _) (.string x3) (.string y3))
        obtain ⟨Z, hZ⟩ : ∃ Z, (w5.setCell ⟨w.heap.size + 1, 0, none⟩ (.string x3)).setCell ⟨w.heap.size + 1, 1, none⟩ (.string y3) = Z := ⟨_, rfl⟩
        have hZs : Z.heap.size = w5.heap.size := by rw [← hZ]; simp
        rw [hZ] at hq hr HBQ ⊢
        have HXZ : Hid (Boxes w.heap.size [pObj ⟨#[]⟩ ⟨#[]⟩, pObj x3 y3] Z) := by
          refine ⟨by have := HX5.out.lt; simp at this ⊢; omega, fun i o ho => ?_⟩
          match i, ho with
          | 0, ho => cases ho; exact hr
          | 1, ho => cases ho; exact hq
        refine hK _ _ (.inl rfl) ?_
        clear hK K p0 p1 f0 f1 hq hr hZ hZs
        refine steps_end ?_
        go_wp2
        go_roundw
        case rel => exact ⟨k + 1, x3, y3, _, by go_num, by omega, HXZ, ⟨HP3.out, HN3.out⟩, HBQ⟩
        case measure => simp [intOf]; omega
      · have HNF : Hid (¬ Fits (a * (1 - c)) ∧ n3 = 4) := by
          rcases HX3.out with ⟨_, h1⟩ | ⟨h1, _, _, h2⟩
          · exact absurd h1 h0
          · exact ⟨h1, h2⟩
        have HD4 : Hid (MissD bs ps ⟨#[]⟩ ⟨#[]⟩ 4) := (HSL.out HA.out.2 HC.out.1).2 HNF.out.1
        clear hK h0
        have hn4 := HNF.out.2
        subst hn4
        refine ⟨rfl, ⟨#[]⟩, ⟨#[]⟩, 4, .inr ⟨by decide, rfl, rfl, rfl⟩, HD4.out, ?_⟩
        exact HBW.out.trans (HW5.out.mono HBW.out.size)
    · obtain rfl : m = k := by omega
      have HE : Hid (MissD bs ps xo yo 0) := by
        have h := HA.out.2
        rw [← HM.out] at h
        exact h.done HA.out.1
      have c0 := HX.out.cell 1 0 (b := w.heap.size + 1) rfl rfl rfl
      have c1 := HX.out.cell 1 1 (b := w.heap.size + 1) rfl rfl rfl
      have d0 := HX.out.cell 0 0 (b := w.heap.size) rfl rfl rfl
      have d1 := HX.out.cell 0 1 (b := w.heap.size) rfl rfl rfl
      have f0 := HX.out.free 0 0 (b := w.heap.size) rfl rfl
      have f1 := HX.out.free 0 1 (b := w.heap.size) rfl rfl
      go_wp2
      obtain ⟨q0, q1⟩ := two_put_cells (HX.out.block 0 (b := w.heap.size) rfl rfl) (.string xo) (.string yo)
      exact bodyPost_ret (v := .agg #[.string xo, .string yo]) (by simp [results, Tryz.f92, go_sem, q0, q1]) rfl ⟨xo, yo, 0, .inl ⟨rfl, rfl⟩, HE.out, two_put_below HB.out (Nat.le_refl _) (.string xo) (.string yo)⟩
end Go.Proofs.YtcncdepjbhnknaaGreatDoor
namespace Go.Proofs.YtcncdepjbhnknaaGreatDoor
open Go.RowKit Go.Shelf
attribute [local go_sem ↓] Go.wp_at_zero Go.wp_at_succ

set_option maxRecDepth 100000 in
set_option maxHeartbeats 4000000 in
theorem dMiss_any {v v2 : Value} {bs : List BB} {ps : List PP} {w : World} (hv : BL w v bs) (hz : LimB bs) (hv2 : PL w v2 ps) (hz2 : LimP ps) (hD : DetV w) (hT : Tabs w) :
    Calls Tryz.prog 42 #[v, v2] w (PartPost (MissP bs ps) w) := by
  obtain ⟨n1, hn1⟩ : ∃ n, bs.length = n := ⟨_, rfl⟩
  obtain ⟨p1, c1, rfl⟩ : ∃ p c, v = .slice p n1 c := by obtain ⟨p, c, h, _⟩ := id hv; exact ⟨_, _, by rw [← hn1]; exact h⟩
  obtain ⟨m, hm⟩ : ∃ n, ps.length = n := ⟨_, rfl⟩
  obtain ⟨p2, c2, rfl⟩ : ∃ p c, v2 = .slice p m c := by obtain ⟨p, c, h, _⟩ := id hv2; exact ⟨_, _, by rw [← hm]; exact h⟩
  clear hn1
  have hm9 : m ≤ 9223372036854775807 := by
    obtain ⟨p', c', hs, h1, h2, _⟩ := id hv2
    unfold maxLen at h2
    omega
  obtain ⟨w3, hw3⟩ : ∃ z, ((w.alloc (.cells #[.slice p1 n1 c1] 34)).alloc (.cells #[.slice p2 m c2] 67)).alloc (pObj ⟨#[]⟩ ⟨#[]⟩) = z := ⟨_, rfl⟩
  have hs3 : w3.heap.size = w.heap.size + 3 := by rw [← hw3]; simp
  have HX : Hid (Boxes w.heap.size [.cells #[.slice p1 n1 c1] 34, .cells #[.slice p2 m c2] 67, pObj ⟨#[]⟩ ⟨#[]⟩] w3) := by rw [← hw3]; exact Boxes.three w _ _ _
  have HB3 : Hid (Below w.heap.size w w3) := by rw [← hw3]; exact (((Below.refl _ w).alloc (Nat.le_refl _) _).alloc (by simp) _).alloc (by simp <;> omega) _
  have l0 : w3.cell? ⟨w.heap.size, 0, none⟩ = some (.slice p1 n1 c1) := HX.out.cell 0 0 rfl rfl rfl
  have d0 : w3.cell? ⟨w.heap.size + 1, 0, none⟩ = some (.slice p2 m c2) := HX.out.cell 1 0 rfl rfl rfl
  have HM := Lib.hid hm
  by_cases hlen : m ≤ 512
  · have hno : ¬ (512 : Int) < (m : Int) := by omega
    have HV := Lib.hid hv
    have HV2 := Lib.hid hv2
    have HT := Lib.hid hT
    have HD := Lib.hid hD
    have HR := Lib.hid (dright_any (hv.after HB3.out (Nat.le_refl _)) hz (hv2.after HB3.out (Nat.le_refl _)) hz2 (hD.below HB3.out (Nat.le_refl _)) (hT.below HB3.out (Nat.le_refl _)))
    have HLE : Hid (ps.length ≤ 512) := by show _ ≤ _; omega
    clear hv hv2 hz hz2 hD hT hm hlen
    go_enter Tryz.func42, Tryz.ntmps42
    go_wp2_with fail
    refine HR.out.mono ?_
    rintro e w5 ⟨hE, hb⟩
    have HX5 := Lib.hid (HX.out.below hb HX.out.lt)
    have HB5 := Lib.hid (HB3.out.trans (hb.mono HB3.out.size))
    clear l0 d0 hb HR HX HB3 hs3 hw3
    skip
    have c0 : w5.cell? ⟨w.heap.size + 1 + 1, 0, none⟩ = some (.string ⟨#[]⟩) := HX5.out.cell 2 0 rfl rfl rfl
    have c1 : w5.cell? ⟨w.heap.size + 1 + 1, 1, none⟩ = some (.string ⟨#[]⟩) := HX5.out.cell 2 1 rfl rfl rfl
    have f0 : w5.frozen? ⟨w.heap.size + 1 + 1, 0, none⟩ = false := HX5.out.free 2 0 rfl rfl
    have f1 : w5.frozen? ⟨w.heap.size + 1 + 1, 1, none⟩ = false := HX5.out.free 2 1 rfl rfl
    have hl5 := HX5.out.lt
    rcases hE with ⟨hr, rfl⟩ | ⟨hr, rfl⟩
    · have HOK : Hid (MissOk bs ps) := ⟨hr, HLE.out⟩
      have HTR : Hid (Calls Tryz.prog 68 #[.func (.func 92) #[] #[.pointer (some ⟨w.heap.size + 1, 0, none⟩), .pointer (some ⟨w.heap.size, 0, none⟩)]] w5 (PartPost (MissD bs ps) w5)) :=
        dtried_any (enters_of Tryz.func92 (by kernel_rfl) rfl) fun W hW => by
          have hx := HX5.out.below hW hl5
          have hbw := HB5.out.trans (hW.mono HB5.out.size)
          exact miss1_any (w.heap.size + 1) w.heap.size (hx.block 1 rfl rfl) (hx.block 0 rfl rfl) (HV.out.after hbw (Nat.le_refl _)) (HV2.out.after hbw (Nat.le_refl _)) HM.out HOK.out (HD.out.below hbw (Nat.le_refl _)) (HT.out.below hbw (Nat.le_refl _))
      clear hr HV HV2 HT HD
      go_wp2_with fail
      refine HTR.out.mono ?_
      rintro e w7 ⟨x, y, n, rfl, hA, hb⟩
      have HA : Hid (MissP bs ps x y n) := .inr ⟨HOK.out, hA⟩
      have HX7 := Lib.hid (HX5.out.below hb hl5)
      have HB7 := Lib.hid (HB5.out.trans (hb.mono HB5.out.size))
      clear c0 c1 f0 f1 hb hA hl5 HTR HX5 HB5
      skip
      have c0 : w7.cell? ⟨w.heap.size + 1 + 1, 0, none⟩ = some (.string ⟨#[]⟩) := HX7.out.cell 2 0 rfl rfl rfl
      have c1 : w7.cell? ⟨w.heap.size + 1 + 1, 1, none⟩ = some (.string ⟨#[]⟩) := HX7.out.cell 2 1 rfl rfl rfl
      have f0 : w7.frozen? ⟨w.heap.size + 1 + 1, 0, none⟩ = false := HX7.out.free 2 0 rfl rfl
      have f1 : w7.frozen? ⟨w.heap.size + 1 + 1, 1, none⟩ = false := HX7.out.free 2 1 rfl rfl
      go_wp2
      skip
      obtain ⟨q0, q1⟩ := two_put_cells (HX7.out.block 2 (b := w.heap.size + 1 + 1) rfl rfl) (.string x) (.string y)
      exact bodyPost_ret (v := .tuple #[.agg #[.string x, .string y], .int .i64 n]) (by simp [results, Tryz.f42, go_sem, q0, q1]) rfl ⟨x, y, n, rfl, HA.out, two_put_below HB7.out (by show _ ≤ _; omega) (.string x) (.string y)⟩
    · have HA : Hid (MissP bs ps ⟨#[]⟩ ⟨#[]⟩ 2) := .inl ⟨fun h => hr h.1, rfl, rfl, rfl⟩
      clear hr HV HV2 HT HD hl5
      go_wp2
      skip
      obtain ⟨q0, q1⟩ := two_put_cells (HX5.out.block 2 (b := w.heap.size + 1 + 1) rfl rfl) (.string ⟨#[]⟩) (.string ⟨#[]⟩)
      exact bodyPost_ret (v := .tuple #[.agg #[.string ⟨#[]⟩, .string ⟨#[]⟩], .int .i64 2]) (by simp [results, Tryz.f42, go_sem, q0, q1]) rfl ⟨⟨#[]⟩, ⟨#[]⟩, 2, rfl, HA.out, two_put_below HB5.out (by show _ ≤ _; omega) (.string ⟨#[]⟩) (.string ⟨#[]⟩)⟩
  · have hno : (512 : Int) < (m : Int) := by omega
    have HA : Hid (MissP bs ps ⟨#[]⟩ ⟨#[]⟩ 2) := .inl ⟨fun h => hlen (by have := h.2; omega), rfl, rfl, rfl⟩
    skip
    have c0 : w3.cell? ⟨w.heap.size + 1 + 1, 0, none⟩ = some (.string ⟨#[]⟩) := HX.out.cell 2 0 rfl rfl rfl
    have c1 : w3.cell? ⟨w.heap.size + 1 + 1, 1, none⟩ = some (.string ⟨#[]⟩) := HX.out.cell 2 1 rfl rfl rfl
    have f0 : w3.frozen? ⟨w.heap.size + 1 + 1, 0, none⟩ = false := HX.out.free 2 0 rfl rfl
    have f1 : w3.frozen? ⟨w.heap.size + 1 + 1, 1, none⟩ = false := HX.out.free 2 1 rfl rfl
    have HX' := HX
    have HB' := HB3
    clear hv hv2 hz hz2 hD hT hm hlen
    rw [← hw3] at l0 d0 c0 c1 f0 f1 HX' HB'
    clear hw3 HX HB3
    go_enter Tryz.func42, Tryz.ntmps42
    go_wp2
    skip
    obtain ⟨q0, q1⟩ := two_put_cells (HX'.out.block 2 (b := w.heap.size + 1 + 1) rfl rfl) (.string ⟨#[]⟩) (.string ⟨#[]⟩)
    refine bodyPost_ret (v := .tuple #[.agg #[.string ⟨#[]⟩, .string ⟨#[]⟩], .int .i64 2]) (by simp [results, Tryz.f42, go_sem, q0, q1]) rfl ⟨⟨#[]⟩, ⟨#[]⟩, 2, rfl, HA.out, ?_⟩
    exact HB'.out
end Go.Proofs.YtcncdepjbhnknaaGreatDoor
namespace Go.Proofs.YtcncdepjbhnknaaGreatDoor
open Go.RowKit

section
variable {P : Program} {ops : Array Oper} {Q : Exit → Act → World → Prop} {md : Region.Mode} {S : World → Prop} {bar : Nat → Bool}

theorem wpJT_pure {i : Nat} {oi : Oper} {v : Value} (hi : ops[i]? = some oi) (hsel : Region.noSelect ops = true) (hQ : ∀ c a w, Q (.panic c) (a.put oi.dst v) w → Q (.panic c) a w) (hbi : bar i = true) :
    ∀ (fuel : Nat) (listed : Array Bool) (a : Act) (w : World),
      (∀ j oj, ops[j]? = some oj → j ≠ i → listed.getD j true = false → (∀ e ∈ oj.after, Region.binds md e = true → e.on ≠ i) → oi.apart ops oj = true) →
      i ∈ Region.ready md ops listed → YieldsIf P ops (fun _ => True) oi v a →
      wpJ P md ops Q S bar fuel (listed.setIfInBounds i true) (a.put oi.dst v) w → wpJ P md ops Q S bar (fuel + 1) listed a w
  | 0, listed, a, w, _, hr, hy, H => by
    refine ⟨fun h => (by rw [h] at hr; cases hr), fun j hj => ?_⟩
    by_cases hji : j = i
    · subst hji; exact hy.wpOp hi trivial ⟨.inl hbi, H⟩
    · have := ready_mono hj hji
      rw [H.1] at this
      cases this
  | fuel + 1, listed, a, w, hfree, hr, hy, H => by
    refine ⟨fun h => (by rw [h] at hr; cases hr), fun j hj => ?_⟩
    by_cases hji : j = i
    · subst hji; exact hy.wpOp hi trivial ⟨.inl hbi, H⟩
    · obtain ⟨hjun, oj, hoj, hall⟩ := mem_ready.1 hj
      have hnot : ∀ e ∈ oj.after, Region.binds md e = true → e.on ≠ i := fun e he hb heq => by
        have : Region.waitsFor md ops j i = true := by
          unfold Region.waitsFor
          rw [hoj]
          exact Array.any_eq_true'.2 ⟨e, he, by simp [hb, heq]⟩
        exact not_ready_of_waits hr this hj
      have h2 := wpOp_putIf hoj (hfree j oj hoj hji hjun hnot) (fun cs b => Region.noSelect_spec hsel i oi cs b hi) (fun cs b => Region.noSelect_spec hsel j oj cs b hoj) hQ hy (H.2 j (ready_mono hj hji))
      refine wpOp_mono (fun a' w' h3 => ?_) h2
      refine ⟨h3.2.1, wpJT_pure hi hsel hQ hbi fuel (listed.setIfInBounds j true) a' w' (fun k ok hk hki hun hno => ?_) (ready_mono hr (Ne.symm hji)) h3.1 ?_⟩
      · refine hfree k ok hk hki ?_ hno
        by_cases hjk : j = k
        · subst hjk; exact hjun
        · rw [getD_set_ne true hjk] at hun; exact hun
      · rw [Array.setIfInBounds_comm _ _ hji]
        exact h3.2.2
def psteps (P : Program) (ops : Array Oper) (Q : Exit → Act → World → Prop) (S : World → Prop) (bar : Nat → Bool) : List (Nat × Nat) → Act → World → Prop
  | [], a, w => Q .normal a w
  | (0, i) :: ks, a, w => ∃ o, ops[i]? = some o ∧ (if Region.wanted o (yielded ops a.tmps) then o.wp P a w (fun a' w' => (bar i = true ∨ S w') ∧ psteps P ops Q S bar ks a' w') Q
      else (bar i = true ∨ S w) ∧ psteps P ops Q S bar ks (a.put o.dst undef) w)
  | (1, i) :: ks, a, w => ∃ o v, ops[i]? = some o ∧ YieldsIf P ops S o v a ∧ psteps P ops Q S bar ks (a.put o.dst v) w
  | (_ + 2, i) :: ks, a, w => ∃ o v, ops[i]? = some o ∧ YieldsIf P ops (fun _ => True) o v a ∧ psteps P ops Q S bar ks (a.put o.dst v) w
def pstepsB (md : Region.Mode) (ops : Array Oper) (bar : Nat → Bool) : List (Nat × Nat) → Array Bool → Bool
  | [], listed => decide (Region.ready md ops listed = [])
  | (0, k) :: ks, listed => decide (Region.ready md ops listed = [k]) && (!bar k || ks.all fun b => b.1 != 1) && pstepsB md ops bar ks (listed.setIfInBounds k true)
  | (1, k) :: ks, listed => (Region.ready md ops listed).contains k && Region.free md ops listed k && !bar k && ((List.range ops.size).all fun j => !bar j || decide (j = k) || reachB md ops ops.size j k) && pstepsB md ops bar ks (listed.setIfInBounds k true)
  | (_ + 2, k) :: ks, listed => (Region.ready md ops listed).contains k && Region.free md ops listed k && bar k && pstepsB md ops bar ks (listed.setIfInBounds k true)
theorem wpJ_of_psteps (hsel : Region.noSelect ops = true) (hQ : ∀ c a o v w, Q (.panic c) (a.put o v) w → Q (.panic c) a w) (hbo : ∀ j, ops.size ≤ j → bar j = false) :
    ∀ (ks : List (Nat × Nat)) (listed : Array Bool) (a : Act) (w : World), pstepsB md ops bar ks listed = true → Closed md ops listed →
      (S w ∨ ks.all (fun b => b.1 != 1) = true) → psteps P ops Q S bar ks a w → wpJ P md ops Q S bar ks.length listed a w
  | [], listed, a, w, hB, _, _, h => ⟨of_decide_eq_true hB, h⟩
  | (1, k) :: ks, listed, a, w, hB, hC, hS, h => by
    simp only [pstepsB, Bool.and_eq_true] at hB
    obtain ⟨⟨⟨⟨hr, hf⟩, hbk⟩, hw⟩, hB'⟩ := hB
    have hSw : S w := by
      rcases hS with hS | hS
      · exact hS
      · simp at hS
    obtain ⟨o, v, h0, hy, hrest⟩ := h
    have hbk' : bar k = false := by simpa using hbk
    have hwait : WaitsT md ops bar k := fun j hj hne => by
      have hjl : j < ops.size := by
        rcases Nat.lt_or_ge j ops.size with h' | h'
        · exact h'
        · rw [hbo j h'] at hj; cases hj
      rw [List.all_eq_true] at hw
      have := hw j (List.mem_range.2 hjl)
      rw [hj] at this
      simpa [hne] using this
    have ih := wpJ_of_psteps hsel hQ hbo ks (listed.setIfInBounds k true) (a.put o.dst v) w hB' (hC.step (by simpa using hr)) (.inl hSw) hrest
    rw [List.length_cons]
    exact wpJT_first h0 hsel (fun c a w => hQ c a o.dst v w) hwait hbk' ks.length listed a w hC (Region.free_spec h0 hf) (by simpa using hr) hy hSw ih
  | (n + 2, k) :: ks, listed, a, w, hB, hC, hS, h => by
    simp only [pstepsB, Bool.and_eq_true] at hB
    obtain ⟨⟨⟨hr, hf⟩, hbk⟩, hB'⟩ := hB
    obtain ⟨o, v, h0, hy, hrest⟩ := h
    have ih := wpJ_of_psteps hsel hQ hbo ks (listed.setIfInBounds k true) (a.put o.dst v) w hB' (hC.step (by simpa using hr)) (by
      rcases hS with hS | hS
      · exact .inl hS
      · exact .inr (by simp only [List.all_cons, Bool.and_eq_true] at hS; exact hS.2)) hrest
    rw [List.length_cons]
    exact wpJT_pure h0 hsel (fun c a w => hQ c a o.dst v w) hbk ks.length listed a w (Region.free_spec h0 hf) (by simpa using hr) hy ih
  | (0, k) :: ks, listed, a, w, hB, hC, hS, h => by
    simp only [pstepsB, Bool.and_eq_true, decide_eq_true_eq] at hB
    obtain ⟨⟨hr, hbk⟩, hB'⟩ := hB
    obtain ⟨o, h0, h⟩ := h
    refine ⟨fun h1 => (by rw [hr] at h1; cases h1), fun i hi => ?_⟩
    rw [hr] at hi
    obtain rfl : i = k := by simpa using hi
    have ih := fun a' w' (hs : bar i = true ∨ S w') h' => wpJ_of_psteps hsel hQ hbo ks (listed.setIfInBounds i true) a' w' hB' (hC.step (by rw [hr]; simp)) (by
      rcases hs with hs | hs
      · rw [hs] at hbk
        exact .inr (by simpa using hbk)
      · exact .inl hs) h'
    unfold wpOp
    simp only [h0]
    split at h
    · rename_i hw; simp only [hw, if_true]; exact .inl (Oper.wp_mono (fun a' w' h' => ⟨h'.1, ih a' w' h'.1 h'.2⟩) h)
    · rename_i hw; simp only [hw]; exact ⟨h.1, ih _ _ h.1 h.2⟩
def pstepsOk (l : List Oper) (ks : List (Nat × Nat)) (bar : Nat → Bool) : Bool :=
  Region.noSelect l.toArray && decide (ks.length = l.length) && pstepsB .any l.toArray bar ks (Array.replicate l.toArray.size false)
theorem psteps_plain {id : Nat} {a : Act} {w : World} {l : List Oper} (ks : List (Nat × Nat)) (S : World → Prop) (bar : Nat → Bool) (hm : P.follows .mixedOrders = true)
    (hB : pstepsOk l ks bar = true) (hbo : ∀ j, l.length ≤ j → bar j = false) (hQ : ∀ c a o v w, Q (.panic c) (a.put o v) w → Q (.panic c) a w) (hS : S w.drew)
    (H : psteps P l.toArray Q S bar ks a w.drew) : (Code.region id l.toArray true).wp P Q a w := by
  simp only [pstepsOk, Bool.and_eq_true, decide_eq_true_eq] at hB
  obtain ⟨⟨hsel, hn⟩, hm2⟩ := hB
  have := wpAny_of_J _ _ _ _ (wpJ_of_psteps hsel hQ (fun j hj => hbo j (by simpa using hj)) ks _ a w.drew hm2 Closed.start (.inl hS) H)
  rw [hn] at this
  exact wp_region_any hm (by simpa using this)
theorem psteps_read {i : Nat} {o : Oper} {ks : List (Nat × Nat)} {a : Act} {w : World} (v : Value) (ho : ops[i]? = some o) (hw : Region.wanted o (yielded ops a.tmps) = true) (hv : ∀ w, S w → (execOp a.eval o).run P w = .ok (.value v) w)
    (h : psteps P ops Q S bar ks (a.put o.dst v) w) : psteps P ops Q S bar ((1, i) :: ks) a w := ⟨o, v, ho, .inl ⟨hw, hv⟩, h⟩
theorem psteps_pure {i : Nat} {o : Oper} {ks : List (Nat × Nat)} {a : Act} {w : World} (v : Value) (ho : ops[i]? = some o) (hw : Region.wanted o (yielded ops a.tmps) = true) (hv : ∀ w, True → (execOp a.eval o).run P w = .ok (.value v) w)
    (h : psteps P ops Q S bar ks (a.put o.dst v) w) : psteps P ops Q S bar ((2, i) :: ks) a w := ⟨o, v, ho, .inl ⟨hw, hv⟩, h⟩
theorem psteps_write {i : Nat} {o : Oper} {ks : List (Nat × Nat)} {a : Act} {w : World} (ho : ops[i]? = some o) (hw : Region.wanted o (yielded ops a.tmps) = true)
    (h : ∀ K : Act → World → Prop, (∀ a' w', (bar i = true ∨ S w') → psteps P ops Q S bar ks a' w' → K a' w') → o.wp P a w K Q) : psteps P ops Q S bar ((0, i) :: ks) a w := by
  refine ⟨o, ho, ?_⟩
  rw [if_pos hw]
  exact h _ fun _ _ h1 h2 => ⟨h1, h2⟩
theorem psteps_end {a : Act} {w : World} (h : Q .normal a w) : psteps P ops Q S bar [] a w := h
end
end Go.Proofs.YtcncdepjbhnknaaGreatDoor
