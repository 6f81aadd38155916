/- The parts DGreat, Join, LawShort6, MissL, RNum, RTrim, RParts, RDigits, RAppend of a proof, put together by program (merge6.py). -/
import Derived.Test.YtcncdepjbhnknaaGreatDoorH19
import Derived.Test.YtcncdepjbhnknaaGreatDoorH15
import Derived.Test.YtcncdepjbhnknaaGreatDoorH13
import Derived.Test.YtcncdepjbhnknaaGreatDoorH12
import Derived.Test.YtcncdepjbhnknaaGreatDoorH11
import Derived.Test.YtcncdepjbhnknaaGreatDoorH21
import Derived.Test.YtcncdepjbhnknaaGreatDoorH20
import Derived.Test.YtcncdepjbhnknaaGreatDoorH02
import Derived.Laws.AppendOwnNone
set_option linter.unusedVariables false
set_option linter.unusedSimpArgs false
namespace Go.Proofs.YtcncdepjbhnknaaGreatDoor
open Go.RowKit Go.Shelf
attribute [local go_sem ↓] Go.wp_at_zero Go.wp_at_succ

def fewB (b : BB) : Prop := (b.1.1.size ≤ 30 ∧ b.1.2.size ≤ 30) ∧ (b.2.1.size ≤ 30 ∧ b.2.2.size ≤ 30)
def GreatPost (bs : List BB) (w : World) (e : Ending) (w' : World) : Prop := ∃ r : Bool, e = .returned (.bool r) ∧ (r = false → bs.length ≤ 66 ∧ ∀ i, i < bs.length → fewB (bAt bs i)) ∧ Below w.heap.size w w'
theorem few_lim {bs : List BB} (h : ∀ i, i < bs.length → fewB (bAt bs i)) : LimB bs := fun x hx => by
  obtain ⟨i, hi, rfl⟩ := List.getElem_of_mem hx
  have h1 := h i hi
  rw [bAt_get hi] at h1
  obtain ⟨⟨a1, a2⟩, a3, a4⟩ := h1
  exact ⟨⟨by omega, by omega⟩, by omega, by omega⟩
abbrev S4g (b o : Nat) (s t u v : ByteArray) (w' : World) : Prop := w'.cell? ⟨b, o, none⟩ = some (.string s) ∧ w'.cell? ⟨b, o + 1, none⟩ = some (.string t) ∧ w'.cell? ⟨b, o + 2, none⟩ = some (.string u) ∧ w'.cell? ⟨b, o + 3, none⟩ = some (.string v)
set_option maxRecDepth 100000 in
set_option maxHeartbeats 4000000 in
theorem great_any {v : Value} {bs : List BB} {w : World} (hv : BL w v bs) : Calls Tryz.prog 19 #[v] w (GreatPost bs w) := by
  obtain ⟨n, hn⟩ : ∃ n, bs.length = n := ⟨_, rfl⟩
  obtain ⟨p, c, rfl⟩ : ∃ p c, v = .slice p n c := by obtain ⟨p, c, h, _⟩ := id hv; exact ⟨_, _, by rw [← hn]; exact h⟩
  obtain ⟨_, hcc, hnc⟩ := hv.len
  have HV := Lib.hid hv
  have HN := Lib.hid hn
  clear hv hn
  by_cases hl : n ≤ 66
  · have hno : ¬ (66 : Int) < (n : Int) := by omega
    go_enter Tryz.func19, Tryz.ntmps19
    go_wp2_with fail
    go_loopw [3] (fun i wr => ∃ k : Nat, i = .int .i64 k ∧ k ≤ n ∧ Hid (∀ j, j < k → fewB (bAt bs j)) ∧ Hid (Below w.heap.size w wr)) (fun i _ => n - (intOf i).toNat)
    case atStart => exact ⟨0, rfl, Nat.zero_le _, fun j hj => by omega, Below.refl _ _⟩
    case round =>
      obtain ⟨k, rfl, hk, HK, HB⟩ := hrel
      by_cases hlt : k < n
      · obtain ⟨b, off, rfl, _, hat⟩ := HV.out.at HN.out (by omega)
        have hS := hat wr.drew HB.out.drew k hlt
        obtain ⟨q, hq⟩ : ∃ q, bAt bs k = q := ⟨_, rfl⟩
        rw [hq] at hS
        have HQ := Lib.hid hq
        obtain ⟨⟨s, t⟩, u, v⟩ := q
        dsimp only at hS
        have i0' : (0 : Int) ≤ (k : Int) := by omega
        have i1' : (k : Int) < (n : Int) := by omega
        clear hat hq
        go_wp2_with fail
        refine tsteps_plain [(true, 0), (true, 1), (true, 2), (true, 3), (true, 4), (true, 5), (true, 6), (true, 7), (true, 8), (true, 9), (true, 10), (true, 11), (true, 12), (true, 13), (true, 14), (true, 15), (true, 16), (true, 17), (true, 18), (true, 19), (true, 20), (true, 21), (true, 22), (true, 23), (true, 24), (true, 25), (true, 26), (true, 27), (true, 28), (true, 29), (true, 30), (true, 31)] (S4g b (off + k * 4) s t u v) (fun _ => false)
          (by kernel_rfl) (by kernel_rfl) (by kernel_rfl) (fun _ _ => rfl) (fun _ _ o _ _ h => by cases o <;> exact h) hS ?_
        iterate 32
          refine steps_read _ rfl rfl (fun w' hS => by obtain ⟨a0, a1, a2, a3⟩ := hS; go_simp; first | rfl | (rw [if_pos (by omega)])) ?_
          simp only [List.getElem_toArray, List.getElem_cons_succ, List.getElem_cons_zero, Act.put, List.setIfInBounds_toArray, List.set_cons_zero, List.set_cons_succ]
        refine steps_end ?_
        obtain ⟨mx, hmx⟩ : ∃ mx : Int, max (s.size : Int) (max (t.size : Int) (max (u.size : Int) (v.size : Int))) = mx := ⟨_, rfl⟩
        rw [hmx]
        by_cases h30 : (30 : Int) < mx
        · go_wp2
          go_ret
          exact ⟨true, rfl, (fun h => by cases h), HB.out.drew⟩
        · go_wp2
          have hb : fewB (bAt bs k) := by
            rw [HQ.out]
            show (s.size ≤ 30 ∧ t.size ≤ 30) ∧ (u.size ≤ 30 ∧ v.size ≤ 30)
            exact ⟨⟨by omega, by omega⟩, by omega, by omega⟩
          refine ⟨⟨k + 1, by simp, by omega, ?_, HB.out.drew⟩, ?_⟩
          · intro j hj
            rcases Nat.lt_or_ge j k with h | h
            · exact HK.out j h
            · obtain rfl : j = k := by omega
              exact hb
          · simp only [intOf]
            omega
      · obtain rfl : k = n := by omega
        have HF : Hid (bs.length ≤ 66 ∧ ∀ i, i < bs.length → fewB (bAt bs i)) := ⟨by rw [HN.out]; exact hl, fun i hi => HK.out i (by rw [← HN.out]; exact hi)⟩
        go_wp2
        go_ret
        exact ⟨false, rfl, fun _ => HF.out, HB.out⟩
  · have hno : (66 : Int) < (n : Int) := by omega
    go_enter Tryz.func19, Tryz.ntmps19
    go_wp2
    go_ret
    exact ⟨true, rfl, (fun h => by cases h), Below.refl _ _⟩
end Go.Proofs.YtcncdepjbhnknaaGreatDoor
namespace Go.Proofs.YtcncdepjbhnknaaGreatDoor
open Go.RowKit Go.Shelf

def JoinQ (F : Nat → Act) (R : Nat → World → Prop) (c : Exit) (a : Act) (w : World) : Prop := c = .normal ∧ ∃ G, a = F G ∧ R G w
theorem region_join {P : Program} {c : Code} {Q : Exit → Act → World → Prop} {a : Act} {w : World} (F : Nat → Act) (R : Nat → World → Prop) (h : c.wp P (JoinQ F R) a w) (k : ∀ G w', R G w' → Q .normal (F G) w') : c.wp P Q a w :=
  wp_mono h fun e a' w' ⟨he, G, ha, hR⟩ => by
    subst he ha
    exact k G w' hR
def LaidP (W : World) (x y : ByteArray) (G : Nat) (w' : World) : Prop := Below W.heap.size W w' ∧ w'.heap[G]? = some (pObj x y) ∧ W.heap.size ≤ G
theorem Ats.also {l : List (Nat × ByteArray × ByteArray)} {w : World} (h : Ats l w) {g : Nat} {x y : ByteArray} (hg : w.heap[g]? = some (pObj x y)) : Ats ((g, x, y) :: l) w := fun i p hp => by
  cases i with
  | zero =>
    obtain rfl := Option.some.inj hp
    exact hg
  | succ i => exact h i p (by simpa using hp)
end Go.Proofs.YtcncdepjbhnknaaGreatDoor
namespace Go.Proofs.YtcncdepjbhnknaaGreatDoor
open Go.RowKit Go.Shelf

def shortB (m : Nat) (ps : List PP) : Bool := ps.all fun p => decide (p.1.size ≤ m) && decide (p.2.size ≤ m)
theorem shortB_iff {m : Nat} {ps : List PP} : shortB m ps = true ↔ ∀ p ∈ ps, p.1.size ≤ m ∧ p.2.size ≤ m := by
  unfold shortB
  rw [List.all_eq_true]
  exact ⟨fun h p hp => by have := h p hp; simpa using this, fun h p hp => by simpa using h p hp⟩
theorem shortB_no {m : Nat} {ps : List PP} {k : Nat} (hk : k < ps.length) (h : ¬ (ps[k].1.size ≤ m ∧ ps[k].2.size ≤ m)) : shortB m ps = false := by
  rw [← Bool.not_eq_true, shortB_iff]
  exact fun hc => h (hc _ (List.getElem_mem hk))
set_option maxRecDepth 100000 in
set_option maxHeartbeats 4000000 in
theorem short_any (m : Nat) (hm : m ≤ 100000) {v : Value} {ps : List PP} {w : World} (hv : PL w v ps) :
    Calls Tryz.prog 25 #[.int .i64 m, v] w (BoolPost w (shortB m ps)) := by
  obtain ⟨p, cap, rfl, hcap, hmax, hp⟩ := hv
  obtain ⟨n, hn⟩ : ∃ n, ps.length = n := ⟨_, rfl⟩
  rw [hn] at hcap ⊢
  unfold maxLen at hmax
  have HN := Lib.hid hn
  have HP := Lib.hid hp
  clear hn hp
  go_enter Tryz.func25, Tryz.ntmps25
  go_wp2
  go_loopw [9] (fun i wr => ∃ (k : Nat), i = .int .i64 k ∧ k ≤ n ∧ Hid (∀ j (h : j < ps.length), j < k → ps[j].1.size ≤ m ∧ ps[j].2.size ≤ m) ∧ Hid (Below w.heap.size w wr)) (fun i _ => n - (intOf i).toNat)
  case atStart => exact ⟨0, rfl, Nat.zero_le _, fun j _ h => by omega, Below.refl _ _⟩
  case round =>
    obtain ⟨k, rfl, hk, HK, HB⟩ := hrel
    obtain ⟨w0, rfl⟩ : ∃ w0 : World, w0 = wr := ⟨_, rfl⟩
    by_cases hlt : k < n
    · obtain ⟨bb, off, rfl, hbl, hat⟩ := HP.out (List.ne_nil_of_length_pos (by rw [HN.out]; omega))
      have hkp : k < ps.length := by rw [HN.out]; exact hlt
      obtain ⟨e0, e1⟩ := (hat.below HB.out hbl) k hkp
      obtain ⟨u, hu⟩ : ∃ u, ps[k].1 = u := ⟨_, rfl⟩
      obtain ⟨v, hv⟩ : ∃ v, ps[k].2 = v := ⟨_, rfl⟩
      rw [hu] at e0
      rw [hv] at e1
      have HL : Hid (k < ps.length) := hkp
      have HU := Lib.hid hu
      have HV := Lib.hid hv
      have HB2 := Lib.hid (HB.out.alloc HB.out.size (.cells #[.string u, .string v] 46))
      clear hat hu hv
      by_cases h1 : (m : Int) < u.size
      · have HQ : Hid (shortB m ps = false) := shortB_no HL.out (by rw [HU.out]; omega)
        go_wp2
        go_ret
        exact ⟨by rw [HQ.out]; rfl, HB2.out⟩
      · by_cases h2 : (m : Int) < v.size
        · have HQ : Hid (shortB m ps = false) := shortB_no HL.out (by rw [HV.out]; omega)
          go_wp2
          go_ret
          exact ⟨by rw [HQ.out]; rfl, HB2.out⟩
        · have HK2 : Hid (∀ j (h : j < ps.length), j < k + 1 → ps[j].1.size ≤ m ∧ ps[j].2.size ≤ m) := fun j h1 h2 => by
            rcases Nat.lt_or_ge j k with h3 | h3
            · exact HK.out j h1 h3
            · obtain rfl : j = k := by omega
              rw [HU.out, HV.out]; omega
          go_wp2
          go_roundw
          case rel => exact ⟨k + 1, by go_num, by omega, HK2, HB2⟩
          case measure => simp [intOf]; omega
    · have HQ : Hid (shortB m ps = true) := shortB_iff.2 fun p hp => by
        obtain ⟨j, hj, rfl⟩ := List.getElem_of_mem hp
        exact HK.out j hj (by rw [HN.out] at hj; omega)
      go_wp2
      go_ret
      exact ⟨by rw [HQ.out]; rfl, HB.out⟩
end Go.Proofs.YtcncdepjbhnknaaGreatDoor
namespace Go.Proofs.YtcncdepjbhnknaaGreatDoor
open Go.RowKit Go.Shelf

def ChancesL (bs : List BB) : List PP → List Rat → Prop
  | [], cs => cs = []
  | p :: ps, cs => ∃ c r, cs = c :: r ∧ ChanceR bs.length (cR bs) (hR bs) (ratP p.1 p.2) c ∧ ChancesL bs ps r
theorem chanceR_exists {bs : List BB} (h : CurveP bs) (q : Rat) : ∃ c, ChanceR bs.length (cR bs) (hR bs) q c := by
  have hl := h.len
  obtain ⟨k, hk⟩ := Piece.exists (n := bs.length) (C := cR bs) q (bs.length - 1) (by omega)
  rw [Nat.sub_add_cancel (by omega)] at hk
  exact ⟨_, k, hk, rfl⟩
theorem ChancesL.exists {bs : List BB} (h : CurveP bs) : ∀ ps, ∃ cs, ChancesL bs ps cs
  | [] => ⟨[], rfl⟩
  | p :: ps => by
    obtain ⟨c, hc⟩ := chanceR_exists h (ratP p.1 p.2)
    obtain ⟨r, hr⟩ := ChancesL.exists h ps
    exact ⟨c :: r, c, r, rfl, hc, hr⟩
theorem ChancesL.unique {bs : List BB} : ∀ {ps : List PP} {cs ds : List Rat}, ChancesL bs ps cs → ChancesL bs ps ds → cs = ds
  | [], cs, ds, h, g => by rw [show cs = [] from h, show ds = [] from g]
  | p :: ps, cs, ds, h, g => by
    obtain ⟨c, r, rfl, h1, h2⟩ := h
    obtain ⟨d, s, rfl, g1, g2⟩ := g
    rw [h1.unique g1, ChancesL.unique h2 g2]
theorem ChancesL.append {bs : List BB} : ∀ {ps qs : List PP} {cs ds : List Rat}, ChancesL bs ps cs → ChancesL bs qs ds → ChancesL bs (ps ++ qs) (cs ++ ds)
  | [], qs, cs, ds, h, g => by rw [show cs = [] from h]; exact g
  | p :: ps, qs, cs, ds, h, g => by
    obtain ⟨c, r, rfl, h1, h2⟩ := h
    exact ⟨c, r ++ ds, rfl, h1, h2.append g⟩
theorem ChancesL.range {bs : List BB} (hC : CurveP bs) : ∀ {ps : List PP} {cs : List Rat}, ChancesL bs ps cs → ∀ c ∈ cs, 0 ≤ c ∧ c ≤ 1
  | [], cs, h, c, hc => by rw [show cs = [] from h] at hc; cases hc
  | p :: ps, cs, h, c, hc => by
    obtain ⟨d, r, rfl, h1, h2⟩ := h
    rcases List.mem_cons.1 hc with rfl | hc
    · exact ⟨h1.nn hC.conc' (mkRat_nonneg _ _), h1.top hC.conc'⟩
    · exact h2.range hC c hc
def MissE (a : Rat) (cs : List Rat) (x y : ByteArray) (n : Int) : Prop := (∃ r, missA a cs = some r ∧ IsP r x y ∧ n = 0) ∨ (missA a cs = none ∧ x = ⟨#[]⟩ ∧ y = ⟨#[]⟩ ∧ n = 4)
def MissL (bs : List BB) (ps : List PP) (k : Nat) (a : Rat) : Prop := ∀ x y n, (∃ cs, ChancesL bs (ps.drop k) cs ∧ MissE a cs x y n) → ∃ cs, ChancesL bs ps cs ∧ MissE 1 cs x y n
theorem MissL.zero (bs : List BB) (ps : List PP) : MissL bs ps 0 1 := fun _ _ _ h => h
theorem drop_cons {ps : List PP} {k : Nat} (hk : k < ps.length) : ps.drop k = ps[k] :: ps.drop (k + 1) := (List.drop_eq_getElem_cons hk)
theorem MissL.step {bs : List BB} {ps : List PP} {k : Nat} {a c : Rat} (h : MissL bs ps k a) (hk : k < ps.length) (hc : ChanceR bs.length (cR bs) (hR bs) (ratP ps[k].1 ps[k].2) c) (hf : Fits (a * (1 - c))) : MissL bs ps (k + 1) (a * (1 - c)) := by
  rintro x y n ⟨cs, h1, h2⟩
  refine h x y n ⟨c :: cs, ?_, ?_⟩
  · rw [drop_cons hk]
    exact ⟨c, cs, rfl, hc, h1⟩
  · unfold MissE missA
    rw [if_pos hf]
    exact h2
theorem MissL.done {bs : List BB} {ps : List PP} {a : Rat} (h : MissL bs ps ps.length a) {x y : ByteArray} (hx : IsP a x y) : ∃ cs, ChancesL bs ps cs ∧ MissE 1 cs x y 0 := by
  refine h x y 0 ⟨[], ?_, .inl ⟨a, rfl, hx, rfl⟩⟩
  rw [List.drop_length]
  exact rfl
end Go.Proofs.YtcncdepjbhnknaaGreatDoor
namespace Go.Proofs.YtcncdepjbhnknaaGreatDoor

def hleft (l : List UInt8) (k : Nat) : List UInt8 := l.take (l.length - 4 * k)
def hval (l : List UInt8) (k : Nat) : Nat := decVal ((hleft l k).drop (l.length - 4 * k - 4))
structure DigInv (xs : List Nat) (i k : Nat) (s : List UInt8) : Prop where
  dig : ∀ c ∈ s, isDig c = true
  len : s.length = 4 * i + k
  eq : decVal s = val 10000 (xs.take i) + 10000 ^ i * (xs.getD i 0 % 10 ^ k)
theorem DigInv.start (xs : List Nat) : DigInv xs 0 0 [] := ⟨by simp, rfl, by simp [val, decVal_nil, Nat.mod_one]⟩
theorem DigInv.step {xs : List Nat} {i k : Nat} {s : List UInt8} (h : DigInv xs i k s) {p : Nat} (hp : p = xs.getD i 0 / 10 ^ k) : DigInv xs i (k + 1) (UInt8.ofNat (48 + p % 10) :: s) := by
  have hd := dg1_digit (Nat.mod_lt p (by omega) : p % 10 < 10)
  refine ⟨fun c hc => ?_, by rw [List.length_cons, h.len]; omega, ?_⟩
  · rcases List.mem_cons.1 hc with rfl | hc
    · exact hd.2
    · exact h.dig c hc
  · rw [decVal_cons, hd.1, h.len, h.eq, Nat.mod_pow_succ, ← hp, Nat.pow_add, Nat.pow_mul]
    have : (10 : Nat) ^ 4 = 10000 := rfl
    rw [this]
    generalize p % 10 = d
    generalize (10000 : Nat) ^ i = a
    generalize (10 : Nat) ^ k = b
    grind
theorem DigInv.done {xs : List Nat} {s : List UInt8} (h : DigInv xs xs.length 0 s) : (∀ c ∈ s, isDig c = true) ∧ decVal s = val 10000 xs ∧ s.length = 4 * xs.length := by
  refine ⟨h.dig, ?_, by rw [h.len]; omega⟩
  rw [h.eq, List.take_of_length_le (Nat.le_refl _), Nat.pow_zero, Nat.mod_one]
  omega
theorem strip_done {s : List UInt8} (hd : ∀ c ∈ s, isDig c = true) (hn : s ≠ []) (hh : ¬ (1 < s.length ∧ s.head? = some 48)) : Go.Lib.decDigits (decVal s) = s :=
  decDigits_decVal hd hn fun h1 h2 => hh ⟨h1, h2⟩

theorem head48 (s : ByteArray) (h : 0 < s.size) : s.data.toList.head? = some 48 ↔ (s[0].toNat : Int) = 48 := by
  have h1 : s.data.toList.head? = some s[0] := by
    have : 0 < s.data.toList.length := by rw [size_len]; exact h
    rw [List.head?_eq_getElem?, List.getElem?_eq_getElem this]
    rfl
  rw [h1]
  constructor
  · intro h2
    have := Option.some.inj h2
    rw [this]; rfl
  · intro h2
    congr 1
    apply UInt8.toNat_inj.1
    have : (48 : UInt8).toNat = 48 := rfl
    omega

structure SumInv (B : Nat) (n m : List Nat) (k : Nat) (o : List Nat) (c : Nat) : Prop where
  inv : PlusInv B n m k o c
  top : k = 0 ∨ B ^ (k - 1) ≤ val B n + val B m
theorem SumInv.start (B : Nat) (n m : List Nat) : SumInv B n m 0 [] 0 := ⟨PlusInv.start B n m, .inl rfl⟩
theorem pow_le_limbs {B : Nat} (hB : 1 < B) {n k : Nat} (h : k < (limbs B n).length) : B ^ k ≤ n := by
  rcases Nat.lt_or_ge n (B ^ k) with h1 | h1
  · have := limbs_length_le hB h1; omega
  · exact h1
theorem SumInv.step {B : Nat} (hB : 1 < B) {n m : Nat} {k : Nat} {o : List Nat} {c : Nat} (h : SumInv B (limbs B n) (limbs B m) k o c) {x : Nat} (hx : x = (limbs B n).getD k 0 + c + (limbs B m).getD k 0)
    (hgo : k < (limbs B n).length ∨ k < (limbs B m).length ∨ 0 < c) : SumInv B (limbs B n) (limbs B m) (k + 1) (o ++ [x % B]) (x / B) := by
  refine ⟨h.inv.step hB (limbs_lt hB n) (limbs_lt hB m) hx, .inr ?_⟩
  rw [Nat.add_sub_cancel, val_limbs hB, val_limbs hB]
  rcases Nat.lt_or_ge k (limbs B n).length with h1 | h1
  · have := pow_le_limbs hB h1; omega
  rcases Nat.lt_or_ge k (limbs B m).length with h2 | h2
  · have := pow_le_limbs hB h2; omega
  · have hc : 0 < c := by omega
    have h3 := h.inv.eq
    rw [List.take_of_length_le h1, List.take_of_length_le h2, val_limbs hB, val_limbs hB] at h3
    have h4 : B ^ k * 1 ≤ B ^ k * c := Nat.mul_le_mul_left _ hc
    omega
theorem SumInv.done {B : Nat} (hB : 1 < B) {n m : Nat} {k : Nat} {o : List Nat} (h : SumInv B (limbs B n) (limbs B m) k o 0) (h1 : (limbs B n).length ≤ k) (h2 : (limbs B m).length ≤ k) : o = limbs B (n + m) := by
  have h3 := h.inv.eq
  rw [List.take_of_length_le h1, List.take_of_length_le h2, val_limbs hB, val_limbs hB, Nat.mul_zero, Nat.add_zero] at h3
  have h4 := limbs_prefix hB h.inv.lt
  have h5 := h.top
  rw [val_limbs hB, val_limbs hB, ← h3] at h5
  have hl : o.length ≤ (limbs B (val B o)).length := by
    rw [h.inv.len]
    rcases h5 with rfl | h5
    · omega
    · have := le_limbs_length hB h5
      omega
  rw [List.take_of_length_le hl] at h4
  rw [← h3, h4]

structure OverInv (B : Nat) (n : List Nat) (d : Nat) (k : Nat) (o : List Nat) (r : Nat) : Prop where
  inv : ShortInv B n d k o r
  zero : ∀ j, j < k → o.getD j 0 = 0
theorem OverInv.start {B : Nat} (hB : 1 < B) (n : List Nat) {d : Nat} (hd : 0 < d) : OverInv B n d n.length (List.replicate n.length 0) 0 :=
  ⟨ShortInv.start hB n hd, fun j _ => by simp only [List.getD, List.getElem?_replicate]; split <;> rfl⟩
theorem OverInv.step {B : Nat} {n : List Nat} (hn : ∀ y ∈ n, y < B) {d k : Nat} {o : List Nat} {r : Nat} (h : OverInv B n d (k + 1) o r) (hk : k < n.length) {s : Nat} (hs : s = r * B + n.getD k 0) {q : Nat} (hq : q = s / d) {t : Nat} (ht : t = s % d) :
    OverInv B n d k (o.set k q) t := by
  subst hq; subst ht
  refine ⟨h.inv.step hn hk hs, fun j hj => ?_⟩
  have := h.zero j (by omega)
  simp only [List.getD, List.getElem?_set] at this ⊢
  rw [if_neg (by omega)]; exact this
theorem OverInv.skip {B : Nat} {n : List Nat} (hn : ∀ y ∈ n, y < B) {d k : Nat} {o : List Nat} {r : Nat} (h : OverInv B n d (k + 1) o r) (hk : k < n.length) {s : Nat} (hs : s = r * B + n.getD k 0) (hlt : s < d) : OverInv B n d k o s := by
  have h1 := h.step hn hk hs (q := 0) (t := s) (by rw [Nat.div_eq_of_lt hlt]) (by rw [Nat.mod_eq_of_lt hlt])
  have h2 := h.zero k (by omega)
  have h3 : o.set k 0 = o := by
    have hl : k < o.length := by rw [h.inv.len]; exact hk
    have h4 : o[k] = 0 := by simpa [List.getD, List.getElem?_eq_getElem hl] using h2
    refine List.ext_getElem (by simp) fun j _ _ => ?_
    rw [List.getElem_set]
    split
    · rename_i e; subst e; exact h4.symm
    · rfl
  rwa [h3] at h1
theorem OverInv.done {B : Nat} {n : List Nat} {d : Nat} {o : List Nat} {r : Nat} (h : OverInv B n d 0 o r) : val B o = val B n / d ∧ r = val B n % d := h.inv.done
end Go.Proofs.YtcncdepjbhnknaaGreatDoor
namespace Go.Proofs.YtcncdepjbhnknaaGreatDoor
open Go.RowKit

def PForm (v : Value) : Prop := v = .slice none 0 0 ∨ ∃ ad m c, v = .slice (some ad) m c
def PNum (w : World) (v : Value) (n : Nat) : Prop := Nums .i64 w v (limbs 10000 n) ∧ PForm v
theorem PNum.after {w w' : World} {v : Value} {n B : Nat} (h : PNum w v n) (hb : Below B w w') (hB : w.heap.size ≤ B) : PNum w' v n := ⟨Nums.below h.1 hb hB, h.2⟩
theorem PNum.kept {w w' : World} {v : Value} {n : Nat} (h : PNum w v n) (hs : w.heap.size ≤ w'.heap.size) (hk : ∀ b, v.ownBlock = some b → b < w.heap.size → w'.heap[b]? = w.heap[b]?) : PNum w' v n := by
  obtain ⟨⟨p, c, rfl, h1, h2, h3⟩, hf⟩ := h
  refine ⟨⟨p, c, rfl, h1, h2, fun hne => ?_⟩, hf⟩
  obtain ⟨b, off, rfl, hb, ha⟩ := h3 hne
  refine ⟨b, off, rfl, Nat.lt_of_lt_of_le hb hs, fun j hj => ?_⟩
  have := hk b rfl hb
  exact (World.cell?_of_block (w := w) (a := ⟨b, off + j, none⟩) this).trans (ha j hj)
def Grow (k : IntKind) (E : TypeId) (w : World) (B : Nat) (v : Value) (xs : List Nat) : Prop := w.ownsRow B E 1 v xs.length (xs.map fun x => Value.int k (x : Nat))
section
variable {k : IntKind} {E : TypeId} {w : World} {B : Nat} {v : Value} {xs : List Nat}
theorem Grow.nil : Grow k E w B (.slice none 0 0) [] := World.ownsRow_nil w B E 1
theorem Grow.kept {w' : World} (h : Grow k E w B v xs) (hk : ∀ g, B ≤ g → v.ownBlock = some g → w'.heap[g]? = w.heap[g]?) : Grow k E w' B v xs := by
  obtain ⟨h1, h2⟩ := h
  refine ⟨h1, ?_⟩
  rcases h2 with h2 | ⟨g, cap, cur, rfl, hb, hg, hr⟩
  · exact .inl h2
  · exact .inr ⟨g, cap, cur, rfl, hb, by rw [hk g hb rfl]; exact hg, hr⟩
theorem Grow.after {w' : World} (h : Grow k E w B v xs) (hb : Below w.heap.size w w') : Grow k E w' B v xs :=
  h.kept fun g _ hv => hb.block g (World.ownsRow.lt h g hv).2
theorem Grow.alloc (h : Grow k E w B v xs) (o : Obj) : Grow k E (w.alloc o) B v xs := World.ownsRow.alloc h o
end

end Go.Proofs.YtcncdepjbhnknaaGreatDoor
namespace Go.Proofs.YtcncdepjbhnknaaGreatDoor
open Go.RowKit

end Go.Proofs.YtcncdepjbhnknaaGreatDoor
namespace Go.Proofs.YtcncdepjbhnknaaGreatDoor
open Go.RowKit

def Shown (n : Nat) (s : ByteArray) : Prop := (∀ c ∈ s.data.toList, isDig c = true) ∧ decVal s.data.toList = n
theorem Shown.done {n : Nat} {s : ByteArray} (h : Shown n s) (h0 : 0 < s.size) (hh : ¬ (1 < s.size ∧ (s[0]'h0).toNat = 48)) : s = str (Lib.decDigits n) := by
  rw [← h.2, strip_done h.1 (List.ne_nil_of_length_pos (by rw [size_len]; exact h0)), str_eq]
  rintro ⟨h1, h2⟩
  refine hh ⟨by rw [size_len] at h1; exact h1, ?_⟩
  have := (head48 s h0).1 h2
  omega
end Go.Proofs.YtcncdepjbhnknaaGreatDoor
namespace Go.Proofs.YtcncdepjbhnknaaGreatDoor
open Go.RowKit

end Go.Proofs.YtcncdepjbhnknaaGreatDoor
