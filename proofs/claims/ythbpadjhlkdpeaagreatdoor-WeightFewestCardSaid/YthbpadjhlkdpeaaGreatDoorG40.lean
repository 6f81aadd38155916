/- The parts ReadBack, LawBack of a proof, put together by program (merge.py). -/
import Derived.Test.YthbpadjhlkdpeaaGreatDoorG37
import Derived.Test.YthbpadjhlkdpeaaGreatDoorG10
import Derived.Test.YthbpadjhlkdpeaaGreatDoorG22
/- What is written is read back: plain laws of texts and decimal numbers. -/
namespace Go.Proofs.YthbpadjhlkdpeaaGreatDoor
open Go.RowKit Go.Shelf

theorem dig_ne {c : UInt8} (h : isDig c = true) : c ≠ 47 ∧ c ≠ 46 := by
  have := of_decide_eq_true h
  refine ⟨fun e => ?_, fun e => ?_⟩ <;> (rw [e] at this; exact absurd this (by decide))
theorem noCut {l : List UInt8} (hd : ∀ c ∈ l, isDig c = true) : cutB l 47 = (l, [], false) ∧ cutB l 46 = (l, [], false) :=
  ⟨cutB_none fun j hj => (dig_ne (hd _ (List.getElem_mem hj))).1, cutB_none fun j hj => (dig_ne (hd _ (List.getElem_mem hj))).2⟩
theorem cutAt {a b : List UInt8} {c : UInt8} (h : ∀ x ∈ a, x ≠ c) : cutB (a ++ c :: b) c = (a, b, true) := by
  have h1 := cutB_at (l := a ++ c :: b) (k := a.length) (c := c) (by simp) (by simp) fun j hj hk => by
    rw [List.getElem_append_left hk]
    exact h _ (List.getElem_mem hk)
  rw [h1]
  simp
theorem cutS_mk {s : ByteArray} {c : UInt8} {a b : List UInt8} {q : Bool} (h : cutB s.data.toList c = (a, b, q)) : cutS s c = (str a, str b, q) := by
  unfold cutS
  rw [h]
theorem cutS_digits {s : ByteArray} (hd : ∀ c ∈ s.data.toList, isDig c = true) : cutS s 47 = (s, ⟨#[]⟩, false) ∧ cutS s 46 = (s, ⟨#[]⟩, false) := by
  have h := noCut hd
  refine ⟨?_, ?_⟩
  · have h2 := cutS_mk h.1
    rw [str_eq] at h2
    exact h2
  · have h2 := cutS_mk h.2
    rw [str_eq] at h2
    exact h2
theorem canon_whole {l : List UInt8} (h : Canon l) : wholeOk l = true := by
  unfold wholeOk plainOk
  simp only [Bool.and_eq_true, decide_eq_true_eq, List.all_eq_true]
  exact ⟨⟨h.ne, h.dig⟩, h.head⟩
theorem plain_ok {l : List UInt8} (h : l ≠ []) (hd : ∀ c ∈ l, isDig c = true) : plainOk l = true := by
  unfold plainOk
  simp only [Bool.and_eq_true, decide_eq_true_eq, List.all_eq_true]
  exact ⟨h, hd⟩
/-- A number without a point. -/
theorem read_whole {s x y : ByteArray} {e : Int} (hc : Canon s.data.toList) (hl : s.size ≤ 600) (h : ReadR s x y e) : Ans (mkRat (decVal s.data.toList : Nat) 1) x y e := by
  obtain ⟨c1, c2⟩ := cutS_digits hc.dig
  unfold ReadR ReadQ at h
  rw [c1, c2] at h
  dsimp only at h
  rw [if_neg (by omega), if_neg (by decide), if_neg (by rw [canon_whole hc]; decide)] at h
  have e1 : (s ++ (⟨#[]⟩ : ByteArray)).data.toList = s.data.toList := by rw [ByteArray.data_append, Array.toList_append]; simp
  rw [e1, hc.text, size_len, if_neg (by omega)] at h
  exact h
theorem read_pair {s t x y : ByteArray} {e : Int} (hs : Canon s.data.toList) (ht : Canon t.data.toList) (hl : s.size ≤ 600) (hl2 : t.size ≤ 600) (h : ReadR (s ++ ⟨#[47]⟩ ++ t) x y e) : Made s t x y e := by
  have e1 : (s ++ ⟨#[47]⟩ ++ t).data.toList = s.data.toList ++ 47 :: t.data.toList := by simp [ByteArray.data_append, Array.toList_append]
  have c1 : cutS (s ++ ⟨#[47]⟩ ++ t) 47 = (s, t, true) := by
    have := cutS_mk (s := s ++ ⟨#[47]⟩ ++ t) (c := 47) (a := s.data.toList) (b := t.data.toList) (q := true) (by rw [e1]; exact cutAt fun x hx => (dig_ne (hs.dig x hx)).1)
    rw [str_eq, str_eq] at this
    exact this
  have e2 : (s ++ ⟨#[47]⟩ ++ t).size = s.size + t.size + 1 := by
    rw [← size_len, e1, ← size_len s, ← size_len t]; simp; omega
  unfold ReadR ReadQ at h
  rw [c1] at h
  dsimp only at h
  rw [if_neg (by omega), if_pos rfl, if_neg (by rw [canon_whole hs, canon_whole ht]; decide), if_neg (by omega)] at h
  exact h
/-- A fraction's text. -/
theorem read_text {q : Rat} {s t x y : ByteArray} {e : Int} (hp : IsP q s t) (h : ReadR (textOf s t) x y e) : x = s ∧ y = t ∧ e = 0 := by
  have hok := hp.ok
  obtain ⟨h1, h2, h3, h4⟩ := okP_iff.1 hok
  obtain ⟨k1, l1⟩ := canon_of_nat h1
  obtain ⟨k2, l2⟩ := canon_of_nat h2
  have key : Ans q x y e := by
    cases hb : (t.toList == [49])
    · rw [text_two hok hb] at h
      have h5 := read_pair k1 k2 l1 l2 h
      unfold Made at h5
      rw [h1, h2] at h5
      rcases h5 with ⟨h5, _⟩ | ⟨_, h5, _⟩ | ⟨_, _, h5⟩
      · cases h5
      · omega
      · rw [hp.rat] at h5; exact h5
    · rw [text_one hok hb] at h
      have h5 := read_whole k1 l1 h
      have h6 : t.data.toList = [49] := by
        have := beq_iff_eq.1 hb
        rw [ByteArray.toList_eq] at this
        exact this
      have h7 : mkRat (decVal s.data.toList : Nat) 1 = q := by
        have := hp.rat
        unfold ratP at this
        rw [h6] at this
        exact this
      rw [h7] at h5; exact h5
  obtain ⟨h5, h6⟩ := key.fit hp.fits
  obtain ⟨h7, h8⟩ := h5.one hp
  exact ⟨h7, h8, h6⟩
theorem decVal_lead (k : Nat) (l : List UInt8) : decVal (List.replicate k 48 ++ l) = decVal l := by
  rw [decVal_append, decVal_zeros]; simp
/-- A decimal number's digits. -/
theorem read_point {m n : Nat} {x y : ByteArray} {e : Int} (hm : (Lib.decDigits m).length ≤ 600) (hn : n ≤ 100) (h : ReadR (pointB (Lib.decDigits m) n) x y e) : Ans (mkRat (m : Nat) (10 ^ n)) x y e := by
  have hc := canon_decDigits m
  obtain ⟨l, hl⟩ : ∃ l, Lib.decDigits m = l := ⟨_, rfl⟩
  have hv : decVal l = m := by rw [← hl]; exact decVal_decDigits m
  rw [hl] at hm hc h
  by_cases h0 : n = 0
  · subst h0
    rw [point_zero] at h
    have h5 := read_whole (by rw [str_data]; exact hc) (by rw [str_size]; exact hm) h
    rw [str_data, hv] at h5
    exact h5
  rw [point_pos h0] at h
  have hll : 0 < l.length := List.length_pos_iff.2 hc.ne
  obtain ⟨L, hL⟩ : ∃ L, padL l n = L := ⟨_, rfl⟩
  have hd : ∀ c ∈ L, isDig c = true := by
    intro c hx
    rw [← hL] at hx
    unfold padL at hx
    rcases List.mem_append.1 hx with hx | hx
    · rw [(List.mem_replicate.1 hx).2]; decide
    · exact hc.dig c hx
  have hlen : n + 1 ≤ L.length := by rw [← hL]; unfold padL; simp; omega
  have hlen2 : L.length ≤ 701 := by rw [← hL]; unfold padL; simp; omega
  have hval : decVal L = m := by rw [← hL]; unfold padL; rw [decVal_lead, hv]
  have hhead : 1 < L.length - n → L = l := by
    intro h1
    rw [← hL] at h1 ⊢
    unfold padL at h1 ⊢
    have : n + 1 - l.length = 0 := by
      simp at h1
      omega
    rw [this]; simp
  have e1 : pointX (str (padL l n)) n = str (L.take (L.length - n)) ++ ⟨#[46]⟩ ++ str (L.drop (L.length - n)) := by
    unfold pointX
    rw [hL, str_size, cut_head]
    have := cut_tail (str L) (L.length - n)
    rw [str_size] at this
    rw [this, str_data]
  obtain ⟨a, ha⟩ : ∃ a, L.take (L.length - n) = a := ⟨_, rfl⟩
  obtain ⟨b, hb⟩ : ∃ b, L.drop (L.length - n) = b := ⟨_, rfl⟩
  have hab : a ++ b = L := by rw [← ha, ← hb, List.take_append_drop]
  have hal : a.length = L.length - n := by rw [← ha]; simp
  have hbl : b.length = n := by rw [← hb]; simp; omega
  rw [e1, ha, hb] at h
  have hda : ∀ c ∈ a, isDig c = true := fun c hx => hd c (by rw [← hab]; exact List.mem_append_left _ hx)
  have hdb : ∀ c ∈ b, isDig c = true := fun c hx => hd c (by rw [← hab]; exact List.mem_append_right _ hx)
  have e2 : (str a ++ ⟨#[46]⟩ ++ str b).data.toList = a ++ 46 :: b := by simp [ByteArray.data_append, Array.toList_append, str_data]
  have c1 : (cutS (str a ++ ⟨#[46]⟩ ++ str b) 47).2.2 = false := by
    have h47 : cutB (a ++ 46 :: b) 47 = (a ++ 46 :: b, [], false) := cutB_none fun j hj => by
      have hx := List.getElem_mem hj
      rcases List.mem_append.1 hx with hx | hx
      · exact (dig_ne (hda _ hx)).1
      · rcases List.mem_cons.1 hx with hx | hx
        · rw [hx]; decide
        · exact (dig_ne (hdb _ hx)).1
    rw [cutS_mk (s := str a ++ ⟨#[46]⟩ ++ str b) (a := a ++ 46 :: b) (b := []) (q := false) (by rw [e2]; exact h47)]
  have c2 : cutS (str a ++ ⟨#[46]⟩ ++ str b) 46 = (str a, str b, true) := cutS_mk (a := a) (b := b) (q := true) (by rw [e2]; exact cutAt fun x hx => (dig_ne (hda x hx)).2)
  have hca : Canon a := ⟨hda, (fun h1 => by rw [h1] at hal; simp at hal; omega), fun h1 => by
    have h2 := hhead (by omega)
    have h3 : a.head? = l.head? := by
      rw [← h2, ← hab, head_append (fun h4 => by rw [h4] at h1; simp at h1)]
    rw [h3]
    exact hc.head (by rw [← h2, ← hab]; simp; omega)⟩
  have e3 : (str a ++ str b).data.toList = L := by rw [ByteArray.data_append, Array.toList_append, str_data, str_data, hab]
  have e4 : (str a ++ ⟨#[46]⟩ ++ str b).size = L.length + 1 := by rw [← size_len, e2, ← hab]; simp; omega
  have hbn : b ≠ [] := fun h1 => by rw [h1] at hbl; simp at hbl; omega
  unfold ReadR ReadQ at h
  rw [c1, c2] at h
  dsimp only at h
  rw [if_neg (by omega), if_neg (by decide), if_neg (by rw [str_data, str_data, canon_whole hca, plain_ok hbn hdb]; decide), e3, hval, hl, if_neg (by omega), str_size, hbl] at h
  exact h

theorem mk_mul (u v : Nat) (hv : 0 < v) : mkRat (u : Nat) v * (v : Rat) = (u : Rat) := by
  rw [Rat.mkRat_eq_div]
  have hv' : (0 : Rat) < ((v : Nat) : Rat) := Rat.natCast_pos.2 hv
  rw [Rat.div_mul_cancel (by grind)]
  exact Rat.intCast_natCast u
theorem mk_le {x y u v : Nat} (hy : 0 < y) (hv : 0 < v) : (mkRat (x : Nat) y ≤ mkRat (u : Nat) v ↔ x * v ≤ u * y) := by
  have hy' : (0 : Rat) < ((y : Nat) : Rat) := Rat.natCast_pos.2 hy
  have hv' : (0 : Rat) < ((v : Nat) : Rat) := Rat.natCast_pos.2 hv
  have hz := Rat.mul_pos hy' hv'
  have e : ((x * v : Nat) : Rat) ≤ ((u * y : Nat) : Rat) ↔ x * v ≤ u * y := Rat.natCast_le_natCast
  rw [← e]
  have e1 := mk_mul x y hy
  have e2 := mk_mul u v hv
  have f1 : ((x * v : Nat) : Rat) = mkRat (x : Nat) y * (y * v) := by rw [Rat.natCast_mul, ← e1]; grind
  have f2 : ((u * y : Nat) : Rat) = mkRat (u : Nat) v * (y * v) := by rw [Rat.natCast_mul, ← e2]; grind
  rw [f1, f2]
  constructor
  · intro h; exact Rat.mul_le_mul_of_nonneg_right h (Rat.le_of_lt hz)
  · intro h; exact Rat.le_of_mul_le_mul_right h hz
theorem mk_eq {x y u v : Nat} (hy : 0 < y) (hv : 0 < v) : (mkRat (x : Nat) y = mkRat (u : Nat) v ↔ x * v = u * y) := by
  rw [Rat.mkRat_eq_iff (by omega) (by omega)]
  omega
theorem mk_step (k : Nat) {p : Nat} (hp : 0 < p) : mkRat ((k + 1 : Nat) : Int) p - mkRat (k : Nat) p = mkRat (1 : Nat) p := by
  rw [Rat.mkRat_eq_div, Rat.mkRat_eq_div, Rat.mkRat_eq_div]
  have hy' : (0 : Rat) < ((p : Nat) : Rat) := Rat.natCast_pos.2 hp
  simp; grind
theorem unit_zero : mkRat (1 : Nat) (10 ^ 0) = 1 := by decide +kernel
theorem unit_succ (k : Nat) : mkRat (1 : Nat) (10 ^ k) * mkRat (1 : Nat) 10 = mkRat (1 : Nat) (10 ^ (k + 1)) := by
  rw [Rat.mkRat_mul_mkRat, Nat.pow_succ]
  rfl
theorem unit_pos (k : Nat) : 0 < mkRat (1 : Nat) (10 ^ k) := by
  refine Rat.lt_of_le_of_ne (mkRat_nonneg _ _) fun h => ?_
  have hp : 0 < 10 ^ k := Nat.pow_pos (by omega)
  have := mk_mul 1 (10 ^ k) hp
  rw [← h] at this
  simp at this

/-- The decimal numbers next to a fraction. -/
theorem dec_near (a d n : Nat) (hd : 0 < d) :
    mkRat (decQ a d n : Nat) (10 ^ n) ≤ mkRat (a : Nat) d ∧ mkRat (a : Nat) d ≤ mkRat (decU a d n : Nat) (10 ^ n) ∧
    (mkRat (decQ a d n : Nat) (10 ^ n) = mkRat (a : Nat) d → decU a d n = decQ a d n) ∧
    (mkRat (decQ a d n : Nat) (10 ^ n) ≠ mkRat (a : Nat) d → decU a d n = decQ a d n + 1) := by
  have hp : 0 < 10 ^ n := Nat.pow_pos (by omega)
  obtain ⟨p, hpe⟩ : ∃ p, 10 ^ n = p := ⟨_, rfl⟩
  unfold decQ decU
  rw [hpe] at hp ⊢
  have h1 := Nat.div_add_mod (a * p) d
  have h2 := Nat.mod_lt (a * p) hd
  obtain ⟨k, hk⟩ : ∃ k, a * p / d = k := ⟨_, rfl⟩
  obtain ⟨r, hr⟩ : ∃ r, a * p % d = r := ⟨_, rfl⟩
  rw [hk, hr] at h1
  rw [hr] at h2
  rw [hk, hr]
  rw [mk_le hp hd, mk_le hd hp, Ne, mk_eq hp hd]
  have h3 : k * d + r = a * p := by rw [← h1, Nat.mul_comm]
  refine ⟨by omega, ?_, ?_, ?_⟩
  · split
    · omega
    · rw [Nat.add_mul]; omega
  · intro h4
    rw [if_pos (by omega)]
  · intro h4
    rw [if_neg (by omega)]
end Go.Proofs.YthbpadjhlkdpeaaGreatDoor
/- WeightBack's walk. -/
namespace Go.Proofs.YthbpadjhlkdpeaaGreatDoor
open Go.RowKit Go.Shelf
attribute [local go_sem ↓] Go.wp_at_zero Go.wp_at_succ

theorem text_size (s t : ByteArray) : (textOf s t).size ≤ s.size + t.size + 1 := by
  unfold textOf
  split
  · split
    · omega
    · have : (s ++ (⟨#[47]⟩ : ByteArray) ++ t).size = s.size + 1 + t.size := by rw [ByteArray.size_append, ByteArray.size_append]; rfl
      omega
  · exact Nat.zero_le _
theorem point_size (l : List UInt8) (n : Nat) : (pointB l n).size ≤ l.length + 2 * n + 3 := by
  unfold pointB
  split
  · rw [str_size]; omega
  · unfold pointX padL
    have : (⟨#[46]⟩ : ByteArray).size = 1 := rfl
    rw [ByteArray.size_append, ByteArray.size_append, ByteArray.size_extract, ByteArray.size_extract, str_size, this]
    simp only [List.length_append, List.length_replicate]
    omega
theorem back_text {q : Rat} {s t : ByteArray} (hp : IsP q s t) (w : World) (hT : Tabs w) (hV : TensV w) (hM : MaxV w) :
    Calls Tryz.prog 53 #[.string (textOf s t)] w (ValPost (.tuple #[pV s t, .int .i64 0]) w) := by
  have hl := hp.small
  have hz := text_size s t
  refine (wread_any _ w (by omega) hT hV hM).mono ?_
  rintro e w' ⟨x, y, n, rfl, h, hb⟩
  obtain ⟨rfl, rfl, rfl⟩ := read_text hp h
  exact ⟨rfl, hb⟩
theorem back_point {m n : Nat} {x y : ByteArray} (hm : (Lib.decDigits m).length ≤ 600) (hn : n ≤ 100) (hp : IsP (mkRat (m : Nat) (10 ^ n)) x y) (w : World) (hT : Tabs w) (hV : TensV w) (hM : MaxV w) :
    Calls Tryz.prog 53 #[.string (pointB (Lib.decDigits m) n)] w (ValPost (.tuple #[pV x y, .int .i64 0]) w) := by
  have hz := point_size (Lib.decDigits m) n
  refine (wread_any _ w (by omega) hT hV hM).mono ?_
  rintro e w' ⟨x', y', n', rfl, h, hb⟩
  obtain ⟨rfl, rfl, rfl⟩ := ans_to (read_point hm hn h) hp rfl
  exact ⟨rfl, hb⟩
theorem back_dec {q : Rat} {s t : ByteArray} (hp : IsP q s t) {n : Nat} (hn : n ≤ 100) (w : World) (hT : Tabs w) (hV : TensV w) :
    Calls Tryz.prog 55 #[pV s t, .int .i64 n] w (ValPost (.tuple #[.string (pointB (Lib.decDigits (decQ q.num.toNat q.den n)) n), .string (pointB (Lib.decDigits (decU q.num.toNat q.den n)) n), .int .i64 0]) w) := by
  refine (wdecimal_any s t n w hp.le.1 hp.le.2 (by omega) (by omega) hT hV).mono ?_
  rintro e w' ⟨x', y', n', rfl, h, hb⟩
  obtain ⟨e1, e2⟩ := hp.vals
  rcases h with ⟨h, _⟩ | ⟨_, _, _, rfl, rfl, rfl⟩
  · rw [hp.ok] at h
    rcases h with h | h | h
    · cases h
    · omega
    · omega
  · rw [e1, e2, Int.toNat_natCast]
    exact ⟨rfl, hb⟩
theorem back_size {q : Rat} {s t : ByteArray} (hp : IsP q s t) (h1 : s.size ≤ 200) {n : Nat} (hn : n ≤ 30) :
    decQ q.num.toNat q.den n < 10 ^ 231 ∧ decU q.num.toNat q.den n < 10 ^ 231 := by
  have h2 : q.num.toNat * 10 ^ n < 10 ^ 230 := by
    have h3 : q.num.toNat < 10 ^ 200 := Nat.lt_of_lt_of_le hp.lt.1 (Nat.pow_le_pow_right (by omega) h1)
    have h4 : 10 ^ n ≤ 10 ^ 30 := Nat.pow_le_pow_right (by omega) hn
    have h5 := Nat.mul_lt_mul_of_lt_of_le h3 h4 (Nat.pow_pos (by omega))
    rw [← Nat.pow_add] at h5
    exact h5
  have h3 := Nat.div_le_self (q.num.toNat * 10 ^ n) q.den
  have h4 : (10 : Nat) ^ 231 = 10 ^ 230 * 10 := Nat.pow_succ ..
  unfold decQ decU
  constructor
  · omega
  · split <;> omega

theorem Ats.frozen {l : List (Nat × ByteArray × ByteArray)} {w : World} (h : Ats l w) (i j : Nat) {b : Nat} {x y : ByteArray} (hp : l[i]? = some (b, x, y)) : w.frozen? ⟨b, j, none⟩ = false := known_frozen (h i _ hp) j
theorem Ats.tail {a : Nat × ByteArray × ByteArray} {l : List (Nat × ByteArray × ByteArray)} {w : World} (h : Ats (a :: l) w) : Ats l w := fun i p hp => h (i + 1) p (by simpa using hp)
theorem Ats.swap {a b : Nat × ByteArray × ByteArray} {l : List (Nat × ByteArray × ByteArray)} {w : World} (h : Ats (a :: b :: l) w) : Ats (b :: a :: l) w := fun i p hp => by
  match i with
  | 0 => exact h 1 p (by simpa using hp)
  | 1 => exact h 0 p (by simpa using hp)
  | i + 2 => exact h (i + 2) p (by simpa using hp)
theorem unit_isP {k : Nat} (hk : k ≤ 100) : ∃ x y, IsP (mkRat (1 : Nat) (10 ^ k)) x y :=
  fits_isP (mkRat_nonneg _ _) (fits_mkRat (k := 101) (Nat.pow_pos (by omega)) (by decide) (Nat.pow_lt_pow_right (by omega) (by omega)) (by decide) (by decide))
theorem p110 : IsP (mkRat (1 : Nat) 10) (⟨#[49]⟩ : ByteArray) (⟨#[49, 48]⟩ : ByteArray) := ⟨by decide +kernel, by decide +kernel, by decide +kernel, by decide +kernel⟩
theorem p11u : IsP (mkRat (1 : Nat) (10 ^ 0)) (⟨#[49]⟩ : ByteArray) (⟨#[49]⟩ : ByteArray) := ⟨by decide +kernel, by decide +kernel, by decide +kernel, by decide +kernel⟩

set_option maxRecDepth 100000 in
set_option maxHeartbeats 8000000 in
theorem back_early0 (s t : ByteArray) (pl : Nat) (w : World) (hT : Tabs w) (h0 : shortB 200 [(s, t)] = false) :
    Calls Tryz.prog 14 #[pV s t, .int .u8 pl] w (BoolPost w true) := by
  skip
  have HT := Lib.hid hT
  clear hT
  have H0 := Lib.hid h0
  clear h0
  go_enter Tryz.func14, Tryz.ntmps14
  go_wp2_with fail
  obtain ⟨w0, hw0⟩ : ∃ w0, w.alloc (pObj s t) = w0 := ⟨_, rfl⟩
  rw [hw0]
  have HB0 : Hid (Below w.heap.size w w0) := by rw [← hw0]; exact (Below.refl _ w).alloc (Nat.le_refl _) _
  have HA0 : Hid (Ats [(w.heap.size, s, t)] w0) := by rw [← hw0]; exact (Ats.nil w).push s t
  clear hw0
  refine (alive_any _ (HT.out.below HB0.out (Nat.le_refl _))).mono ?_
  rintro e w1 ⟨rfl, hb1⟩
  have HB1 := Lib.hid (HB0.out.trans (hb1.mono HB0.out.size))
  have HA1 := Lib.hid (HA0.out.after hb1 (Nat.le_refl _))
  clear hb1 HA0 HB0
  have m0 := HA1.out.c0 0 rfl
  have m1 := HA1.out.c1 0 rfl
  go_wp2_with fail
  clear m0 m1
  have hal := (Below.refl w1.heap.size w1).alloc (Nat.le_refl _) (.cells #[.string s, .string t] 24)
  have HBL := Lib.hid (HB1.out.trans (hal.mono HB1.out.size))
  have HAL := Lib.hid (HA1.out.after hal (Nat.le_refl _))
  clear hal HA1 HB1
  refine (short_any 200 (by decide) (pl_one _ s t)).mono ?_
  rintro e w2 ⟨rfl, hb2⟩
  have HB2 := Lib.hid (HBL.out.trans (hb2.mono HBL.out.size))
  have HA2 := Lib.hid (HAL.out.after hb2 (Nat.le_refl _))
  clear hb2 HAL HBL
  rw [H0.out]
  go_wp2
  go_ret
  exact ⟨rfl, HB2.out⟩
set_option maxRecDepth 100000 in
set_option maxHeartbeats 8000000 in
theorem back_early1 (s t : ByteArray) (pl : Nat) (w : World) (hT : Tabs w) (h0 : shortB 200 [(s, t)] = true) (hz : s.size ≤ 1000000 ∧ t.size ≤ 1000000) (h1 : okE s t = 2) :
    Calls Tryz.prog 14 #[pV s t, .int .u8 pl] w (BoolPost w true) := by
  have HZ := Lib.hid hz
  have H1 := Lib.hid h1
  clear hz h1
  skip
  have HT := Lib.hid hT
  clear hT
  have H0 := Lib.hid h0
  clear h0
  go_enter Tryz.func14, Tryz.ntmps14
  go_wp2_with fail
  obtain ⟨w0, hw0⟩ : ∃ w0, w.alloc (pObj s t) = w0 := ⟨_, rfl⟩
  rw [hw0]
  have HB0 : Hid (Below w.heap.size w w0) := by rw [← hw0]; exact (Below.refl _ w).alloc (Nat.le_refl _) _
  have HA0 : Hid (Ats [(w.heap.size, s, t)] w0) := by rw [← hw0]; exact (Ats.nil w).push s t
  clear hw0
  refine (alive_any _ (HT.out.below HB0.out (Nat.le_refl _))).mono ?_
  rintro e w1 ⟨rfl, hb1⟩
  have HB1 := Lib.hid (HB0.out.trans (hb1.mono HB0.out.size))
  have HA1 := Lib.hid (HA0.out.after hb1 (Nat.le_refl _))
  clear hb1 HA0 HB0
  have m0 := HA1.out.c0 0 rfl
  have m1 := HA1.out.c1 0 rfl
  go_wp2_with fail
  clear m0 m1
  have hal := (Below.refl w1.heap.size w1).alloc (Nat.le_refl _) (.cells #[.string s, .string t] 24)
  have HBL := Lib.hid (HB1.out.trans (hal.mono HB1.out.size))
  have HAL := Lib.hid (HA1.out.after hal (Nat.le_refl _))
  clear hal HA1 HB1
  refine (short_any 200 (by decide) (pl_one _ s t)).mono ?_
  rintro e w2 ⟨rfl, hb2⟩
  have HB2 := Lib.hid (HBL.out.trans (hb2.mono HBL.out.size))
  have HA2 := Lib.hid (HAL.out.after hb2 (Nat.le_refl _))
  clear hb2 HAL HBL
  rw [H0.out]
  have m0 := HA2.out.c0 0 rfl
  have m1 := HA2.out.c1 0 rfl
  go_wp2_with fail
  clear m0 m1
  refine (check_any s t _ HZ.out.1 HZ.out.2).mono ?_
  rintro e w3 ⟨rfl, hb3⟩
  have HB3 := Lib.hid (HB2.out.trans (hb3.mono HB2.out.size))
  have HA3 := Lib.hid (HA2.out.after hb3 (Nat.le_refl _))
  clear hb3 HA2 HB2
  rw [H1.out]
  go_wp2
  go_ret
  exact ⟨rfl, HB3.out⟩

set_option maxRecDepth 100000 in
set_option maxHeartbeats 8000000 in
theorem back_main {q qa qb qw : Rat} (s t a1 a2 b1 b2 v1 v2 : ByteArray) (pl n : Nat) (ss dd uu : ByteArray) (w : World) (hT : Tabs w) (hV : TensV w) (hM : MaxV w) (h0 : shortB 200 [(s, t)] = true) (hq : IsP q s t) (hn : pl % 31 = n) (hpl : pl < 256)
    (hss : textOf s t = ss)
    (hdd : ∀ W, Tabs W → TensV W → Calls Tryz.prog 55 #[pV s t, .int .i64 n] W (ValPost (.tuple #[.string dd, .string uu, .int .i64 0]) W))
    (hra : ∀ W, Tabs W → TensV W → MaxV W → Calls Tryz.prog 53 #[.string dd] W (ValPost (.tuple #[pV a1 a2, .int .i64 0]) W))
    (hrb : ∀ W, Tabs W → TensV W → MaxV W → Calls Tryz.prog 53 #[.string uu] W (ValPost (.tuple #[pV b1 b2, .int .i64 0]) W))
    (ha : IsP qa a1 a2) (hb : IsP qb b1 b2) (hw : IsP qw v1 v2) (hqw : qb - qa = qw) (hqa : qa ≤ q) (hqb : q ≤ qb)
    (hcase : (qa = q ∧ a1 = b1 ∧ a2 = b2) ∨ (qa < q ∧ qw = mkRat (1 : Nat) (10 ^ n))) :
    Calls Tryz.prog 14 #[pV s t, .int .u8 pl] w (BoolPost w true) := by
  have HZ := Lib.hid hq.le
  have H1 : Hid (okE s t = 0) := okE_yes hq.ok
  have HV := Lib.hid hV
  have HM := Lib.hid hM
  have HQ := Lib.hid hq
  have HSS := Lib.hid hss
  have HDD := Lib.hid hdd
  have HRA := Lib.hid hra
  have HRB := Lib.hid hrb
  have HPA := Lib.hid ha
  have HPB := Lib.hid hb
  have HPW := Lib.hid hw
  have HQW := Lib.hid hqw
  have HLE := Lib.hid (And.intro hqa hqb)
  have HCASE := Lib.hid hcase
  have hn31 : n < 31 := by omega
  have en : (pl : Int).tmod 31 = (n : Nat) := by rw [← hn]; rfl
  clear hV hM hq hss hdd hra hrb ha hb hw hqw hqa hqb hcase hn
  skip
  have HT := Lib.hid hT
  clear hT
  have H0 := Lib.hid h0
  clear h0
  go_enter Tryz.func14, Tryz.ntmps14
  go_wp2_with fail
  obtain ⟨w0, hw0⟩ : ∃ w0, w.alloc (pObj s t) = w0 := ⟨_, rfl⟩
  rw [hw0]
  have HB0 : Hid (Below w.heap.size w w0) := by rw [← hw0]; exact (Below.refl _ w).alloc (Nat.le_refl _) _
  have HA0 : Hid (Ats [(w.heap.size, s, t)] w0) := by rw [← hw0]; exact (Ats.nil w).push s t
  clear hw0
  refine (alive_any _ (HT.out.below HB0.out (Nat.le_refl _))).mono ?_
  rintro e w1 ⟨rfl, hb1⟩
  have HB1 := Lib.hid (HB0.out.trans (hb1.mono HB0.out.size))
  have HA1 := Lib.hid (HA0.out.after hb1 (Nat.le_refl _))
  clear hb1 HA0 HB0
  have m0 := HA1.out.c0 0 rfl
  have m1 := HA1.out.c1 0 rfl
  go_wp2_with fail
  clear m0 m1
  have hal := (Below.refl w1.heap.size w1).alloc (Nat.le_refl _) (.cells #[.string s, .string t] 24)
  have HBL := Lib.hid (HB1.out.trans (hal.mono HB1.out.size))
  have HAL := Lib.hid (HA1.out.after hal (Nat.le_refl _))
  clear hal HA1 HB1
  refine (short_any 200 (by decide) (pl_one _ s t)).mono ?_
  rintro e w2 ⟨rfl, hb2⟩
  have HB2 := Lib.hid (HBL.out.trans (hb2.mono HBL.out.size))
  have HA2 := Lib.hid (HAL.out.after hb2 (Nat.le_refl _))
  clear hb2 HAL HBL
  rw [H0.out]
  have m0 := HA2.out.c0 0 rfl
  have m1 := HA2.out.c1 0 rfl
  go_wp2_with fail
  clear m0 m1
  refine (check_any s t _ HZ.out.1 HZ.out.2).mono ?_
  rintro e w3 ⟨rfl, hb3⟩
  have HB3 := Lib.hid (HB2.out.trans (hb3.mono HB2.out.size))
  have HA3 := Lib.hid (HA2.out.after hb3 (Nat.le_refl _))
  clear hb3 HA2 HB2
  rw [H1.out]
  have m0 := HA3.out.c0 0 rfl
  have m1 := HA3.out.c1 0 rfl
  go_wp2_with fail
  clear m0 m1
  refine (wtext_any s t _ HZ.out.1 HZ.out.2).mono ?_
  rw [HSS.out]
  rintro e w4 ⟨rfl, hb⟩
  have HB4 := Lib.hid (HB3.out.trans (hb.mono HB3.out.size))
  have HA4 := Lib.hid (HA3.out.after hb (Nat.le_refl _))
  clear hb HA3 HB3
  have HRD := Lib.hid (back_text HQ.out w4 (HT.out.below HB4.out (Nat.le_refl _)) (HV.out.below HB4.out (Nat.le_refl _)) (HM.out.below HB4.out (Nat.le_refl _)))
  rw [HSS.out] at HRD
  go_wp2_with fail
  refine (HRD.out).mono ?_
  rintro e w5 ⟨rfl, hb⟩
  have HB5 : Hid (Below w.heap.size w (w5.alloc (pObj s t))) := (HB4.out.trans (hb.mono HB4.out.size)).alloc (Nat.le_trans HB4.out.size hb.size) _
  have HA5 := Lib.hid ((HA4.out.after hb (Nat.le_refl _)).push s t)
  clear hb HA4 HB4
  have m0 := HA5.out.c0 1 rfl
  have m1 := HA5.out.c1 1 rfl
  go_wp2_with fail
  clear m0 m1
  refine (HDD.out _ (HT.out.below HB5.out (Nat.le_refl _)) (HV.out.below HB5.out (Nat.le_refl _))).mono ?_
  rintro e w6 ⟨rfl, hb⟩
  have HB6 := Lib.hid (HB5.out.trans (hb.mono HB5.out.size))
  have HA6 := Lib.hid (HA5.out.after hb (Nat.le_refl _))
  clear hb HA5 HB5
  go_wp2_with fail
  refine (HRA.out _ (HT.out.below HB6.out (Nat.le_refl _)) (HV.out.below HB6.out (Nat.le_refl _)) (HM.out.below HB6.out (Nat.le_refl _))).mono ?_
  rintro e w7 ⟨rfl, hb⟩
  have HB7 : Hid (Below w.heap.size w (w7.alloc (pObj a1 a2))) := (HB6.out.trans (hb.mono HB6.out.size)).alloc (Nat.le_trans HB6.out.size hb.size) _
  have HA7 := Lib.hid ((HA6.out.after hb (Nat.le_refl _)).push a1 a2)
  clear hb HA6 HB6
  go_wp2_with fail
  refine (HRB.out _ (HT.out.below HB7.out (Nat.le_refl _)) (HV.out.below HB7.out (Nat.le_refl _)) (HM.out.below HB7.out (Nat.le_refl _))).mono ?_
  rintro e w8 ⟨rfl, hb⟩
  have HB8 : Hid (Below w.heap.size w (w8.alloc (pObj b1 b2))) := (HB7.out.trans (hb.mono HB7.out.size)).alloc (Nat.le_trans HB7.out.size hb.size) _
  have HA8 := Lib.hid ((HA7.out.after hb (Nat.le_refl _)).push b1 b2)
  clear hb HA7 HB7
  have m0 := HA8.out.c0 3 rfl
  have m1 := HA8.out.c1 3 rfl
  have m2 := HA8.out.c0 2 rfl
  have m3 := HA8.out.c1 2 rfl
  have m4 := HA8.out.c0 1 rfl
  have m5 := HA8.out.c1 1 rfl
  have m6 := HA8.out.c0 0 rfl
  have m7 := HA8.out.c1 0 rfl
  go_wp2_with fail
  clear m0 m1 m2 m3 m4 m5 m6 m7
  refine (sub_to HPB.out HPA.out HPW.out HQW.out _ (HT.out.below HB8.out (Nat.le_refl _))).mono ?_
  rintro e w9 ⟨rfl, hb⟩
  have HB9 : Hid (Below w.heap.size w (w9.alloc (pObj v1 v2))) := (HB8.out.trans (hb.mono HB8.out.size)).alloc (Nat.le_trans HB8.out.size hb.size) _
  have HA9 := Lib.hid ((HA8.out.after hb (Nat.le_refl _)).push v1 v2)
  clear hb HA8 HB8
  go_wp2_with fail
  obtain ⟨U, hU⟩ : ∃ U, w9.heap.size = U := ⟨_, rfl⟩
  obtain ⟨W, hW⟩ : ∃ W, ((w9.alloc (pObj v1 v2)).alloc (pObj ⟨#[49]⟩ ⟨#[49]⟩)).alloc (pObj ⟨#[49]⟩ ⟨#[49, 48]⟩) = W := ⟨_, rfl⟩
  have hs9 : (w9.alloc (pObj v1 v2)).heap.size = U + 1 := by rw [← hU]; simp
  have hs10 : ((w9.alloc (pObj v1 v2)).alloc (pObj ⟨#[49]⟩ ⟨#[49]⟩)).heap.size = U + 1 + 1 := by rw [← hU]; simp
  have HBW : Hid (Below w.heap.size w W) := by
    rw [← hW]
    have hb10 := HB9.out.alloc HB9.out.size (pObj ⟨#[49]⟩ ⟨#[49]⟩)
    exact hb10.alloc hb10.size _
  have HAW : Hid (Ats [(U + 1, ⟨#[49]⟩, ⟨#[49]⟩), (U + 1 + 1, ⟨#[49]⟩, ⟨#[49, 48]⟩), (U, v1, v2), (w8.heap.size, b1, b2), (w7.heap.size, a1, a2), (w5.heap.size, s, t), (w.heap.size, s, t)] W) := by
    rw [← hW]
    have h1 := (HA9.out.push ⟨#[49]⟩ ⟨#[49]⟩).push ⟨#[49]⟩ ⟨#[49, 48]⟩
    rw [hs10, hs9, hU] at h1
    exact h1.swap
  rw [hU, hW]
  have hne : ∀ b, b < w9.heap.size → b ≠ U + 1 := fun b hb => by omega
  have HLT : Hid (w8.heap.size < U + 1 ∧ w7.heap.size < U + 1 ∧ w5.heap.size < U + 1 ∧ w.heap.size < U + 1) := by
    have l1 := HA9.out.lt 1 rfl
    have l2 := HA9.out.lt 2 rfl
    have l3 := HA9.out.lt 3 rfl
    have l4 := HA9.out.lt 4 rfl
    rw [hs9] at l1 l2 l3 l4
    exact ⟨l1, l2, l3, l4⟩
  clear hW hs9 hs10 hU hne HA9 HB9
  obtain ⟨g8, h8⟩ : ∃ g, w8.heap.size = g := ⟨_, rfl⟩
  obtain ⟨g7, h7⟩ : ∃ g, w7.heap.size = g := ⟨_, rfl⟩
  obtain ⟨g5, h5⟩ : ∃ g, w5.heap.size = g := ⟨_, rfl⟩
  rw [h8, h7, h5] at HAW HLT
  rw [h8, h7, h5]
  clear h8 h7 h5
  have HNX := Lib.hid hn31
  go_loopw [90] (fun vi wr => ∃ (k : Nat) (x y : ByteArray), vi = .int .i64 k ∧ k ≤ n ∧ Hid (IsP (mkRat (1 : Nat) (10 ^ k)) x y) ∧
      Hid (Ats [(U + 1, x, y), (U + 1 + 1, ⟨#[49]⟩, ⟨#[49, 48]⟩), (U, v1, v2), (g8, b1, b2), (g7, a1, a2), (g5, s, t), (w.heap.size, s, t)] wr) ∧ Hid (Below w.heap.size w wr)) (fun vi _ => n - (intOf vi).toNat)
  case atStart => exact ⟨0, _, _, rfl, Nat.zero_le _, p11u, HAW, HBW⟩
  case round =>
    clear HAW HBW
    obtain ⟨k, x, y, rfl, hk, HX, HA, HB⟩ := hrel
    have m0 := HA.out.c0 0 rfl
    have m1 := HA.out.c1 0 rfl
    have m2 := HA.out.c0 1 rfl
    have m3 := HA.out.c1 1 rfl
    by_cases hlt : k < n
    · have hltz : (k : Int) < n := by omega
      obtain ⟨x2, y2, h2⟩ := unit_isP (k := k + 1) (by omega)
      have HX2 := Lib.hid h2
      go_wp2_with fail
      refine (mul_to HX.out p110 HX2.out (unit_succ k) _ (HT.out.below HB.out (Nat.le_refl _))).mono ?_
      rintro e w10 ⟨rfl, hb⟩
      have HA2 := Lib.hid (HA.out.after hb (Nat.le_refl _))
      have HB2 := Lib.hid (HB.out.trans (hb.mono HB.out.size))
      clear hb m0 m1 m2 m3 HA HB
      have r0 := HA2.out.c0 0 rfl
      have r1 := HA2.out.c1 0 rfl
      have f0 := HA2.out.frozen 0 0 rfl
      have f1 := HA2.out.frozen 0 1 rfl
      have HA3 : Hid (Ats [(U + 1, x2, y2), (U + 1 + 1, ⟨#[49]⟩, ⟨#[49, 48]⟩), (U, v1, v2), (g8, b1, b2), (g7, a1, a2), (g5, s, t), (w.heap.size, s, t)] ((w10.setCell ⟨U + 1, 0, none⟩ (.string x2)).setCell ⟨U + 1, 1, none⟩ (.string y2))) := by
        refine HA2.out.tail.put (HA2.out 0 _ rfl) (fun i p hp => ?_) x2 y2
        obtain ⟨l1, l2, l3, l4⟩ := HLT.out
        match i, hp with
        | 0, hp => obtain rfl := Option.some.inj hp; show U + 1 + 1 ≠ U + 1; omega
        | 1, hp => obtain rfl := Option.some.inj hp; show U ≠ U + 1; omega
        | 2, hp => obtain rfl := Option.some.inj hp; show g8 ≠ U + 1; omega
        | 3, hp => obtain rfl := Option.some.inj hp; show g7 ≠ U + 1; omega
        | 4, hp => obtain rfl := Option.some.inj hp; show g5 ≠ U + 1; omega
        | 5, hp => obtain rfl := Option.some.inj hp; show w.heap.size ≠ U + 1; omega
        | i + 6, hp => simp at hp
      have HB3 : Hid (Below w.heap.size w ((w10.setCell ⟨U + 1, 0, none⟩ (.string x2)).setCell ⟨U + 1, 1, none⟩ (.string y2))) :=
        (HB2.out.setCell (p := ⟨U + 1, 0, none⟩) (Nat.le_of_lt HLT.out.2.2.2) _).setCell (p := ⟨U + 1, 1, none⟩) (Nat.le_of_lt HLT.out.2.2.2) _
      go_wp2
      go_roundw
      case rel => exact ⟨k + 1, x2, y2, by go_num, by omega, HX2, HA3, HB3⟩
      case measure => simp [intOf]; omega
    · obtain rfl : k = n := by omega
      obtain ⟨r2, hr2⟩ : ∃ r, sgnR q qb = r := ⟨_, rfl⟩
      have S2 := Lib.hid hr2
      have hr20 : r2 ≤ 0 := by
        rw [← hr2]
        have := HLE.out.2
        unfold sgnR
        split
        · decide
        · split
          · decide
          · exfalso; grind
      have hr2d : decide (r2 ≤ 0) = true := decide_eq_true hr20
      have HTHEN := Lib.hid hr20
      clear hr2 m0 m1 m2 m3
      rcases HCASE.out with ⟨h1, h2, h3⟩ | ⟨h1, h2⟩
      · subst h2 h3
        have S1 : Hid (sgnR qa q = 0) := by
          show _ = _
          rw [h1]; unfold sgnR
          rw [if_neg (by grind), if_pos rfl]
        clear h1 HCASE
        skip
        clear HTHEN
        have m0 := HA.out.c0 4 rfl
        have m1 := HA.out.c1 4 rfl
        have m2 := HA.out.c0 6 rfl
        have m3 := HA.out.c1 6 rfl
        go_wp2_with fail
        refine (cmp_to HPA.out HQ.out S1.out _).mono ?_
        rintro e w11 ⟨rfl, hb⟩
        have HA11 := Lib.hid (HA.out.after hb (Nat.le_refl _))
        have HB11 := Lib.hid (HB.out.trans (hb.mono HB.out.size))
        clear hb m0 m1 m2 m3 HA HB
        have m0 := HA11.out.c0 4 rfl
        have m1 := HA11.out.c1 4 rfl
        have m2 := HA11.out.c0 6 rfl
        have m3 := HA11.out.c1 6 rfl
        go_wp2_with fail
        refine (cmp_to HPA.out HQ.out S1.out _).mono ?_
        rintro e w12 ⟨rfl, hb⟩
        have HA12 := Lib.hid (HA11.out.after hb (Nat.le_refl _))
        have HB12 := Lib.hid (HB11.out.trans (hb.mono HB11.out.size))
        clear hb m0 m1 m2 m3 HA11 HB11
        have m0 := HA12.out.c0 6 rfl
        have m1 := HA12.out.c1 6 rfl
        have m2 := HA12.out.c0 3 rfl
        have m3 := HA12.out.c1 3 rfl
        go_wp2_with fail
        refine (cmp_to HQ.out HPB.out S2.out _).mono ?_
        rintro e w13 ⟨rfl, hb⟩
        have HA13 := Lib.hid (HA12.out.after hb (Nat.le_refl _))
        have HB13 := Lib.hid (HB12.out.trans (hb.mono HB12.out.size))
        clear hb m0 m1 m2 m3 HA12 HB12
        have m0 := HA13.out.c0 4 rfl
        have m1 := HA13.out.c1 4 rfl
        have m2 := HA13.out.c0 3 rfl
        have m3 := HA13.out.c1 3 rfl
        have m4 := HA13.out.c0 2 rfl
        have m5 := HA13.out.c1 2 rfl
        have m6 := HA13.out.c0 0 rfl
        have m7 := HA13.out.c1 0 rfl
        go_wp2
        go_ret
        exact ⟨rfl, HB13.out⟩
      · have S1 : Hid (sgnR qa q = -1) := by
          show _ = _
          unfold sgnR
          rw [if_pos h1]
        obtain ⟨e1, e2⟩ := HPW.out.one (h2 ▸ HX.out)
        subst e1 e2
        clear h1 h2 HCASE
        skip
        clear HTHEN
        have m0 := HA.out.c0 4 rfl
        have m1 := HA.out.c1 4 rfl
        have m2 := HA.out.c0 6 rfl
        have m3 := HA.out.c1 6 rfl
        go_wp2_with fail
        refine (cmp_to HPA.out HQ.out S1.out _).mono ?_
        rintro e w11 ⟨rfl, hb⟩
        have HA11 := Lib.hid (HA.out.after hb (Nat.le_refl _))
        have HB11 := Lib.hid (HB.out.trans (hb.mono HB.out.size))
        clear hb m0 m1 m2 m3 HA HB
        have m0 := HA11.out.c0 4 rfl
        have m1 := HA11.out.c1 4 rfl
        have m2 := HA11.out.c0 6 rfl
        have m3 := HA11.out.c1 6 rfl
        go_wp2_with fail
        refine (cmp_to HPA.out HQ.out S1.out _).mono ?_
        rintro e w12 ⟨rfl, hb⟩
        have HA12 := Lib.hid (HA11.out.after hb (Nat.le_refl _))
        have HB12 := Lib.hid (HB11.out.trans (hb.mono HB11.out.size))
        clear hb m0 m1 m2 m3 HA11 HB11
        have m0 := HA12.out.c0 6 rfl
        have m1 := HA12.out.c1 6 rfl
        have m2 := HA12.out.c0 3 rfl
        have m3 := HA12.out.c1 3 rfl
        go_wp2_with fail
        refine (cmp_to HQ.out HPB.out S2.out _).mono ?_
        rintro e w13 ⟨rfl, hb⟩
        have HA13 := Lib.hid (HA12.out.after hb (Nat.le_refl _))
        have HB13 := Lib.hid (HB12.out.trans (hb.mono HB12.out.size))
        clear hb m0 m1 m2 m3 HA12 HB12
        have m0 := HA13.out.c0 4 rfl
        have m1 := HA13.out.c1 4 rfl
        have m2 := HA13.out.c0 3 rfl
        have m3 := HA13.out.c1 3 rfl
        have m4 := HA13.out.c0 2 rfl
        have m5 := HA13.out.c1 2 rfl
        have m6 := HA13.out.c0 0 rfl
        have m7 := HA13.out.c1 0 rfl
        go_wp2
        go_ret
        exact ⟨rfl, HB13.out⟩
theorem back_law (s t : ByteArray) (pl : Nat) (hpl : pl < 256) (w : World) (hT : Tabs w) (hV : TensV w) (hM : MaxV w) :
    Calls Tryz.prog 14 #[pV s t, .int .u8 pl] w (BoolPost w true) := by
  cases h0 : shortB 200 [(s, t)]
  · exact back_early0 s t pl w hT h0
  have hz := (shortB_iff.1 h0) (s, t) (by simp)
  dsimp only at hz
  cases h1 : okP s t
  · exact back_early1 s t pl w hT h0 ⟨by omega, by omega⟩ (okE_no h1)
  have hq := isP_of_ok h1
  obtain ⟨n, hn⟩ : ∃ n, pl % 31 = n := ⟨_, rfl⟩
  have hn30 : n ≤ 30 := by omega
  obtain ⟨z1, z2⟩ := back_size hq hz.1 hn30
  have hp10 : 10 ^ n < 10 ^ 231 := Nat.pow_lt_pow_right (by omega) (by omega)
  have hpp : 0 < 10 ^ n := Nat.pow_pos (by omega)
  have fq := fits_mkRat (k := 231) hpp z1 hp10 (by decide) (by decide)
  have fu := fits_mkRat (k := 231) hpp z2 hp10 (by decide) (by decide)
  obtain ⟨a1, a2, ha⟩ := fits_isP (mkRat_nonneg _ _) fq
  obtain ⟨b1, b2, hb⟩ := fits_isP (mkRat_nonneg _ _) fu
  have hqe : mkRat ((ratP s t).num.toNat : Nat) (ratP s t).den = ratP s t := by
    rw [num_toNat hq.nn]; exact Rat.mkRat_self _
  obtain ⟨d1, d2, d3, d4⟩ := dec_near (ratP s t).num.toNat (ratP s t).den n (ratP s t).den_pos
  rw [hqe] at d1 d2 d3 d4
  have l1 : (Lib.decDigits (decQ (ratP s t).num.toNat (ratP s t).den n)).length ≤ 600 := Nat.le_trans (decDigits_length_le (by decide) z1) (by decide)
  have l2 : (Lib.decDigits (decU (ratP s t).num.toNat (ratP s t).den n)).length ≤ 600 := Nat.le_trans (decDigits_length_le (by decide) z2) (by decide)
  obtain ⟨v1, v2, hw⟩ : ∃ x y, IsP (mkRat (decU (ratP s t).num.toNat (ratP s t).den n : Nat) (10 ^ n) - mkRat (decQ (ratP s t).num.toNat (ratP s t).den n : Nat) (10 ^ n)) x y := by
    by_cases he : mkRat (decQ (ratP s t).num.toNat (ratP s t).den n : Nat) (10 ^ n) = ratP s t
    · rw [d3 he]
      have : mkRat (decQ (ratP s t).num.toNat (ratP s t).den n : Nat) (10 ^ n) - mkRat (decQ (ratP s t).num.toNat (ratP s t).den n : Nat) (10 ^ n) = 0 := by grind
      rw [this]
      exact ⟨_, _, isP_zero⟩
    · rw [d4 he, mk_step _ hpp]
      exact unit_isP (by omega)
  refine back_main s t a1 a2 b1 b2 v1 v2 pl n _ _ _ w hT hV hM h0 hq hn hpl rfl (fun W h1 h2 => back_dec hq (by omega) W h1 h2) (fun W h1 h2 h3 => back_point l1 (by omega) ha W h1 h2 h3) (fun W h1 h2 h3 => back_point l2 (by omega) hb W h1 h2 h3) ha hb hw rfl d1 d2 ?_
  by_cases he : mkRat (decQ (ratP s t).num.toNat (ratP s t).den n : Nat) (10 ^ n) = ratP s t
  · refine .inl ⟨he, ?_⟩
    rw [d3 he] at hb
    exact ha.one hb
  · refine .inr ⟨Rat.lt_of_le_of_ne d1 he, ?_⟩
    rw [d4 he, mk_step _ hpp]
end Go.Proofs.YthbpadjhlkdpeaaGreatDoor
