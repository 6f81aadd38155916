/- The parts NatOk, Frac, Size, Curve, Trim, Plus, Range of a proof, put together by program (merge6.py). -/
import Derived.Test.YtcncdepjbhnknaaGreatDoorH01
import Derived.RangeFuncNested
import Derived.RangeFuncLeaves
set_option linter.unusedVariables false
set_option linter.unusedSimpArgs false
/- Which strings are natural numbers. No program is in sight. -/
namespace Go.Proofs.YtcncdepjbhnknaaGreatDoor
open Go.Lib

theorem size_len (s : ByteArray) : s.data.toList.length = s.size := rfl

/-- Only digits, and at least one. -/
def plainOk (l : List UInt8) : Bool := decide (l ≠ []) && l.all isDig
def wholeOk (l : List UInt8) : Bool := plainOk l && decide (1 < l.length → l.head? ≠ some 48)
def natOk (l : List UInt8) : Bool := wholeOk l && decide (l.length ≤ 600)

theorem canon_of_whole {l : List UInt8} (h : wholeOk l = true) : Canon l := by
  unfold wholeOk plainOk at h
  simp only [Bool.and_eq_true, decide_eq_true_eq, List.all_eq_true] at h
  exact ⟨h.1.2, h.1.1, h.2⟩
theorem canon_of_nat {l : List UInt8} (h : natOk l = true) : Canon l ∧ l.length ≤ 600 := by
  unfold natOk at h
  simp only [Bool.and_eq_true, decide_eq_true_eq] at h
  exact ⟨canon_of_whole h.1, h.2⟩
theorem natOk_of_canon {l : List UInt8} (h : Canon l) (hl : l.length ≤ 600) : natOk l = true := by
  unfold natOk wholeOk plainOk
  simp only [Bool.and_eq_true, decide_eq_true_eq, List.all_eq_true]
  exact ⟨⟨⟨h.ne, h.dig⟩, h.head⟩, hl⟩

end Go.Proofs.YtcncdepjbhnknaaGreatDoor
/- Fractions as rational numbers: what their digits are. No program is in sight. -/
namespace Go.Proofs.YtcncdepjbhnknaaGreatDoor
open Go.Lib

def numD (q : Rat) : List UInt8 := decDigits q.num.toNat
def denD (q : Rat) : List UInt8 := decDigits q.den
/-- The digits fit into a fraction of the program's. -/
def Fits (q : Rat) : Prop := (numD q).length ≤ 600 ∧ (denD q).length ≤ 600
def str (l : List UInt8) : ByteArray := ⟨l.toArray⟩
theorem str_data (l : List UInt8) : (str l).data.toList = l := by simp [str]
theorem str_eq (s : ByteArray) : str s.data.toList = s := by simp [str]
theorem str_inj {l m : List UInt8} (h : str l = str m) : l = m := by rw [← str_data l, h, str_data]
theorem str_size (l : List UInt8) : (str l).size = l.length := by rw [← size_len, str_data]

/-- The strings s and t are the parts of q. -/
structure IsP (q : Rat) (s t : ByteArray) : Prop where
  nn : 0 ≤ q
  num : s = str (numD q)
  den : t = str (denD q)
  fits : Fits q

/-- What Check asks of two strings. -/
def okP (s t : ByteArray) : Bool :=
  natOk s.data.toList && natOk t.data.toList && decide (0 < decVal t.data.toList) && decide (Nat.gcd (decVal s.data.toList) (decVal t.data.toList) = 1)
def ratP (s t : ByteArray) : Rat := mkRat (decVal s.data.toList : Nat) (decVal t.data.toList)

theorem mkRat_coprime {n d : Nat} (hd : 0 < d) (hg : Nat.gcd n d = 1) : (mkRat (n : Nat) d).num = (n : Nat) ∧ (mkRat (n : Nat) d).den = d := by
  have e := Rat.mk_eq_mkRat (n : Nat) d (by omega) (by simpa [Nat.Coprime] using hg)
  rw [← e]
  exact ⟨rfl, rfl⟩

theorem mkRat_nonneg (n d : Nat) : 0 ≤ mkRat (n : Nat) d := by
  rw [Rat.mkRat_eq_div]
  rcases Nat.eq_zero_or_pos d with h | h
  · subst h
    have : ((n : Nat) : Int) / ((0 : Nat) : Rat) = (0 : Rat) := by rw [Rat.div_def]; simp
    grind
  · have h1 : (0 : Rat) < (d : Nat) := Rat.natCast_pos.2 h
    have h2 : (0 : Rat) ≤ ((n : Nat) : Int) := Rat.intCast_nonneg.2 (by omega)
    rw [Rat.div_def]
    exact Rat.mul_nonneg h2 (Rat.le_of_lt (Rat.inv_pos.2 h1))

theorem okP_iff {s t : ByteArray} : okP s t = true ↔ natOk s.data.toList = true ∧ natOk t.data.toList = true ∧ 0 < decVal t.data.toList ∧ Nat.gcd (decVal s.data.toList) (decVal t.data.toList) = 1 := by
  unfold okP
  simp only [Bool.and_eq_true, decide_eq_true_eq]
  exact ⟨fun ⟨⟨⟨a, b⟩, c⟩, d⟩ => ⟨a, b, c, d⟩, fun ⟨a, b, c, d⟩ => ⟨⟨⟨a, b⟩, c⟩, d⟩⟩

theorem isP_of_ok {s t : ByteArray} (h : okP s t = true) : IsP (ratP s t) s t := by
  obtain ⟨h1, h2, h3, h4⟩ := okP_iff.1 h
  obtain ⟨e1, e2⟩ := mkRat_coprime h3 h4
  obtain ⟨c1, l1⟩ := canon_of_nat h1
  obtain ⟨c2, l2⟩ := canon_of_nat h2
  have n1 : numD (ratP s t) = s.data.toList := by
    unfold numD ratP
    rw [e1, Int.toNat_natCast, c1.text]
  have n2 : denD (ratP s t) = t.data.toList := by
    unfold denD ratP
    rw [e2, c2.text]
  exact ⟨mkRat_nonneg _ _, by rw [n1, str_eq], by rw [n2, str_eq], by rw [n1]; exact l1, by rw [n2]; exact l2⟩

theorem num_toNat {q : Rat} (h : 0 ≤ q) : ((q.num.toNat : Nat) : Int) = q.num := Int.toNat_of_nonneg (Rat.num_nonneg.2 h)

theorem IsP.vals {q : Rat} {s t : ByteArray} (h : IsP q s t) : decVal s.data.toList = q.num.toNat ∧ decVal t.data.toList = q.den := by
  rw [h.num, h.den, str_data, str_data]
  exact ⟨decVal_decDigits _, decVal_decDigits _⟩

theorem IsP.ok {q : Rat} {s t : ByteArray} (h : IsP q s t) : okP s t = true := by
  obtain ⟨e1, e2⟩ := h.vals
  refine okP_iff.2 ⟨?_, ?_, ?_, ?_⟩
  · rw [h.num, str_data]; exact natOk_of_canon (canon_decDigits _) h.fits.1
  · rw [h.den, str_data]; exact natOk_of_canon (canon_decDigits _) h.fits.2
  · rw [e2]; exact q.den_pos
  · rw [e1, e2]
    have h1 : Nat.gcd q.num.natAbs q.den = 1 := q.reduced
    have h2 := num_toNat h.nn
    have h3 : q.num.natAbs = q.num.toNat := by omega
    rwa [h3] at h1

theorem IsP.rat {q : Rat} {s t : ByteArray} (h : IsP q s t) : ratP s t = q := by
  obtain ⟨e1, e2⟩ := h.vals
  unfold ratP
  rw [e1, e2, num_toNat h.nn, Rat.mkRat_self]

theorem numD_inj {a b : Rat} (ha : 0 ≤ a) (hb : 0 ≤ b) (h1 : numD a = numD b) (h2 : denD a = denD b) : a = b := by
  have e1 := decDigits_inj h1
  have e2 := decDigits_inj h2
  refine Rat.ext ?_ e2
  rw [← num_toNat ha, ← num_toNat hb, e1]

theorem IsP.inj {a b : Rat} {s t u v : ByteArray} (ha : IsP a s t) (hb : IsP b u v) (h1 : s = u) (h2 : t = v) : a = b := by
  refine numD_inj ha.nn hb.nn (str_inj ?_) (str_inj ?_)
  · rw [← ha.num, ← hb.num, h1]
  · rw [← ha.den, ← hb.den, h2]
theorem IsP.same {a b : Rat} {s t u v : ByteArray} (ha : IsP a s t) (hb : IsP b u v) (h : a = b) : s = u ∧ t = v := by
  subst h
  exact ⟨ha.num.trans hb.num.symm, ha.den.trans hb.den.symm⟩
theorem IsP.eq_iff {a b : Rat} {s t u v : ByteArray} (ha : IsP a s t) (hb : IsP b u v) : (s = u ∧ t = v) ↔ a = b := ⟨fun h => ha.inj hb h.1 h.2, ha.same hb⟩

/-- What a reckoning answers: the fraction q, or that it does not fit. -/
def Ans (q : Rat) (s t : ByteArray) (e : Int) : Prop := (IsP q s t ∧ e = 0) ∨ (¬ Fits q ∧ s = str [] ∧ t = str [] ∧ e = 4)

theorem Ans.fit {q : Rat} {s t : ByteArray} {e : Int} (h : Ans q s t e) (hf : Fits q) : IsP q s t ∧ e = 0 := by
  rcases h with h | h
  · exact h
  · exact absurd hf h.1
theorem Ans.zero {q : Rat} {s t : ByteArray} {e : Int} (h : Ans q s t e) (he : e = 0) : IsP q s t := by
  rcases h with h | h
  · exact h.1
  · have := h.2.2.2; omega
theorem Ans.det {q : Rat} {s t u v : ByteArray} {e f : Int} (h : Ans q s t e) (k : Ans q u v f) : s = u ∧ t = v ∧ e = f := by
  rcases h with ⟨h, rfl⟩ | ⟨h1, h2, h3, rfl⟩
  · rcases k with ⟨k, rfl⟩ | ⟨k1, _⟩
    · exact ⟨(h.same k rfl).1, (h.same k rfl).2, rfl⟩
    · exact absurd h.fits k1
  · rcases k with ⟨k, rfl⟩ | ⟨k1, k2, k3, rfl⟩
    · exact absurd k.fits h1
    · exact ⟨h2.trans k2.symm, h3.trans k3.symm, rfl⟩

/-- The digits of a quotient of natural numbers. -/
theorem digits_mkRat (n : Nat) {d : Nat} (hd : 0 < d) : numD (mkRat (n : Nat) d) = decDigits (n / Nat.gcd n d) ∧ denD (mkRat (n : Nat) d) = decDigits (d / Nat.gcd n d) := by
  have h0 : d ≠ 0 := by omega
  unfold numD denD
  rw [Rat.num_mkRat, Rat.den_mkRat, if_neg h0, if_neg h0, Int.natAbs_natCast, Nat.gcd_comm d n]
  refine ⟨?_, rfl⟩
  congr 1

theorem fits_mkRat {n d k : Nat} (hd : 0 < d) (hn : n < 10 ^ k) (hd' : d < 10 ^ k) (hk0 : 0 < k) (hk : k ≤ 600) : Fits (mkRat (n : Nat) d) := by
  obtain ⟨e1, e2⟩ := digits_mkRat n hd
  unfold Fits
  rw [e1, e2]
  exact ⟨Nat.le_trans (decDigits_length_le hk0 (Nat.lt_of_le_of_lt (Nat.div_le_self _ _) hn)) hk, Nat.le_trans (decDigits_length_le hk0 (Nat.lt_of_le_of_lt (Nat.div_le_self _ _) hd')) hk⟩

theorem IsP.lt {q : Rat} {s t : ByteArray} (h : IsP q s t) : q.num.toNat < 10 ^ s.size ∧ q.den < 10 ^ t.size := by
  rw [h.num, h.den, str_size, str_size]
  exact ⟨lt_pow_length _, lt_pow_length _⟩

/-- The four ways to reckon, as quotients of natural numbers. -/
theorem add_mk {a b : Rat} (ha : 0 ≤ a) (hb : 0 ≤ b) : a + b = mkRat ((a.num.toNat * b.den + b.num.toNat * a.den : Nat) : Int) (a.den * b.den) := by
  rw [Rat.add_def']
  congr 1
  rw [← num_toNat ha, ← num_toNat hb]
  simp
theorem mul_mk {a b : Rat} (ha : 0 ≤ a) (hb : 0 ≤ b) : a * b = mkRat ((a.num.toNat * b.num.toNat : Nat) : Int) (a.den * b.den) := by
  rw [Rat.mul_def']
  congr 1
  rw [← num_toNat ha, ← num_toNat hb]
  simp
theorem le_nat {a b : Rat} (ha : 0 ≤ a) (hb : 0 ≤ b) : a ≤ b ↔ a.num.toNat * b.den ≤ b.num.toNat * a.den := by
  rw [Rat.le_iff, ← num_toNat ha, ← num_toNat hb]
  simp only [Int.toNat_natCast]
  exact ⟨fun h => by exact_mod_cast h, fun h => by exact_mod_cast h⟩
theorem lt_nat {a b : Rat} (ha : 0 ≤ a) (hb : 0 ≤ b) : a < b ↔ a.num.toNat * b.den < b.num.toNat * a.den := by
  rw [← Rat.not_le, le_nat hb ha]; omega
theorem eq_nat {a b : Rat} (ha : 0 ≤ a) (hb : 0 ≤ b) : a = b ↔ a.num.toNat * b.den = b.num.toNat * a.den := by
  constructor
  · rintro rfl; rfl
  · intro h
    exact Rat.le_antisymm ((le_nat ha hb).2 (by omega)) ((le_nat hb ha).2 (by omega))
theorem sub_mk {a b : Rat} (ha : 0 ≤ a) (hb : 0 ≤ b) (h : b ≤ a) : a - b = mkRat ((a.num.toNat * b.den - b.num.toNat * a.den : Nat) : Int) (a.den * b.den) := by
  have h1 := (le_nat hb ha).1 h
  rw [Rat.sub_def']
  congr 1
  rw [← num_toNat ha, ← num_toNat hb]
  simp only [Int.toNat_natCast]
  rw [Int.ofNat_sub h1]
  simp
theorem div_mk {a b : Rat} (ha : 0 ≤ a) (hb : 0 < b) : a / b = mkRat ((a.num.toNat * b.den : Nat) : Int) (a.den * b.num.toNat) := by
  have hb' := Rat.le_of_lt hb
  have h0 : 0 < b.num.toNat := by
    rcases Nat.eq_zero_or_pos b.num.toNat with h | h
    · exfalso
      have h2 := num_toNat hb'
      rw [h] at h2
      have h3 := Rat.num_eq_zero.1 h2.symm
      rw [h3] at hb
      exact absurd hb (by decide)
    · exact h
  have hA : a = mkRat ((a.num.toNat : Nat) : Int) a.den := by rw [num_toNat ha, Rat.mkRat_self]
  have hB : b = mkRat ((b.num.toNat : Nat) : Int) b.den := by rw [num_toNat hb', Rat.mkRat_self]
  generalize a.num.toNat = n at *
  generalize b.num.toNat = m at *
  have hda := a.den_pos
  have hdb := b.den_pos
  generalize a.den = d at *
  generalize b.den = f at *
  subst hA; subst hB
  rw [Rat.mkRat_eq_div, Rat.mkRat_eq_div, Rat.mkRat_eq_div]
  have h1 : (0 : Rat) < (d : Nat) := Rat.natCast_pos.2 hda
  have h2 : (0 : Rat) < (f : Nat) := Rat.natCast_pos.2 hdb
  have h3 : (0 : Rat) < (m : Nat) := Rat.natCast_pos.2 h0
  simp only [Rat.intCast_natCast, Rat.natCast_mul]
  generalize ((d : Nat) : Rat) = x at *
  generalize ((f : Nat) : Rat) = y at *
  generalize ((m : Nat) : Rat) = z at *
  generalize ((n : Nat) : Rat) = u at *
  have hx : x ≠ 0 := by grind
  have hy : y ≠ 0 := by grind
  have hz : z ≠ 0 := by grind
  grind
end Go.Proofs.YtcncdepjbhnknaaGreatDoor
/- How many digits the parts of fractions have. No program is in sight. -/
namespace Go.Proofs.YtcncdepjbhnknaaGreatDoor
open Go.Lib

/-- The parts have at most k digits. -/
def Sz (k : Nat) (q : Rat) : Prop := q.num.toNat < 10 ^ k ∧ q.den < 10 ^ k

theorem nums_mkRat (n : Nat) {d : Nat} (hd : 0 < d) : (mkRat (n : Nat) d).num.toNat = n / Nat.gcd n d ∧ (mkRat (n : Nat) d).den = d / Nat.gcd n d := by
  have h0 : d ≠ 0 := by omega
  rw [Rat.num_mkRat, Rat.den_mkRat, if_neg h0, if_neg h0, Int.natAbs_natCast, Nat.gcd_comm d n]
  exact ⟨rfl, rfl⟩

theorem Sz.mk {n d k : Nat} (hd : 0 < d) (h1 : n < 10 ^ k) (h2 : d < 10 ^ k) : Sz k (mkRat (n : Nat) d) := by
  obtain ⟨e1, e2⟩ := nums_mkRat n hd
  unfold Sz
  rw [e1, e2]
  exact ⟨Nat.lt_of_le_of_lt (Nat.div_le_self _ _) h1, Nat.lt_of_le_of_lt (Nat.div_le_self _ _) h2⟩
theorem Sz.mono {k l : Nat} {q : Rat} (h : Sz k q) (hl : k ≤ l) : Sz l q := by
  have := Nat.pow_le_pow_right (n := 10) (by omega) hl
  exact ⟨Nat.lt_of_lt_of_le h.1 this, Nat.lt_of_lt_of_le h.2 this⟩
theorem Sz.fits {k : Nat} {q : Rat} (h : Sz k q) (h0 : 0 < k) (hk : k ≤ 600) : Fits q :=
  ⟨Nat.le_trans (decDigits_length_le h0 h.1) hk, Nat.le_trans (decDigits_length_le h0 h.2) hk⟩
theorem IsP.sz {q : Rat} {s t : ByteArray} {k : Nat} (h : IsP q s t) (h1 : s.size ≤ k) (h2 : t.size ≤ k) : Sz k q := by
  have h3 := h.lt
  exact ⟨Nat.lt_of_lt_of_le h3.1 (Nat.pow_le_pow_right (by omega) h1), Nat.lt_of_lt_of_le h3.2 (Nat.pow_le_pow_right (by omega) h2)⟩

theorem mul_lt_pow {a b k l : Nat} (h1 : a < 10 ^ k) (h2 : b < 10 ^ l) : a * b < 10 ^ (k + l) := by
  rw [Nat.pow_add]
  exact Nat.mul_lt_mul'' h1 h2
theorem Sz.mul {k l : Nat} {a b : Rat} (ha : 0 ≤ a) (hb : 0 ≤ b) (h1 : Sz k a) (h2 : Sz l b) : Sz (k + l) (a * b) := by
  rw [mul_mk ha hb]
  exact Sz.mk (Nat.mul_pos a.den_pos b.den_pos) (mul_lt_pow h1.1 h2.1) (mul_lt_pow h1.2 h2.2)
theorem Sz.add {k l : Nat} {a b : Rat} (ha : 0 ≤ a) (hb : 0 ≤ b) (h1 : Sz k a) (h2 : Sz l b) : Sz (k + l + 1) (a + b) := by
  rw [add_mk ha hb]
  have e1 := mul_lt_pow h1.1 h2.2
  have e2 := mul_lt_pow h2.1 h1.2
  have e3 := mul_lt_pow h1.2 h2.2
  have e4 : (10 : Nat) ^ (k + l + 1) = 10 ^ (k + l) * 10 := Nat.pow_succ ..
  have e5 : (10 : Nat) ^ (l + k) = 10 ^ (k + l) := by rw [Nat.add_comm]
  exact Sz.mk (Nat.mul_pos a.den_pos b.den_pos) (by omega) (by omega)
theorem Sz.sub {k l : Nat} {a b : Rat} (ha : 0 ≤ a) (hb : 0 ≤ b) (h : b ≤ a) (h1 : Sz k a) (h2 : Sz l b) : Sz (k + l) (a - b) := by
  rw [sub_mk ha hb h]
  have e1 := mul_lt_pow h1.1 h2.2
  have e3 := mul_lt_pow h1.2 h2.2
  exact Sz.mk (Nat.mul_pos a.den_pos b.den_pos) (by omega) e3
theorem num_pos {b : Rat} (hb : 0 < b) : 0 < b.num.toNat := by
  rcases Nat.eq_zero_or_pos b.num.toNat with h | h
  · exfalso
    have h2 := num_toNat (Rat.le_of_lt hb)
    rw [h] at h2
    have h3 := Rat.num_eq_zero.1 h2.symm
    rw [h3] at hb
    exact absurd hb (by decide)
  · exact h
theorem Sz.div {k l : Nat} {a b : Rat} (ha : 0 ≤ a) (hb : 0 < b) (h1 : Sz k a) (h2 : Sz l b) : Sz (k + l) (a / b) := by
  rw [div_mk ha hb]
  exact Sz.mk (Nat.mul_pos a.den_pos (num_pos hb)) (mul_lt_pow h1.1 h2.2) (mul_lt_pow h1.2 h2.1)
theorem div_nonneg {a b : Rat} (ha : 0 ≤ a) (hb : 0 ≤ b) : 0 ≤ a / b := by
  rcases Rat.le_iff_lt_or_eq.1 hb with h | h
  · rw [Rat.div_def]; exact Rat.mul_nonneg ha (Rat.le_of_lt (Rat.inv_pos.2 h))
  · rw [← h, Rat.div_def, Rat.inv_zero, Rat.mul_zero]; exact Rat.le_refl
end Go.Proofs.YtcncdepjbhnknaaGreatDoor
/- Curves of chances: pieces, lines, concavity. No program is in sight. -/
namespace Go.Proofs.YtcncdepjbhnknaaGreatDoor

/-- The slope from a bend to the next one. -/
def slp (C H : Nat → Rat) (i : Nat) : Rat := (H (i + 1) - H i) / (C (i + 1) - C i)
/-- A curve of n bends at (C i, H i). -/
structure Conc (n : Nat) (C H : Nat → Rat) : Prop where
  two : 2 ≤ n
  c0 : C 0 = 0
  h0 : H 0 = 0
  top : ∀ i, i < n → H i ≤ 1
  up : ∀ i, i + 1 < n → C i < C (i + 1) ∧ H i ≤ H (i + 1)
  conc : ∀ i, i + 2 < n → slp C H (i + 1) ≤ slp C H i
/-- The slope behind a bend, 0 behind the last one. -/
def slo (n : Nat) (C H : Nat → Rat) (i : Nat) : Rat := if i + 1 < n then slp C H i else 0
/-- The line from a bend on. -/
def lin (n : Nat) (C H : Nat → Rat) (i : Nat) (q : Rat) : Rat := H i + slo n C H i * (q - C i)
/-- The last bend that is not behind a coverage. -/
def Piece (n : Nat) (C : Nat → Rat) (q : Rat) (i : Nat) : Prop := i < n ∧ (∀ j, j < i → C (j + 1) ≤ q) ∧ (i + 1 < n → q < C (i + 1))

theorem Piece.unique {n : Nat} {C : Nat → Rat} {q : Rat} {i k : Nat} (h : Piece n C q i) (g : Piece n C q k) : i = k := by
  obtain ⟨h1, h2, h3⟩ := h
  obtain ⟨g1, g2, g3⟩ := g
  rcases Nat.lt_trichotomy i k with hl | hl | hl
  · have a := h3 (by omega)
    have b := g2 i hl
    grind
  · exact hl
  · have a := g3 (by omega)
    have b := h2 k hl
    grind
theorem slp_mul {C H : Nat → Rat} {i : Nat} (h : C i < C (i + 1)) : slp C H i * (C (i + 1) - C i) = H (i + 1) - H i := by
  unfold slp
  have : C (i + 1) - C i ≠ 0 := by grind
  exact Rat.div_mul_cancel this
theorem slp_nn {C H : Nat → Rat} {i : Nat} (h : C i < C (i + 1)) (h2 : H i ≤ H (i + 1)) : 0 ≤ slp C H i := div_nonneg (by grind) (by grind)
theorem Conc.slo_nn {n : Nat} {C H : Nat → Rat} (h : Conc n C H) (i : Nat) : 0 ≤ slo n C H i := by
  unfold slo
  split
  · rename_i hi
    exact slp_nn (h.up i hi).1 (h.up i hi).2
  · exact Rat.le_refl
theorem Conc.slo_down {n : Nat} {C H : Nat → Rat} (h : Conc n C H) {i : Nat} (hi : i + 1 < n) : slo n C H (i + 1) ≤ slo n C H i := by
  by_cases h2 : i + 2 < n
  · unfold slo
    rw [if_pos (by omega), if_pos hi]
    exact h.conc i h2
  · have e : slo n C H (i + 1) = 0 := by unfold slo; rw [if_neg (by omega)]
    rw [e]
    exact h.slo_nn i
theorem Conc.meet {n : Nat} {C H : Nat → Rat} (h : Conc n C H) {i : Nat} (hi : i + 1 < n) (q : Rat) : lin n C H i q = H (i + 1) + slo n C H i * (q - C (i + 1)) := by
  have e : slo n C H i = slp C H i := by unfold slo; rw [if_pos hi]
  unfold lin
  rw [e]
  have := slp_mul (C := C) (H := H) (h.up i hi).1
  grind
theorem mul_mono {s t d : Rat} (h : s ≤ t) (hd : 0 ≤ d) : s * d ≤ t * d := Rat.mul_le_mul_of_nonneg_right h hd
theorem Conc.lin_up {n : Nat} {C H : Nat → Rat} (h : Conc n C H) {i : Nat} (hi : i + 1 < n) {q : Rat} (hq : q ≤ C (i + 1)) : lin n C H i q ≤ lin n C H (i + 1) q := by
  rw [h.meet hi]
  unfold lin
  have := mul_mono (h.slo_down hi) (d := C (i + 1) - q) (by grind)
  grind
theorem Conc.lin_down {n : Nat} {C H : Nat → Rat} (h : Conc n C H) {i : Nat} (hi : i + 1 < n) {q : Rat} (hq : C (i + 1) ≤ q) : lin n C H (i + 1) q ≤ lin n C H i q := by
  rw [h.meet hi]
  unfold lin
  have := mul_mono (h.slo_down hi) (d := q - C (i + 1)) (by grind)
  grind
theorem Conc.c_mono {n : Nat} {C H : Nat → Rat} (h : Conc n C H) {i : Nat} : ∀ d, i + d < n → C i ≤ C (i + d)
  | 0, _ => Rat.le_refl
  | d + 1, hd => Rat.le_trans (h.c_mono d (by omega)) (Rat.le_of_lt (h.up (i + d) (by omega)).1)
theorem Conc.h_mono {n : Nat} {C H : Nat → Rat} (h : Conc n C H) {i : Nat} : ∀ d, i + d < n → H i ≤ H (i + d)
  | 0, _ => Rat.le_refl
  | d + 1, hd => Rat.le_trans (h.h_mono d (by omega)) (h.up (i + d) (by omega)).2
theorem Conc.c_nn {n : Nat} {C H : Nat → Rat} (h : Conc n C H) {i : Nat} (hi : i < n) : 0 ≤ C i := by
  have := h.c_mono (i := 0) i (by omega)
  rw [Nat.zero_add, h.c0] at this
  exact this
theorem Conc.h_nn {n : Nat} {C H : Nat → Rat} (h : Conc n C H) {i : Nat} (hi : i < n) : 0 ≤ H i := by
  have := h.h_mono (i := 0) i (by omega)
  rw [Nat.zero_add, h.h0] at this
  exact this
theorem Conc.slo_mono {n : Nat} {C H : Nat → Rat} (h : Conc n C H) {i : Nat} : ∀ d, i + d < n → slo n C H (i + d) ≤ slo n C H i
  | 0, _ => Rat.le_refl
  | d + 1, hd => Rat.le_trans (h.slo_down (i := i + d) hd) (h.slo_mono d (by omega))
/-- No line is below that of the piece. -/
theorem Conc.least {n : Nat} {C H : Nat → Rat} (h : Conc n C H) {q : Rat} {k : Nat} (hk : Piece n C q k) {i : Nat} (hi : i < n) : lin n C H k q ≤ lin n C H i q := by
  obtain ⟨h1, h2, h3⟩ := hk
  by_cases hl : k ≤ i
  · have up : ∀ d, k + d < n → lin n C H k q ≤ lin n C H (k + d) q := fun d => by
      induction d with
      | zero => intro _; exact Rat.le_refl
      | succ d ih =>
        intro hd
        have a := h3 (by omega)
        have b := h.c_mono (i := k + 1) d (by omega)
        have e : k + 1 + d = k + d + 1 := by omega
        rw [e] at b
        exact Rat.le_trans (ih (by omega)) (h.lin_up (i := k + d) hd (by grind))
    have := up (i - k) (by omega)
    rwa [Nat.add_sub_cancel' hl] at this
  · have down : ∀ d, i + d ≤ k → lin n C H (i + d) q ≤ lin n C H i q := fun d => by
      induction d with
      | zero => intro _; exact Rat.le_refl
      | succ d ih =>
        intro hd
        exact Rat.le_trans (h.lin_down (i := i + d) (by omega) (h2 (i + d) (by omega))) (ih (by omega))
    have := down (k - i) (by omega)
    rwa [Nat.add_sub_cancel' (by omega)] at this
theorem Piece.low {n : Nat} {C H : Nat → Rat} {q : Rat} {k : Nat} (h : Conc n C H) (hk : Piece n C q k) (hq : 0 ≤ q) : C k ≤ q := by
  match k, hk with
  | 0, _ => rw [h.c0]; exact hq
  | k + 1, hk => exact hk.2.1 k (by omega)
theorem Piece.exists {n : Nat} {C : Nat → Rat} (q : Rat) : ∀ m, m < n → ∃ k, Piece (m + 1) C q k
  | 0, _ => ⟨0, by omega, fun j h => by omega, fun h => by omega⟩
  | m + 1, hm => by
    obtain ⟨k, h1, h2, h3⟩ := Piece.exists (n := n) (C := C) q m (by omega)
    by_cases hk : k + 1 < m + 1
    · exact ⟨k, by omega, h2, fun _ => h3 hk⟩
    · obtain rfl : k = m := by omega
      by_cases hq : q < C (k + 1)
      · exact ⟨k, by omega, h2, fun _ => hq⟩
      · refine ⟨k + 1, by omega, fun j hj => ?_, fun h => by omega⟩
        by_cases hj2 : j = k
        · subst hj2; grind
        · exact h2 j (by omega)
/-- r is the chance of q. -/
def ChanceR (n : Nat) (C H : Nat → Rat) (q r : Rat) : Prop := ∃ k, Piece n C q k ∧ r = lin n C H k q
/-- r is the slope at q. -/
def SlopeR (n : Nat) (C H : Nat → Rat) (q r : Rat) : Prop := ∃ k, Piece n C q k ∧ r = slo n C H k
theorem ChanceR.unique {n : Nat} {C H : Nat → Rat} {q r s : Rat} (h : ChanceR n C H q r) (g : ChanceR n C H q s) : r = s := by
  obtain ⟨k, h1, h2⟩ := h
  obtain ⟨m, g1, g2⟩ := g
  obtain rfl := h1.unique g1
  rw [h2, g2]
theorem ChanceR.le {n : Nat} {C H : Nat → Rat} {q r : Rat} (h : Conc n C H) (hr : ChanceR n C H q r) {i : Nat} (hi : i < n) : r ≤ lin n C H i q := by
  obtain ⟨k, hk, rfl⟩ := hr
  exact h.least hk hi
theorem ChanceR.top {n : Nat} {C H : Nat → Rat} {q r : Rat} (h : Conc n C H) (hr : ChanceR n C H q r) : r ≤ 1 := by
  have h2 := h.two
  have h1 := hr.le h (i := n - 1) (by omega)
  have e : slo n C H (n - 1) = 0 := by unfold slo; rw [if_neg (by omega)]
  unfold lin at h1
  rw [e] at h1
  have := h.top (n - 1) (by omega)
  grind
theorem ChanceR.nn {n : Nat} {C H : Nat → Rat} {q r : Rat} (h : Conc n C H) (hq : 0 ≤ q) (hr : ChanceR n C H q r) : 0 ≤ r := by
  obtain ⟨k, hk, rfl⟩ := hr
  have h1 := hk.low h hq
  have h2 := h.h_nn hk.1
  have h3 := Rat.mul_nonneg (h.slo_nn k) (b := q - C k) (by grind)
  unfold lin
  grind
theorem ChanceR.mono {n : Nat} {C H : Nat → Rat} {a b x y : Rat} (h : Conc n C H) (hab : a ≤ b) (hx : ChanceR n C H a x) (hy : ChanceR n C H b y) : x ≤ y := by
  obtain ⟨k, hk, rfl⟩ := hy
  have h1 := hx.le h hk.1
  have h3 := Rat.mul_nonneg (h.slo_nn k) (b := b - a) (by grind)
  unfold lin at h1 ⊢
  grind
/-- The slope at the lesser coverage is at least what the greater one brings more. -/
theorem ChanceR.most {n : Nat} {C H : Nat → Rat} {a b x y s : Rat} (h : Conc n C H) (hx : ChanceR n C H a x) (hs : SlopeR n C H a s) (hy : ChanceR n C H b y) : y - x ≤ s * (b - a) := by
  obtain ⟨k, hk, rfl⟩ := hx
  obtain ⟨m, hm, rfl⟩ := hs
  obtain rfl := hk.unique hm
  have h1 := hy.le h hk.1
  unfold lin at h1 ⊢
  grind
theorem ChanceR.least {n : Nat} {C H : Nat → Rat} {a b x y t : Rat} (h : Conc n C H) (hx : ChanceR n C H a x) (hy : ChanceR n C H b y) (ht : SlopeR n C H b t) : t * (b - a) ≤ y - x := by
  obtain ⟨k, hk, rfl⟩ := hy
  obtain ⟨m, hm, rfl⟩ := ht
  obtain rfl := hk.unique hm
  have h1 := hx.le h hk.1
  unfold lin at h1 ⊢
  grind
/-- Half of the chances of two coverages is at most that of their mean. -/
theorem ChanceR.mid {n : Nat} {C H : Nat → Rat} {a b x y z : Rat} (h : Conc n C H) (hx : ChanceR n C H a x) (hy : ChanceR n C H b y) {m : Rat} (hm : a + b = 2 * m) (hz : ChanceR n C H m z) : x + y ≤ 2 * z := by
  obtain ⟨k, hk, rfl⟩ := hz
  have h1 := hx.le h hk.1
  have h2 := hy.le h hk.1
  obtain rfl : a = 2 * m - b := by grind
  unfold lin at h1 h2 ⊢
  have e : slo n C H k * (2 * m - b - C k) + slo n C H k * (b - C k) = 2 * (slo n C H k * (m - C k)) := by grind
  grind
theorem Conc.line_zero {n : Nat} {C H : Nat → Rat} (h : Conc n C H) {i : Nat} (hi : i < n) : 0 ≤ lin n C H i 0 := by
  have h2 := h.two
  have hp : Piece n C 0 0 := ⟨by omega, fun j hj => by omega, fun h1 => by have := (h.up 0 h1).1; rw [h.c0] at this; exact this⟩
  have h1 := h.least hp hi
  have e : lin n C H 0 0 = 0 := by unfold lin; rw [h.c0, h.h0]; grind
  rw [e] at h1
  exact h1
/-- Effort that is parted finds no less. -/
theorem ChanceR.parted {n : Nat} {C H : Nat → Rat} {a b x y z : Rat} (h : Conc n C H) (ha : 0 ≤ a) (hb : 0 ≤ b) (hx : ChanceR n C H a x) (hy : ChanceR n C H b y) (hz : ChanceR n C H (a + b) z) : z ≤ x + y := by
  obtain ⟨k, hk, rfl⟩ := hx
  obtain ⟨m, hm, rfl⟩ := hy
  have h1 := hz.le h hk.1
  have h2 := hz.le h hm.1
  have h3 := h.line_zero hk.1
  have h4 := h.line_zero hm.1
  unfold lin at h1 h2 h3 h4 ⊢
  rcases @Rat.le_total (slo n C H k) (slo n C H m) with hs | hs
  · have := mul_mono hs hb
    grind
  · have := mul_mono hs ha
    grind
/-- The least coverage that has a chance: c in the piece from bend i to the next one. -/
def NeedR (n : Nat) (C H : Nat → Rat) (p c : Rat) : Prop := (p = 0 ∧ c = 0) ∨ ∃ i, i + 1 < n ∧ H i < p ∧ p ≤ H (i + 1) ∧ c = C i + (C (i + 1) - C i) / (H (i + 1) - H i) * (p - H i)
theorem need_at {C H : Nat → Rat} {p c : Rat} {i : Nat} (hc : C i < C (i + 1)) (h1 : H i < p) (h2 : p ≤ H (i + 1)) (h3 : c = C i + (C (i + 1) - C i) / (H (i + 1) - H i) * (p - H i)) : p = H i + slp C H i * (c - C i) ∧ C i < c ∧ c ≤ C (i + 1) ∧ 0 < slp C H i := by
  have hd : 0 < H (i + 1) - H i := by grind
  have hc' : 0 < C (i + 1) - C i := by grind
  have hs : 0 < slp C H i := by
    unfold slp
    rw [Rat.div_def]
    exact Rat.mul_pos hd (Rat.inv_pos.2 hc')
  have e0 : (C (i + 1) - C i) / (H (i + 1) - H i) * slp C H i = 1 := by
    unfold slp
    grind
  have ht : 0 < (C (i + 1) - C i) / (H (i + 1) - H i) := by
    rw [Rat.div_def]
    exact Rat.mul_pos hc' (Rat.inv_pos.2 hd)
  have h4 := Rat.mul_pos ht (b := p - H i) (by grind)
  have h5 : (C (i + 1) - C i) / (H (i + 1) - H i) * (H (i + 1) - H i) = C (i + 1) - C i := Rat.div_mul_cancel (by grind)
  have h6 := Rat.mul_le_mul_of_nonneg_left (a := p - H i) (b := H (i + 1) - H i) (c := (C (i + 1) - C i) / (H (i + 1) - H i)) (by grind) (Rat.le_of_lt ht)
  refine ⟨?_, by grind, by grind, hs⟩
  have : c - C i = (C (i + 1) - C i) / (H (i + 1) - H i) * (p - H i) := by grind
  rw [this]
  grind
/-- .. it has the chance, and no lesser one has. -/
theorem NeedR.chance {n : Nat} {C H : Nat → Rat} {p c x : Rat} (h : Conc n C H) (hn : NeedR n C H p c) (hx : ChanceR n C H c x) : x = p := by
  rcases hn with ⟨rfl, rfl⟩ | ⟨i, hi, h1, h2, h3⟩
  · have h2 := h.two
    have hp : Piece n C 0 0 := ⟨by omega, fun j hj => by omega, fun h1 => by have := (h.up 0 h1).1; rw [h.c0] at this; exact this⟩
    have e : lin n C H 0 0 = 0 := by unfold lin; rw [h.c0, h.h0]; grind
    exact hx.unique ⟨0, hp, e.symm⟩
  · obtain ⟨e1, e2, e3, e4⟩ := need_at (h.up i hi).1 h1 h2 h3
    have es : slo n C H i = slp C H i := by unfold slo; rw [if_pos hi]
    have el : lin n C H i c = p := by unfold lin; rw [es]; exact e1.symm
    have below : ∀ j, j < i → C (j + 1) ≤ c := fun j hj => by
      have := h.c_mono (i := j + 1) (i - (j + 1)) (by omega)
      have e : j + 1 + (i - (j + 1)) = i := by omega
      rw [e] at this
      grind
    by_cases hl : c < C (i + 1)
    · exact hx.unique ⟨i, ⟨by omega, below, fun _ => hl⟩, el.symm⟩
    · have ec : c = C (i + 1) := by grind
      refine hx.unique ⟨i + 1, ⟨hi, fun j hj => ?_, fun h4 => by rw [ec]; exact (h.up (i + 1) h4).1⟩, ?_⟩
      · by_cases hj2 : j = i
        · subst hj2; rw [ec]; exact Rat.le_refl
        · exact below j (by omega)
      · rw [← el, h.meet hi, ec]
        unfold lin
        grind
theorem NeedR.less {n : Nat} {C H : Nat → Rat} {p c d y : Rat} (h : Conc n C H) (hn : NeedR n C H p c) (hd : d < c) (hc : c ≠ 0) (hy : ChanceR n C H d y) : y < p := by
  rcases hn with ⟨rfl, rfl⟩ | ⟨i, hi, h1, h2, h3⟩
  · exact absurd rfl hc
  · obtain ⟨e1, e2, e3, e4⟩ := need_at (h.up i hi).1 h1 h2 h3
    have es : slo n C H i = slp C H i := by unfold slo; rw [if_pos hi]
    have h5 := hy.le h (i := i) (by omega)
    unfold lin at h5
    rw [es] at h5
    have := Rat.mul_pos e4 (b := c - d) (by grind)
    grind
end Go.Proofs.YtcncdepjbhnknaaGreatDoor
/- weight's number.trim: zeros at the end are left out. -/
namespace Go.Proofs.YtcncdepjbhnknaaGreatDoor
open Go.RowKit

/-- A slice's length: for a loop's measure. -/
def lenV : Value → Nat
  | .slice _ n _ => n
  | _ => 0

theorem val_take_zero {B : Nat} {l : List Nat} {k : Nat} (hk : k < l.length) (h : l[k] = 0) : val B (l.take (k + 1)) = val B (l.take k) := by
  rw [val_take_succ B l k hk, h]; simp

theorem limbs_take {B : Nat} (hB : 1 < B) {l : List Nat} (hl : ∀ x ∈ l, x < B) {k : Nat} (hk : k < l.length) (h : l[k] ≠ 0) : limbs B (val B (l.take (k + 1))) = l.take (k + 1) := by
  refine limbs_val hB (fun x hx => hl x (List.mem_of_mem_take hx)) ?_
  rw [List.take_succ_eq_append_getElem hk, List.getLast?_append]
  simpa using h


theorem limbs_prefix {B : Nat} (hB : 1 < B) : ∀ {l : List Nat}, (∀ x ∈ l, x < B) → limbs B (val B l) = l.take (limbs B (val B l)).length := by
  intro l hl
  induction h : l.length generalizing l with
  | zero =>
    have : l = [] := List.eq_nil_of_length_eq_zero h
    subst this; simp [val, limbs_zero]
  | succ n ih =>
    have hn : n < l.length := by omega
    by_cases hz : l[n] = 0
    · have h1 : val B l = val B (l.take n) := by
        rw [← val_take_zero hn hz, List.take_of_length_le (by omega)]
      have h2 := ih (l := l.take n) (fun x hx => hl x (List.mem_of_mem_take hx)) (by rw [List.length_take]; omega)
      rw [h1]
      rw [List.take_take] at h2
      have h3 : (limbs B (val B (l.take n))).length ≤ n := by
        have := congrArg List.length h2
        rw [List.length_take] at this
        omega
      rw [Nat.min_eq_left h3] at h2
      exact h2
    · have h1 := limbs_take hB hl hn hz
      rw [List.take_of_length_le (by omega)] at h1
      rw [h1, List.take_of_length_le (Nat.le_refl _)]

theorem limbs_val_le {B : Nat} (hB : 1 < B) {l : List Nat} (hl : ∀ x ∈ l, x < B) : (limbs B (val B l)).length ≤ l.length := by
  have := congrArg List.length (limbs_prefix hB hl)
  rw [List.length_take] at this
  omega

set_option maxHeartbeats 1000000 in
/-- The slice is cut behind the last limb that is not 0; nothing else happens. -/
theorem trim_calls (p : Option Addr) (cap : Nat) (xs : List Nat) (w : World) (hlc : xs.length ≤ cap) (hcap : cap ≤ maxLen) (hlt : ∀ x ∈ xs, x < 1000000000)
    (hp : xs ≠ [] → ∃ b off, p = some ⟨b, off, none⟩ ∧ At .u64 w b off xs) :
    Calls Tryz.prog 109 #[.slice p xs.length cap] w fun e w' =>
      w = w' ∧ e = .returned (.slice p (limbs 1000000000 (val 1000000000 xs)).length cap) := by
  unfold maxLen at hcap
  have HP := Lib.hid hp
  clear hp
  go_enter Tryz.func109, Tryz.ntmps109
  go_wp2
  go_loop [0] (fun v => ∃ k : Nat, k ≤ xs.length ∧ v = .slice p k cap ∧ Hid (val 1000000000 xs = val 1000000000 (xs.take k))) (fun v => lenV v)
  case atStart => exact ⟨xs.length, Nat.le_refl _, rfl, by rw [List.take_of_length_le (Nat.le_refl _)]; rfl⟩
  case round =>
    obtain ⟨k, hk, rfl, HV⟩ := hrel
    rcases Nat.eq_zero_or_pos k with h0 | h0
    · subst h0
      go_wp2
      go_ret
      exact ⟨rfl, by rw [HV.out]; simp [val, limbs_zero]⟩
    · obtain ⟨j, rfl⟩ : ∃ j, k = j + 1 := ⟨k - 1, by omega⟩
      have hj : j < xs.length := by omega
      obtain ⟨b, off, rfl, hc⟩ := HP.out (List.ne_nil_of_length_pos (by omega))
      have hcj : w.cell? ⟨b, off + j, none⟩ = some (.int .u64 (xs[j] : Nat)) := hc j hj
      clear hc
      by_cases hz : xs[j] = 0
      · have hz' : ((xs[j] : Nat) : Int) = 0 := by rw [hz]; rfl
        rw [hz'] at hcj
        have HZ := Lib.hid hz
        clear hz hz'
        go_wp2
        go_round
        case rel => exact ⟨j, by omega, by simp, by rw [HV.out, val_take_zero hj HZ.out]; rfl⟩
        case measure => simp [lenV]
      · have hz' : (((xs[j] : Nat) : Int) == 0) = false := by simpa using hz
        have HZ := Lib.hid hz
        clear hz
        go_wp2
        go_ret
        exact ⟨rfl, by rw [HV.out, limbs_take (by omega) hlt hj HZ.out]; simp; omega⟩

/-- On a row of the call's own. -/
theorem trim_row {E : TypeId} {B g cap : Nat} {xs : List Nat} {w : World} (h : Row .u64 E w B g cap xs) (hlt : ∀ x ∈ xs, x < 1000000000) (n : Nat) (hn : n = xs.length) (m : Nat) (hm : val 1000000000 xs = m) :
    Calls Tryz.prog 109 #[.slice (some ⟨g, 0, none⟩) n cap] w fun e w' =>
      w = w' ∧ e = .returned (.slice (some ⟨g, 0, none⟩) (limbs 1000000000 m).length cap) ∧ Row .u64 E w' B g cap (limbs 1000000000 m) := by
  subst hn; subst hm
  refine (trim_calls (some ⟨g, 0, none⟩) cap xs w h.cap_le.1 h.cap_le.2 hlt (fun _ => ⟨g, 0, rfl, h.at⟩)).mono ?_
  rintro e w' ⟨rfl, rfl⟩
  refine ⟨rfl, rfl, ?_⟩
  have := h.take (limbs 1000000000 (val 1000000000 xs)).length
  rwa [← limbs_prefix (by omega) hlt] at this
end Go.Proofs.YtcncdepjbhnknaaGreatDoor
/- weight's number.plus: the sum of two numbers, in memory of its own. -/
namespace Go.Proofs.YtcncdepjbhnknaaGreatDoor
open Go.RowKit

/-- The slice value v holds the limbs of n. -/
def Num (w : World) (v : Value) (n : Nat) : Prop := Nums .u64 w v (limbs 1000000000 n)

/-- A new number: a row of the call's own. -/
def NewNum (B : Nat) (w : World) (v : Value) (n : Nat) : Prop := ∃ g cap, v = .slice (some ⟨g, 0, none⟩) (limbs 1000000000 n).length cap ∧ Row .u64 98 w B g cap (limbs 1000000000 n)

theorem NewNum.num {B : Nat} {w : World} {v : Value} {n : Nat} (h : NewNum B w v n) : Num w v n := by
  obtain ⟨g, cap, rfl, hr⟩ := h
  exact hr.nums

set_option maxRecDepth 100000 in
set_option maxHeartbeats 2000000 in
theorem plus_loop (p1 p2 q1 q2 : Option Addr) (c1 c2 d1 d2 : Nat) (xs ys : List Nat) (l1 l2 : Nat) (w : World)
    (hsw : (l1 = xs.length ∧ l2 = ys.length ∧ q1 = p1 ∧ q2 = p2 ∧ d1 = c1 ∧ d2 = c2) ∨ (l2 = xs.length ∧ l1 = ys.length ∧ l1 < l2 ∧ q2 = p1 ∧ q1 = p2 ∧ d2 = c1 ∧ d1 = c2))
    (hle : ys.length ≤ xs.length) (hx : ∀ x ∈ xs, x < 1000000000) (hy : ∀ x ∈ ys, x < 1000000000) (hl : xs.length ≤ 1000000)
    (hp1 : xs ≠ [] → ∃ b off, p1 = some ⟨b, off, none⟩ ∧ b < w.heap.size ∧ At .u64 w b off xs) (hp2 : ys ≠ [] → ∃ b off, p2 = some ⟨b, off, none⟩ ∧ b < w.heap.size ∧ At .u64 w b off ys) :
    Calls Tryz.prog 65 #[.slice q1 l1 d1, .slice q2 l2 d2] w fun e w' =>
      ∃ v, e = .returned v ∧ NewNum w.heap.size w' v (val 1000000000 xs + val 1000000000 ys) ∧ Below w.heap.size w w' := by
  obtain ⟨i0, hi, hz0, hz1, hz2⟩ := info_parts info_u64
  have HX := Lib.hid hx
  have HY := Lib.hid hy
  have HP1 := Lib.hid hp1
  have HP2 := Lib.hid hp2
  clear hx hy hp1 hp2
  have hs : (l1 = xs.length ∧ l2 = ys.length ∧ q1 = p1 ∧ q2 = p2 ∧ d1 = c1 ∧ d2 = c2 ∧ ¬ l1 < l2) ∨ (l2 = xs.length ∧ l1 = ys.length ∧ l1 < l2 ∧ q2 = p1 ∧ q1 = p2 ∧ d2 = c1 ∧ d1 = c2) := by
    rcases hsw with ⟨h1, h2, h3⟩ | h
    · exact .inl ⟨h1, h2, h3.1, h3.2.1, h3.2.2.1, h3.2.2.2, by omega⟩
    · exact .inr h
  clear hsw
  rcases hs with ⟨rfl, rfl, rfl, rfl, rfl, rfl, hn⟩ | ⟨rfl, rfl, hn, rfl, rfl, rfl, rfl⟩
  all_goals
    go_enter Tryz.func65, Tryz.ntmps65
    go_wp2_with (at_make; refine wpList_make_own _ rfl _ _ 93 rfl w.heap.size 98 i0 (.int .u64 0) 1 Tryz.underlying93 hi hz0 hz1 _ _ _ (xs.length + 1) rfl rfl (by omega) ?b2 ?b3 (Nat.le_refl _) ?_)
    case b2 => rw [hz2]; omega
    case b3 => unfold maxLen; omega
    intro w0 hown0 hgrow0
    have HB0 := Lib.hid ((Below.refl w.heap.size w).grown hgrow0 (Nat.le_refl _) (fun k h => by cases h))
    have HR0 := Lib.hid (Row.made (k := .u64) hown0)
    clear hgrow0 hown0
    go_wp2
    go_loopw [5, 6, 22] (fun o c i wr => ∃ (k : Nat) (out : List Nat) (cr : Nat), k ≤ xs.length ∧ i = .int .i64 k ∧ o = .slice (some ⟨w.heap.size, 0, none⟩) k (xs.length + 1) ∧ c = .int .u64 cr ∧
        Hid (Row .u64 98 wr w.heap.size w.heap.size (xs.length + 1) out) ∧ Hid (PlusInv 1000000000 xs ys k out cr) ∧ Hid (Below w.heap.size w wr)) (fun _ _ i _ => xs.length - (intOf i).toNat)
    case atStart => exact ⟨0, [], 0, Nat.zero_le _, rfl, rfl, rfl, HR0, PlusInv.start _ _ _, HB0⟩
    case round =>
      obtain ⟨k, out, cr, hk, rfl, rfl, rfl, HR, HI, HB⟩ := hrel
      have hcr : cr ≤ 1 := HI.out.carry
      by_cases hlt : k < xs.length
      · obtain ⟨b1, off1, rfl, hb1, ha1⟩ := HP1.out (List.ne_nil_of_length_pos (by omega))
        obtain ⟨x, hx⟩ : ∃ x, xs.getD k 0 = x := ⟨_, rfl⟩
        have hxl : x < 1000000000 := by rw [← hx]; exact getD_lt (by omega) HX.out k
        have cx : wr.cell? ⟨b1, off1 + k, none⟩ = some (.int .u64 (x : Nat)) := (HB.out.cell (p := ⟨b1, off1 + k, none⟩) hb1).trans (ha1.getD hlt hx)
        have Hx := Lib.hid hx
        clear hx ha1
        by_cases hlt2 : k < ys.length
        · obtain ⟨b2, off2, rfl, hb2, ha2⟩ := HP2.out (List.ne_nil_of_length_pos (by omega))
          obtain ⟨y, hy⟩ : ∃ y, ys.getD k 0 = y := ⟨_, rfl⟩
          have hyl : y < 1000000000 := by rw [← hy]; exact getD_lt (by omega) HY.out k
          have cy : wr.cell? ⟨b2, off2 + k, none⟩ = some (.int .u64 (y : Nat)) := (HB.out.cell (p := ⟨b2, off2 + k, none⟩) hb2).trans (ha2.getD hlt2 hy)
          have Hy := Lib.hid hy
          clear hy ha2
          have e1 : ((x : Int) + cr + y) % 1000000000 = ((x + cr + y) % 1000000000 : Nat) := by omega
          have e2 : ((x : Int) + cr + y) / 1000000000 = ((x + cr + y) / 1000000000 : Nat) := by omega
          have E1 := Lib.hid e1
          have E2 := Lib.hid e2
          clear e1 e2
          have HS : Hid (PlusInv 1000000000 xs ys (k + 1) (out ++ [(x + cr + y) % 1000000000]) ((x + cr + y) / 1000000000)) :=
            HI.out.step (by omega) HX.out HY.out (by rw [Hx.out, Hy.out])
          have hown := HR.out.own HI.out.len
          go_wp2_with (at_builtin; refine wpList_append_fits _ rfl (.tmp 40) (.tmp 43) 93 rfl w.heap.size 98 i0 1 Tryz.underlying93 hi hz1 w.heap.size k (xs.length + 1) _ rfl (hown.alloc _) ⟨wr.heap.size, 0, none⟩ 1 1 [.int .u64 (((x : Int) + cr + y) % 1000000000)] rfl rfl (cell_one_new _ _ _) (by simp [Value.oneCell']) (by omega) ?_; intro w1 hown1 hgrow1)
          have HR1 := Lib.hid (Row.snoc HI.out.len.symm E1.out hown1)
          have HB1 := Lib.hid ((HB.out.alloc HB.out.size _).grown hgrow1 (by have := HB.out.size; simp; omega) (fun k h => by cases h; exact Nat.le_refl _))
          clear hown1 hgrow1
          go_roundw
          case rel => exact ⟨k + 1, _, _, by omega, by go_num, rfl, by rw [E2.out], HR1, HS, HB1⟩
          case measure => simp [intOf]; omega
        · have e1 : ((x : Int) + cr) % 1000000000 = ((x + cr) % 1000000000 : Nat) := by omega
          have e2 : ((x : Int) + cr) / 1000000000 = ((x + cr) / 1000000000 : Nat) := by omega
          have E1 := Lib.hid e1
          have E2 := Lib.hid e2
          clear e1 e2
          have HS : Hid (PlusInv 1000000000 xs ys (k + 1) (out ++ [(x + cr) % 1000000000]) ((x + cr) / 1000000000)) :=
            HI.out.step (by omega) HX.out HY.out (by rw [Hx.out]; simp [List.getD, hlt2])
          have hown := HR.out.own HI.out.len
          go_wp2_with (at_builtin; refine wpList_append_fits _ rfl (.tmp 40) (.tmp 43) 93 rfl w.heap.size 98 i0 1 Tryz.underlying93 hi hz1 w.heap.size k (xs.length + 1) _ rfl (hown.alloc _) ⟨wr.heap.size, 0, none⟩ 1 1 [.int .u64 (((x : Int) + cr) % 1000000000)] rfl rfl (cell_one_new _ _ _) (by simp [Value.oneCell']) (by omega) ?_; intro w1 hown1 hgrow1)
          have HR1 := Lib.hid (Row.snoc HI.out.len.symm E1.out hown1)
          have HB1 := Lib.hid ((HB.out.alloc HB.out.size _).grown hgrow1 (by have := HB.out.size; simp; omega) (fun k h => by cases h; exact Nat.le_refl _))
          clear hown1 hgrow1
          go_roundw
          case rel => exact ⟨k + 1, _, _, by omega, by go_num, rfl, by rw [E2.out], HR1, HS, HB1⟩
          case measure => simp [intOf]; omega
      · obtain rfl : k = xs.length := by omega
        have hown := HR.out.own HI.out.len
        have HV := Lib.hid (HI.out.done hle)
        have HL : Hid (∀ z ∈ out ++ [cr], z < 1000000000) := mem_snoc_lt HI.out.lt (by omega)
        have HN := Lib.hid HI.out.len
        go_wp2_with (at_builtin; refine wpList_append_fits _ rfl (.tmp 48) (.tmp 50) 93 rfl w.heap.size 98 i0 1 Tryz.underlying93 hi hz1 w.heap.size xs.length (xs.length + 1) _ rfl (hown.alloc _) ⟨wr.heap.size, 0, none⟩ 1 1 [.int .u64 cr] rfl rfl (cell_one_new _ _ _) (by simp [Value.oneCell']) (by omega) ?_; intro w1 hown1 hgrow1)
        have hr1 := Row.snoc HN.out.symm rfl hown1
        have HB1 := Lib.hid ((HB.out.alloc HB.out.size _).grown hgrow1 (by have := HB.out.size; simp; omega) (fun k h => by cases h; exact Nat.le_refl _))
        clear hown1 hgrow1
        refine (trim_row hr1 HL.out _ (by simp [HN.out]) _ HV.out).mono ?_
        rintro e w' ⟨rfl, rfl, hr2⟩
        have HR2 := Lib.hid hr2
        clear hr1 hr2
        go_wp2
        go_ret
        exact ⟨_, rfl, ⟨_, _, rfl, HR2.out⟩, HB1.out⟩

/-- n.plus(m). -/
theorem plus_any {v1 v2 : Value} {n m : Nat} {w : World} (h1 : Num w v1 n) (h2 : Num w v2 m) (hl1 : (limbs 1000000000 n).length ≤ 1000000) (hl2 : (limbs 1000000000 m).length ≤ 1000000) :
    Calls Tryz.prog 65 #[v1, v2] w fun e w' => ∃ v, e = .returned v ∧ NewNum w.heap.size w' v (n + m) ∧ Below w.heap.size w w' := by
  obtain ⟨p1, c1, rfl, _, _, hp1⟩ := h1
  obtain ⟨p2, c2, rfl, _, _, hp2⟩ := h2
  have e1 := val_limbs (B := 1000000000) (by omega) n
  have e2 := val_limbs (B := 1000000000) (by omega) m
  rcases Nat.lt_or_ge (limbs 1000000000 n).length (limbs 1000000000 m).length with h | h
  · have := plus_loop p2 p1 p1 p2 c2 c1 c1 c2 _ _ _ _ w (.inr ⟨rfl, rfl, h, rfl, rfl, rfl, rfl⟩) (Nat.le_of_lt h) (limbs_lt (by omega) m) (limbs_lt (by omega) n) hl2 hp2 hp1
    rw [e1, e2, Nat.add_comm m n] at this
    exact this
  · have := plus_loop p1 p2 p1 p2 c1 c2 c1 c2 _ _ _ _ w (.inl ⟨rfl, rfl, rfl, rfl, rfl, rfl⟩) h (limbs_lt (by omega) n) (limbs_lt (by omega) m) hl1 hp1 hp2
    rw [e1, e2] at this
    exact this
end Go.Proofs.YtcncdepjbhnknaaGreatDoor
/- A range over a function whose rounds come in a known order: the k-th round gets the k-th values. What an iterator owes (Iter), and the law for the loop (range_wp), at the fence that asks nothing. -/
namespace Go.Proofs.YtcncdepjbhnknaaGreatDoor
open Go.RowKit

/-- What of memory stays: each block that S names. -/
structure Keeps (S : Nat → Prop) (w w' : World) : Prop where
  os : w'.os = w.os
  tape : w'.tape = w.tape
  output : w'.output = w.output
  size : w.heap.size ≤ w'.heap.size
  block : ∀ k, k < w.heap.size → S k → w'.heap[k]? = w.heap[k]?

section
variable {S S' : Nat → Prop} {a w w' : World}
theorem Keeps.refl (S : Nat → Prop) (w : World) : Keeps S w w := ⟨rfl, rfl, rfl, Nat.le_refl _, fun _ _ _ => rfl⟩
theorem Keeps.trans (h : Keeps S a w) (k : Keeps S w w') : Keeps S a w' :=
  ⟨k.os.trans h.os, k.tape.trans h.tape, k.output.trans h.output, Nat.le_trans h.size k.size, fun i hi hs => (k.block i (Nat.lt_of_lt_of_le hi h.size) hs).trans (h.block i hi hs)⟩
theorem Keeps.mono (h : Keeps S w w') (hs : ∀ b, b < w.heap.size → S' b → S b) : Keeps S' w w' := ⟨h.os, h.tape, h.output, h.size, fun k hk hk' => h.block k hk (hs k hk hk')⟩
theorem Keeps.alloc (h : Keeps S a w) (o : Obj) : Keeps S a (w.alloc o) :=
  h.trans ⟨rfl, rfl, rfl, by simp, fun k hk _ => Below.heap_alloc _ _ _ hk⟩
theorem Keeps.drew (h : Keeps S a w) : Keeps S a w.drew := ⟨h.os, h.tape, h.output, h.size, h.block⟩
theorem Keeps.setCell (h : Keeps S a w) {p : Addr} (hp : ¬ S p.block) (u : Value) : Keeps S a (w.setCell p u) :=
  h.trans ⟨rfl, rfl, rfl, by simp [World.setCell], fun k _ hs => Below.heap_setCell _ _ _ _ (fun e => hp (by rw [← e]; exact hs))⟩
theorem Keeps.putObj (h : Keeps S a w) {r : Nat} (hr : ¬ S r) (o : Obj) : Keeps S a (w.putObj r o) :=
  h.trans ⟨rfl, rfl, rfl, by simp, fun _ _ hs => World.putObj_heap_other (fun e => hr (by rw [← e]; exact hs))⟩
theorem Keeps.below {B : Nat} (h : Keeps S a w) (hb : Below B w w') (hB : ∀ b, b < w.heap.size → S b → b < B) : Keeps S a w' :=
  h.trans ⟨hb.os, hb.tape, hb.output, hb.size, fun k hk hs => hb.block k (hB k hk hs)⟩
theorem Keeps.grown {row : Option Nat} (h : Keeps S a w) (hg : w.grownBy w' row) (hr : ∀ r, row = some r → ¬ S r) : Keeps S a w' :=
  h.trans ⟨hg.os, hg.tape, hg.output, hg.size, fun k hk hs => hg.block k hk (fun e => hr k e.symm hs)⟩
theorem Keeps.cell (h : Keeps S w w') {p : Addr} (hp : p.block < w.heap.size) (hs : S p.block) : w'.cell? p = w.cell? p := World.cell?_of_block (w := w) (h.block _ hp hs)
theorem Keeps.frozen (h : Keeps S w w') {p : Addr} (hp : p.block < w.heap.size) (hs : S p.block) : w'.frozen? p = w.frozen? p := World.frozen?_of_block (w := w) (h.block _ hp hs)
/-- A cell that is there stays. -/
theorem Keeps.cellAt (h : Keeps S w w') {p : Addr} {v : Value} (hc : w.cell? p = some v) (hs : S p.block) : w'.cell? p = some v := (h.cell (World.block_lt_of_cell? w p hc) hs).trans hc
/-- Below B, whatever is not there yet besides. -/
theorem Below.keeps {B : Nat} (h : Below B w w') : Keeps (fun b => b < B) w w' := ⟨h.os, h.tape, h.output, h.size, fun k _ hs => h.block k hs⟩
end

theorem cell_new (w : World) (cs : Array Value) (T : TypeId) {b : Nat} (j : Nat) (hb : b = w.heap.size) : (w.alloc (.cells cs T)).cell? ⟨b, j, none⟩ = cs[j]? := by
  subst hb
  have h : (w.alloc (.cells cs T)).heap[w.heap.size]? = some (.cells cs T) := World.alloc_heap_new w _
  unfold World.cell?
  simp only [h]
  rfl
theorem frozen_new (w : World) (cs : Array Value) (T : TypeId) {b : Nat} (j : Nat) (hb : b = w.heap.size) : (w.alloc (.cells cs T)).frozen? ⟨b, j, none⟩ = false := by
  subst hb
  have h : (w.alloc (.cells cs T)).heap[w.heap.size]? = some (.cells cs T) := World.alloc_heap_new w _
  unfold World.frozen?
  simp only [h]
  simp
theorem cell_old (w : World) (o : Obj) {b : Nat} (j : Nat) (hb : b < w.heap.size) : (w.alloc o).cell? ⟨b, j, none⟩ = w.cell? ⟨b, j, none⟩ :=
  World.cell?_of_block (w := w) (Below.heap_alloc w o b hb)
theorem frozen_old (w : World) (o : Obj) {b : Nat} (j : Nat) (hb : b < w.heap.size) : (w.alloc o).frozen? ⟨b, j, none⟩ = w.frozen? ⟨b, j, none⟩ :=
  World.frozen?_of_block (w := w) (Below.heap_alloc w o b hb)

/-- What an iterator owes: over N rounds the k-th gets f k; the rounds keep what S names, the iterator itself what T names. -/
def Iter (P : Program) (gf : Nat) (lb : Array Value) (f : Nat → Array Value) (N : Nat) (S T : Nat → Prop) (w0 : World) : Prop :=
  ∀ (n l : Nat) (J Jx : Nat → World → Prop) (W : World), Keeps S w0 W →
    (∀ k W1 W2, J k W1 → Keeps T W1 W2 → J k W2) → (∀ k W1 W2, Jx k W1 → Keeps T W1 W2 → Jx k W2) →
    (∀ k W1, k < N → J k W1 → YieldAt Fence.wide (n - 1) P l (f k) W1 fun e W' => (e = .returned (.bool true) ∧ J (k + 1) W' ∧ Keeps S W1 W') ∨ (e = .returned (.bool false) ∧ Jx k W')) →
    J 0 W → CallsIn Fence.wide n P gf (#[.func (.yield l) #[] #[]] ++ lb) W fun e W' => (∃ v, e = .returned v) ∧ (J N W' ∨ ∃ k, k < N ∧ Jx k W')

/-- How the body of the k-th round may be left. -/
def RoundEnd (S : Nat → Prop) (D : Nat) (I : Nat → World → Prop) (Ix : Code → Nat → World → Prop) (k : Nat) (W : World) : Exit → Act → World → Prop
  | .normal, _, W' => Keeps (fun b => S b ∨ b = D ∨ b = D + 1) W W' ∧ I (k + 1) W'
  | .ret, _, W' => Keeps (fun b => S b ∨ b = D ∨ b = D + 1) W W' ∧ Ix .ret k W'
  | .exit id, _, W' => Keeps (fun b => S b ∨ b = D ∨ b = D + 1) W W' ∧ Ix (.exit id) k W'
  | .goto t, _, W' => Keeps (fun b => S b ∨ b = D ∨ b = D + 1) W W' ∧ Ix (.goto t) k W'
  | .panic _, _, _ => False
  | .outgrown, _, _ => False

/-- The law for 'for .. := range g { .. }'. D, D + 1: the two blocks that the statement itself lays. -/
theorem range_wp_at {P : Program} {n : Nat} {g : Operand} {ps : Array Tmp} {assign body : Code} {Q : Exit → Act → World → Prop} {a : Act} {w : World}
    {gf : Nat} {lb : Array Value} {f : Nat → Array Value} {N : Nat} {S T : Nat → Prop} (D : Nat) (hD : w.heap.size = D)
    (hg : a.eval g = .func (.func gf) #[] lb) (eg : ∀ args w, (callFunc gf args).run P w = .ok (.enter gf args) w) (hps : ∀ k, (f k).size = ps.size)
    (hit : Iter P gf lb f N S T w) (hSD : ∀ b, S b → b < D) (hTD : T D ∧ T (D + 1))
    (I : Nat → World → Prop) (Ix : Code → Nat → World → Prop)
    (hI : ∀ k W1 W2, I k W1 → Keeps (fun b => T b ∧ b ≠ D ∧ b ≠ D + 1) W1 W2 → I k W2)
    (hIx : ∀ c k W1 W2, Ix c k W1 → Keeps (fun b => T b ∧ b ≠ D ∧ b ≠ D + 1) W1 W2 → Ix c k W2)
    (h0 : I 0 w) (a₁ : Nat → Act)
    (hassign : ∀ (l k : Nat) (W : World) (K : Act → World → Prop), K (a₁ k) W →
      assign.wpIn (Fence.wide.inRound l) (n - 1 - 1) P (Exit.then K (fun _ _ _ => False)) { tmps := (ps.zip (f k)).foldl (fun t (p, v) => t.setIfInBounds p v) a.tmps, defers := [] } W)
    (hbody : ∀ (l k : Nat) (W : World), k < N → I k W → D + 2 ≤ W.heap.size → (W.heap[D]? = some (.deferred (some [])) ∧ ∃ l', W.heap[D + 1]? = some (.loop l')) → body.wpIn (Fence.wide.inRound l) (n - 1 - 1) P (RoundEnd S D I Ix k W) (a₁ k) W)
    (hdone : ∀ W : World, I N W → W.heap[D]? = some (.deferred (some [])) → Q .normal { a with defers := { target := .collected D, args := #[] } :: a.defers } W)
    (hstop : ∀ (c : Code) (k : Nat) (W : World), k < N → Ix c k W → W.heap[D]? = some (.deferred (some [])) → c.wpIn Fence.wide n P Q { a with defers := { target := .collected D, args := #[] } :: a.defers } W) :
    (Code.rangeFunc g ps assign body).wpIn Fence.wide n P Q a w := by
  subst hD
  refine wpIn_rangeFunc fun fn _ => ?_
  let rec0 : LoopState → Option Code → Loop := fun st pe => { state := st, pending := pe, fn, tmps := a.tmps, params := ps, assign, body, defers := w.heap.size }
  obtain ⟨mk, hmk⟩ : ∃ mk : LoopState → Option Code → Loop, mk = rec0 := ⟨_, rfl⟩
  obtain ⟨W1, hW1⟩ : ∃ W1, (w.alloc (.deferred (some []))).alloc (.loop (mk .ready none)) = W1 := ⟨_, rfl⟩
  have hrec1 : W1.heap[w.heap.size + 1]? = some (.loop (mk .ready none)) := by
    have := World.alloc_heap_new (w.alloc (.deferred (some []))) (.loop (mk .ready none))
    rwa [World.size_alloc, hW1] at this
  have hdef1 : W1.heap[w.heap.size]? = some (.deferred (some [])) := by
    rw [← hW1]; exact (Below.heap_alloc _ _ _ (by simp)).trans (World.alloc_heap_new w _)
  have keepAny : ∀ S' : Nat → Prop, Keeps S' w W1 := fun S' => by rw [← hW1]; exact ((Keeps.refl S' w).alloc _).alloc _
  refine ⟨w.heap.size + 1, [{ target := .collected w.heap.size, args := #[] }], W1, { target := .fn (.func gf) lb, args := #[.func (.yield (w.heap.size + 1)) #[] #[]] }, W1, gf,
    #[.func (.yield (w.heap.size + 1)) #[] #[]] ++ lb, W1, ?_, ?_, fun _ _ => trivial, ?_, (fun h => by cases h), ?_⟩
  · rw [← hW1, hmk]; exact run_enterLoop_outer _ _ _ _ _
  · simp only [resolve, hg]
    simp [go_sem]
  · simp [invoke, go_sem, eg]
  · -- the record between two rounds, and when one has said 'no more'
    have turn : ∀ {k : Nat} {W2 : World} (l : Loop), I k W2 → W2.heap[w.heap.size]? = some (.deferred (some [])) → w.heap.size + 1 < W2.heap.size →
        I k (W2.putObj (w.heap.size + 1) (.loop l)) ∧ (W2.putObj (w.heap.size + 1) (.loop l)).heap[w.heap.size]? = some (.deferred (some [])) ∧ (W2.putObj (w.heap.size + 1) (.loop l)).heap[w.heap.size + 1]? = some (.loop l) :=
      fun l hi hd hlt => ⟨hI _ _ _ hi ((Keeps.refl _ _).putObj (fun h => h.2.2 rfl) _), (World.putObj_heap_other (by omega)).trans hd, World.putObj_heap_same hlt⟩
    have turnx : ∀ {c : Code} {k : Nat} {W2 : World} (l : Loop), Ix c k W2 → W2.heap[w.heap.size]? = some (.deferred (some [])) → w.heap.size + 1 < W2.heap.size →
        Ix c k (W2.putObj (w.heap.size + 1) (.loop l)) ∧ (W2.putObj (w.heap.size + 1) (.loop l)).heap[w.heap.size]? = some (.deferred (some [])) ∧ (W2.putObj (w.heap.size + 1) (.loop l)).heap[w.heap.size + 1]? = some (.loop l) :=
      fun l hi hd hlt => ⟨hIx _ _ _ _ hi ((Keeps.refl _ _).putObj (fun h => h.2.2 rfl) _), (World.putObj_heap_other (by omega)).trans hd, World.putObj_heap_same hlt⟩
    have ltOf : ∀ {W2 : World} {o : Obj}, W2.heap[w.heap.size + 1]? = some o → w.heap.size + 1 < W2.heap.size := fun h => (Array.getElem?_eq_some_iff.1 h).1
    have stay : ∀ {k : Nat} {A B : World} {l : Loop}, (A.heap[w.heap.size + 1]? = some (.loop l) ∧ A.heap[w.heap.size]? = some (.deferred (some []))) → Keeps T A B →
        B.heap[w.heap.size + 1]? = some (.loop l) ∧ B.heap[w.heap.size]? = some (.deferred (some [])) := fun {k A B l} h hk =>
      ⟨(hk.block _ (ltOf h.1) hTD.2).trans h.1, (hk.block _ (by have := ltOf h.1; omega) hTD.1).trans h.2⟩
    refine (hit (n - 1) (w.heap.size + 1)
      (fun k W => I k W ∧ (W.heap[w.heap.size + 1]? = some (.loop (mk .ready none)) ∧ W.heap[w.heap.size]? = some (.deferred (some []))))
      (fun k W => ∃ c, Ix c k W ∧ (W.heap[w.heap.size + 1]? = some (.loop (mk .done (some c))) ∧ W.heap[w.heap.size]? = some (.deferred (some []))))
      W1 (keepAny S)
      (fun k A B h hk => ⟨hI _ _ _ h.1 (hk.mono fun b _ hb => hb.1), stay (k := k) h.2 hk⟩)
      (fun k A B h hk => by obtain ⟨c, h1, h2⟩ := h; exact ⟨c, hIx _ _ _ _ h1 (hk.mono fun b _ hb => hb.1), stay (k := k) h2 hk⟩)
      ?_ ⟨hI _ _ _ h0 (keepAny _), hrec1, hdef1⟩).mono ?_
    · rintro k W hk ⟨hi, hl, hd⟩
      have hlt := ltOf hl
      have hy := run_yield (P := P) (args := f k) hl (by rw [hmk]; exact hps k)
      rw [hmk] at hy
      refine ⟨fn, _, assign, body, hy, roundIn_of_wpIn (F := Fence.wide) trivial (hassign _ k W _ ⟨_, run_beginRound hl (by rw [hmk]), ?_⟩)⟩
      obtain ⟨hi2, hd2, hl2⟩ := turn { mk .ready none with state := .busy } hi hd hlt
      have keepSame : Keeps S W (W.putObj (w.heap.size + 1) (.loop { mk .ready none with state := .busy })) := (Keeps.refl _ _).putObj (fun h => by have := hSD _ h; omega) _
      refine wpIn_mono (hbody _ k _ hk hi2 (by simp; omega) ⟨hd2, _, hl2⟩) ?_
      generalize hV : W.putObj (w.heap.size + 1) (.loop { mk .ready none with state := .busy }) = V at hi2 hd2 hl2 keepSame
      have fin : ∀ (jump : Option Code) (W3 : World), Keeps (fun b => S b ∨ b = w.heap.size ∨ b = w.heap.size + 1) V W3 →
          (Instr.endRound (w.heap.size + 1) jump).run P W3 = .ok (.bool jump.isNone) (W3.putObj (w.heap.size + 1) (.loop (mk (if jump.isNone then .ready else .done) jump))) ∧
            W3.heap[w.heap.size]? = some (.deferred (some [])) ∧ w.heap.size + 1 < W3.heap.size := fun jump W3 hk3 => by
        have hl3 : W3.heap[w.heap.size + 1]? = some (.loop { mk .ready none with state := .busy }) := (hk3.block _ (ltOf hl2) (.inr (.inr rfl))).trans hl2
        have hd3 := (hk3.block _ (by have := ltOf hl2; omega) (.inr (.inl rfl))).trans hd2
        have := run_endRound (P := P) jump hl3
        rw [hmk] at this ⊢
        exact ⟨this, hd3, ltOf hl3⟩
      rintro e a3 W3 hp
      cases e with
      | normal =>
        obtain ⟨hk3, hi3⟩ := hp
        obtain ⟨hr, hd3, hlt3⟩ := fin none W3 hk3
        obtain ⟨x1, x2, x3⟩ := turn (mk .ready none) hi3 hd3 hlt3
        exact ⟨_, _, hr, .inl ⟨rfl, ⟨x1, x3, x2⟩, (keepSame.trans (hk3.mono fun b _ hb => .inl hb)).putObj (fun h => by have := hSD _ h; omega) _⟩⟩
      | ret =>
        obtain ⟨hk3, hi3⟩ := hp
        obtain ⟨hr, hd3, hlt3⟩ := fin (some .ret) W3 hk3
        obtain ⟨x1, x2, x3⟩ := turnx (mk .done (some .ret)) hi3 hd3 hlt3
        exact ⟨_, _, hr, .inr ⟨rfl, .ret, x1, x3, x2⟩⟩
      | exit id =>
        obtain ⟨hk3, hi3⟩ := hp
        obtain ⟨hr, hd3, hlt3⟩ := fin (some (.exit id)) W3 hk3
        obtain ⟨x1, x2, x3⟩ := turnx (mk .done (some (.exit id))) hi3 hd3 hlt3
        exact ⟨_, _, hr, .inr ⟨rfl, .exit id, x1, x3, x2⟩⟩
      | goto t =>
        obtain ⟨hk3, hi3⟩ := hp
        obtain ⟨hr, hd3, hlt3⟩ := fin (some (.goto t)) W3 hk3
        obtain ⟨x1, x2, x3⟩ := turnx (mk .done (some (.goto t))) hi3 hd3 hlt3
        exact ⟨_, _, hr, .inr ⟨rfl, .goto t, x1, x3, x2⟩⟩
      | panic ch => exact hp.elim
      | outgrown => exact hp.elim
    · rintro e W2 ⟨⟨v, rfl⟩, (⟨hi, hl, hd⟩ | ⟨k, hk, c, hi, hl, hd⟩)⟩
      · have he := run_endLoop (P := P) hl (by rw [hmk]; simp [rec0])
        obtain ⟨x1, x2, _⟩ := turn { mk .ready none with state := .exhausted } hi hd (ltOf hl)
        refine ⟨none, _, by rw [hmk] at he ⊢; exact he, hdone _ x1 x2⟩
      · have he := run_endLoop (P := P) hl (by rw [hmk]; simp [rec0])
        obtain ⟨x1, x2, _⟩ := turnx { mk .done (some c) with state := .exhausted } hi hd (ltOf hl)
        refine ⟨some c, _, by rw [hmk] at he ⊢; exact he, hstop c k _ hk x1 x2⟩

/-- The same, where the body does not look at what the statement lays. -/
theorem range_wp {P : Program} {n : Nat} {g : Operand} {ps : Array Tmp} {assign body : Code} {Q : Exit → Act → World → Prop} {a : Act} {w : World}
    {gf : Nat} {lb : Array Value} {f : Nat → Array Value} {N : Nat} {S T : Nat → Prop} (D : Nat) (hD : w.heap.size = D)
    (hg : a.eval g = .func (.func gf) #[] lb) (eg : ∀ args w, (callFunc gf args).run P w = .ok (.enter gf args) w) (hps : ∀ k, (f k).size = ps.size)
    (hit : Iter P gf lb f N S T w) (hSD : ∀ b, S b → b < D) (hTD : T D ∧ T (D + 1))
    (I : Nat → World → Prop) (Ix : Code → Nat → World → Prop)
    (hI : ∀ k W1 W2, I k W1 → Keeps (fun b => T b ∧ b ≠ D ∧ b ≠ D + 1) W1 W2 → I k W2)
    (hIx : ∀ c k W1 W2, Ix c k W1 → Keeps (fun b => T b ∧ b ≠ D ∧ b ≠ D + 1) W1 W2 → Ix c k W2)
    (h0 : I 0 w) (a₁ : Nat → Act)
    (hassign : ∀ (l k : Nat) (W : World) (K : Act → World → Prop), K (a₁ k) W →
      assign.wpIn (Fence.wide.inRound l) (n - 1 - 1) P (Exit.then K (fun _ _ _ => False)) { tmps := (ps.zip (f k)).foldl (fun t (p, v) => t.setIfInBounds p v) a.tmps, defers := [] } W)
    (hbody : ∀ (l k : Nat) (W : World), k < N → I k W → D + 2 ≤ W.heap.size → body.wpIn (Fence.wide.inRound l) (n - 1 - 1) P (RoundEnd S D I Ix k W) (a₁ k) W)
    (hdone : ∀ W : World, I N W → W.heap[D]? = some (.deferred (some [])) → Q .normal { a with defers := { target := .collected D, args := #[] } :: a.defers } W)
    (hstop : ∀ (c : Code) (k : Nat) (W : World), k < N → Ix c k W → W.heap[D]? = some (.deferred (some [])) → c.wpIn Fence.wide n P Q { a with defers := { target := .collected D, args := #[] } :: a.defers } W) :
    (Code.rangeFunc g ps assign body).wpIn Fence.wide n P Q a w :=
  range_wp_at D hD hg eg hps hit hSD hTD I Ix hI hIx h0 a₁ hassign (fun l k W h1 h2 h3 _ => hbody l k W h1 h2 h3) hdone hstop
end Go.Proofs.YtcncdepjbhnknaaGreatDoor
