/- The parts Num, Alg, Base, Sights, Tab, Dec of a proof, put together by program (merge6.py). -/
import Derived.Test.YtcncdepjbhnknaaGreatDoorChecked
import Derived.WalkKit
import Derived.WalkSpells
import Derived.WalkLawsBesides
import Derived.WalkSmall
import Derived.Lib.Hide
import Derived.Outline
import Derived.Carry
import Derived.OwnWalk
import Derived.Maps.AppendAt
import Derived.Maps.OwnOps
import Derived.Maps.Views
import Derived.Lib.ItoaNum
import Derived.Lib.ParseIntB
set_option linter.unusedVariables false
set_option linter.unusedSimpArgs false
/- Plain natural numbers as lists of limbs, the lowest first: values, normal forms, and the steps of the loops that add, subtract, multiply and divide them. No program is in sight. -/
namespace Go.Proofs.YtcncdepjbhnknaaGreatDoor

/-- The value of a list of limbs, the lowest first. -/
def val (B : Nat) : List Nat → Nat
  | [] => 0
  | x :: l => x + B * val B l

theorem val_nil (B : Nat) : val B [] = 0 := rfl
theorem val_cons (B x : Nat) (l : List Nat) : val B (x :: l) = x + B * val B l := rfl

theorem val_append (B : Nat) (l m : List Nat) : val B (l ++ m) = val B l + B ^ l.length * val B m := by
  induction l with
  | nil => simp [val]
  | cons x l ih =>
    simp only [List.cons_append, val, ih, List.length_cons, Nat.pow_succ]
    grind

theorem val_snoc (B : Nat) (l : List Nat) (x : Nat) : val B (l ++ [x]) = val B l + B ^ l.length * x := by
  rw [val_append]; simp [val]

theorem val_lt {B : Nat} {l : List Nat} (h : ∀ x ∈ l, x < B) : val B l < B ^ l.length := by
  induction l with
  | nil => simp [val]
  | cons x l ih =>
    have h1 := ih (fun y hy => h y (by simp [hy]))
    have h2 := h x (by simp)
    simp only [val, List.length_cons, Nat.pow_succ]
    have h3 := Nat.mul_le_mul_left B (Nat.succ_le_of_lt h1)
    have h4 : B * (val B l).succ = B * val B l + B := Nat.mul_succ _ _
    rw [Nat.mul_comm (B ^ l.length) B]
    omega

theorem val_replicate (B k : Nat) : val B (List.replicate k 0) = 0 := by
  induction k with
  | zero => rfl
  | succ k ih => simp [List.replicate_succ, val, ih]

theorem val_zero_of_all {B : Nat} {l : List Nat} (h : ∀ x ∈ l, x = 0) : val B l = 0 := by
  induction l with
  | nil => rfl
  | cons x l ih => simp [val, h x (by simp), ih (fun y hy => h y (by simp [hy]))]

theorem val_take_drop (B : Nat) (l : List Nat) (k : Nat) (hk : k ≤ l.length) : val B l = val B (l.take k) + B ^ k * val B (l.drop k) := by
  have h := val_append B (l.take k) (l.drop k)
  rw [List.take_append_drop, List.length_take, Nat.min_eq_left hk] at h
  exact h

theorem val_take_succ (B : Nat) (l : List Nat) (k : Nat) (hk : k < l.length) : val B (l.take (k + 1)) = val B (l.take k) + B ^ k * l[k] := by
  rw [List.take_succ_eq_append_getElem hk, val_snoc, List.length_take, Nat.min_eq_left (Nat.le_of_lt hk)]

theorem val_drop (B : Nat) (l : List Nat) (k : Nat) (hk : k < l.length) : val B (l.drop k) = l[k] + B * val B (l.drop (k + 1)) := by
  rw [List.drop_eq_getElem_cons hk]; rfl

/-- The limbs of a number, the lowest first, without zeros at the end. -/
def limbs (B n : Nat) : List Nat :=
  if _h : n = 0 ∨ B ≤ 1 then [] else n % B :: limbs B (n / B)
termination_by n
decreasing_by exact Nat.div_lt_self (by omega) (by omega)

theorem limbs_zero (B : Nat) : limbs B 0 = [] := by rw [limbs]; simp
theorem limbs_pos {B n : Nat} (hB : 1 < B) (hn : 0 < n) : limbs B n = n % B :: limbs B (n / B) := by
  rw [limbs, dif_neg (by omega)]

theorem val_limbs {B : Nat} (hB : 1 < B) (n : Nat) : val B (limbs B n) = n := by
  induction n using Nat.strongRecOn with
  | _ n ih =>
    by_cases hn : n = 0
    · subst hn; rw [limbs_zero]; rfl
    · rw [limbs_pos hB (by omega), val_cons, ih _ (Nat.div_lt_self (by omega) hB)]
      exact Nat.mod_add_div n B

theorem limbs_lt {B : Nat} (hB : 1 < B) (n : Nat) : ∀ x ∈ limbs B n, x < B := by
  induction n using Nat.strongRecOn with
  | _ n ih =>
    by_cases hn : n = 0
    · subst hn; rw [limbs_zero]; simp
    · rw [limbs_pos hB (by omega)]
      intro x hx
      rcases List.mem_cons.1 hx with rfl | hx
      · exact Nat.mod_lt _ (by omega)
      · exact ih _ (Nat.div_lt_self (by omega) hB) x hx

theorem limbs_eq_nil {B : Nat} (hB : 1 < B) {n : Nat} : limbs B n = [] ↔ n = 0 := by
  constructor
  · intro h
    have := val_limbs hB n
    rw [h] at this
    exact this.symm
  · rintro rfl; exact limbs_zero B

theorem limbs_length_pos {B : Nat} (hB : 1 < B) {n : Nat} : 0 < (limbs B n).length ↔ 0 < n := by
  rw [List.length_pos_iff, ne_eq, limbs_eq_nil hB]; omega

theorem limbs_last {B : Nat} (hB : 1 < B) (n : Nat) : (limbs B n).getLast? ≠ some 0 := by
  induction n using Nat.strongRecOn with
  | _ n ih =>
    by_cases hn : n = 0
    · subst hn; rw [limbs_zero]; simp
    · rw [limbs_pos hB (by omega)]
      by_cases h0 : n / B = 0
      · rw [h0, limbs_zero]
        have : n < B := (Nat.div_eq_zero_iff_lt (by omega)).1 h0
        simp [Nat.mod_eq_of_lt this, hn]
      · have h1 := ih _ (Nat.div_lt_self (by omega) hB)
        cases h2 : limbs B (n / B) with
        | nil => exact absurd ((limbs_eq_nil hB).1 h2) h0
        | cons y l => rw [h2] at h1; simpa [List.getLast?_cons] using h1

/-- Zeros at the end are left out. -/
theorem limbs_val {B : Nat} (hB : 1 < B) : ∀ {l : List Nat}, (∀ x ∈ l, x < B) → l.getLast? ≠ some 0 → limbs B (val B l) = l
  | [], _, _ => limbs_zero B
  | x :: l, h, hl => by
    have hx := h x (by simp)
    have hlt : ∀ y ∈ l, y < B := fun y hy => h y (by simp [hy])
    cases l with
    | nil =>
      have hx0 : x ≠ 0 := by simpa using hl
      simp only [val, Nat.mul_zero, Nat.add_zero]
      rw [limbs_pos hB (by omega), Nat.mod_eq_of_lt hx, Nat.div_eq_of_lt hx, limbs_zero]
    | cons y l =>
      have ih := limbs_val hB hlt (by simpa [List.getLast?_cons] using hl)
      have hv : 0 < val B (y :: l) := by
        rw [← limbs_length_pos hB, ih]; simp
      have hpos : 0 < x + B * val B (y :: l) := Nat.lt_of_lt_of_le (Nat.mul_pos (by omega) hv) (Nat.le_add_left _ _)
      rw [val_cons, limbs_pos hB hpos, Nat.add_mul_mod_self_left, Nat.mod_eq_of_lt hx, Nat.add_mul_div_left _ _ (by omega), Nat.div_eq_of_lt hx, Nat.zero_add, ih]

theorem limbs_length_le {B : Nat} (hB : 1 < B) {n k : Nat} (h : n < B ^ k) : (limbs B n).length ≤ k := by
  induction k generalizing n with
  | zero =>
    have : n = 0 := by simpa using h
    subst this; rw [limbs_zero]; simp
  | succ k ih =>
    by_cases hn : n = 0
    · subst hn; rw [limbs_zero]; simp
    · rw [limbs_pos hB (by omega), List.length_cons]
      have : n / B < B ^ k := by
        rw [Nat.div_lt_iff_lt_mul (by omega)]; rwa [Nat.pow_succ] at h
      have := ih this
      omega

theorem le_limbs_length {B : Nat} (hB : 1 < B) {n k : Nat} (h : B ^ k ≤ n) : k < (limbs B n).length := by
  rcases Nat.lt_or_ge k (limbs B n).length with h' | h'
  · exact h'
  · have h1 := val_lt (limbs_lt hB n)
    rw [val_limbs hB] at h1
    have := Nat.pow_le_pow_right (show 0 < B by omega) h'
    omega

theorem limbs_length_mono {B : Nat} (hB : 1 < B) {m n : Nat} (h : m ≤ n) : (limbs B m).length ≤ (limbs B n).length := by
  refine limbs_length_le hB ?_
  have h1 := val_lt (limbs_lt hB n)
  rw [val_limbs hB] at h1
  omega

/-- More limbs, a greater number. -/
theorem lt_of_length_lt {B : Nat} (hB : 1 < B) {m n : Nat} (h : (limbs B m).length < (limbs B n).length) : m < n := by
  rcases Nat.lt_or_ge m n with h' | h'
  · exact h'
  · have := limbs_length_mono hB h'
    omega

/-- A limb more at the top that is greater, the rest below whatever it is. -/
theorem val_lt_of_top {B : Nat} {l m : List Nat} {k : Nat} (hl : ∀ x ∈ l, x < B) (hk : k < l.length) (hkm : l.length = m.length)
    (heq : l.drop (k + 1) = m.drop (k + 1)) (h : l[k] < m[k]'(by omega)) : val B l < val B m := by
  rw [val_take_drop B l (k + 1) (by omega), val_take_drop B m (k + 1) (by omega), heq, val_take_succ B l k hk, val_take_succ B m k (by omega)]
  have h1 : val B (l.take k) < B ^ k := by
    have := val_lt (B := B) (l := l.take k) (fun x hx => hl x (List.mem_of_mem_take hx))
    rwa [List.length_take, Nat.min_eq_left (by omega)] at this
  have h2 : B ^ k * l[k] + B ^ k ≤ B ^ k * m[k]'(by omega) := by
    have := Nat.mul_le_mul_left (B ^ k) (Nat.succ_le_of_lt h)
    rwa [Nat.mul_succ] at this
  omega

end Go.Proofs.YtcncdepjbhnknaaGreatDoor
/- The loops of the arithmetic on limbs, step by step, as facts on lists: sums, differences, products, quotients by one limb. No program is in sight. -/
namespace Go.Proofs.YtcncdepjbhnknaaGreatDoor

theorem val_take_succ' (B : Nat) (l : List Nat) (k : Nat) : val B (l.take (k + 1)) = val B (l.take k) + B ^ k * l.getD k 0 := by
  rcases Nat.lt_or_ge k l.length with h | h
  · rw [val_take_succ B l k h]; simp [List.getD, h]
  · rw [List.take_of_length_le (by omega), List.take_of_length_le h]; simp [List.getD, h]

theorem getD_lt {B : Nat} (hB : 0 < B) {l : List Nat} (h : ∀ x ∈ l, x < B) (k : Nat) : l.getD k 0 < B := by
  rcases Nat.lt_or_ge k l.length with h' | h'
  · simp only [List.getD, List.getElem?_eq_getElem h', Option.getD_some]; exact h _ (List.getElem_mem h')
  · simp only [List.getD, List.getElem?_eq_none h', Option.getD_none]; exact hB

theorem mem_snoc_lt {B : Nat} {l : List Nat} {x : Nat} (h : ∀ y ∈ l, y < B) (hx : x < B) : ∀ y ∈ l ++ [x], y < B := by
  intro y hy
  rcases List.mem_append.1 hy with h' | h'
  · exact h y h'
  · simp at h'; omega

theorem mem_set_lt {B : Nat} {l : List Nat} {x j : Nat} (h : ∀ y ∈ l, y < B) (hx : x < B) : ∀ y ∈ l.set j x, y < B := by
  intro y hy
  rcases List.mem_or_eq_of_mem_set hy with h' | h'
  · exact h y h'
  · omega

theorem val_set (B : Nat) (l : List Nat) (j v : Nat) (hj : j < l.length) : val B (l.set j v) + B ^ j * l[j] = val B l + B ^ j * v := by
  induction l generalizing j with
  | nil => simp at hj
  | cons x l ih =>
    cases j with
    | zero => simp [val]; omega
    | succ j =>
      have h := ih j (by simpa using hj)
      simp only [List.set_cons_succ, val, List.getElem_cons_succ, Nat.pow_succ]
      grind

/-! ### Sums -/

/-- A sum's loop, k limbs done. -/
structure PlusInv (B : Nat) (n m : List Nat) (k : Nat) (o : List Nat) (c : Nat) : Prop where
  len : o.length = k
  lt : ∀ x ∈ o, x < B
  carry : c ≤ 1
  eq : val B o + B ^ k * c = val B (n.take k) + val B (m.take k)

theorem PlusInv.start (B : Nat) (n m : List Nat) : PlusInv B n m 0 [] 0 := ⟨rfl, by simp, by omega, by simp [val]⟩

theorem PlusInv.step {B : Nat} (hB : 1 < B) {n m : List Nat} (hn : ∀ x ∈ n, x < B) (hm : ∀ x ∈ m, x < B) {k : Nat} {o : List Nat} {c : Nat}
    (h : PlusInv B n m k o c) {x : Nat} (hx : x = n.getD k 0 + c + m.getD k 0) : PlusInv B n m (k + 1) (o ++ [x % B]) (x / B) := by
  have h1 := getD_lt (by omega) hn k
  have h2 := getD_lt (by omega) hm k
  have h3 := h.carry
  have hx2 : x < 2 * B := by omega
  refine ⟨by simp [h.len], mem_snoc_lt h.lt (Nat.mod_lt _ (by omega)), ?_, ?_⟩
  · have : x / B < 2 := Nat.div_lt_of_lt_mul (by omega)
    omega
  · rw [val_snoc, h.len, val_take_succ', val_take_succ', Nat.pow_succ]
    have h4 := h.eq
    have h5 := Nat.mod_add_div x B
    generalize x % B = r at *
    generalize x / B = q at *
    have h6 : B ^ k * r + B ^ k * B * q = B ^ k * x := by rw [← h5]; grind
    have h7 : B ^ k * x = B ^ k * n.getD k 0 + B ^ k * c + B ^ k * m.getD k 0 := by rw [hx]; grind
    omega

theorem PlusInv.done {B : Nat} {n m : List Nat} {o : List Nat} {c : Nat} (h : PlusInv B n m n.length o c) (hl : m.length ≤ n.length) :
    val B (o ++ [c]) = val B n + val B m := by
  have := h.eq
  rw [List.take_of_length_le (Nat.le_refl _), List.take_of_length_le hl] at this
  rw [val_snoc, h.len, this]

/-! ### Differences -/

structure MinusInv (B : Nat) (n m : List Nat) (k : Nat) (o : List Nat) (b : Nat) : Prop where
  len : o.length = k
  lt : ∀ x ∈ o, x < B
  borrow : b ≤ 1
  eq : val B o + val B (m.take k) = val B (n.take k) + B ^ k * b

theorem MinusInv.start (B : Nat) (n m : List Nat) : MinusInv B n m 0 [] 0 := ⟨rfl, by simp, by omega, by simp [val]⟩

theorem MinusInv.step_borrow {B : Nat} (hB : 1 < B) {n m : List Nat} (hm : ∀ x ∈ m, x < B) {k : Nat} {o : List Nat} {b : Nat}
    (h : MinusInv B n m k o b) {less : Nat} (hx : less = b + m.getD k 0) (hlt : n.getD k 0 < less) : MinusInv B n m (k + 1) (o ++ [n.getD k 0 + B - less]) 1 := by
  have h2 := getD_lt (by omega) hm k
  have h3 := h.borrow
  refine ⟨by simp [h.len], mem_snoc_lt h.lt (by omega), Nat.le_refl _, ?_⟩
  rw [val_snoc, h.len, val_take_succ', val_take_succ', Nat.pow_succ]
  have h4 := h.eq
  have h5 : n.getD k 0 + B - less + b + m.getD k 0 = n.getD k 0 + B := by omega
  generalize n.getD k 0 + B - less = r at *
  have h6 : B ^ k * r + B ^ k * b + B ^ k * m.getD k 0 = B ^ k * n.getD k 0 + B ^ k * B := by rw [← Nat.mul_add, ← Nat.mul_add, h5, Nat.mul_add]
  omega

theorem MinusInv.step_plain {B : Nat} {n m : List Nat} (hn : ∀ x ∈ n, x < B) (hB : 1 < B) {k : Nat} {o : List Nat} {b : Nat}
    (h : MinusInv B n m k o b) {less : Nat} (hx : less = b + m.getD k 0) (hlt : less ≤ n.getD k 0) : MinusInv B n m (k + 1) (o ++ [n.getD k 0 - less]) 0 := by
  have h2 := getD_lt (by omega) hn k
  refine ⟨by simp [h.len], mem_snoc_lt h.lt (by omega), by omega, ?_⟩
  rw [val_snoc, h.len, val_take_succ', val_take_succ', Nat.pow_succ]
  have h4 := h.eq
  have h5 : n.getD k 0 - less + b + m.getD k 0 = n.getD k 0 := by omega
  generalize n.getD k 0 - less = r at *
  have h6 : B ^ k * r + B ^ k * b + B ^ k * m.getD k 0 = B ^ k * n.getD k 0 := by rw [← Nat.mul_add, ← Nat.mul_add, h5]
  omega

theorem MinusInv.done {B : Nat} {n m : List Nat} {o : List Nat} {b : Nat} (h : MinusInv B n m n.length o b) (hl : m.length ≤ n.length) (hle : val B m ≤ val B n) :
    val B o = val B n - val B m := by
  have h1 := h.eq
  rw [List.take_of_length_le (Nat.le_refl _), List.take_of_length_le hl] at h1
  have h2 := val_lt h.lt
  rw [h.len] at h2
  have h3 := h.borrow
  rcases Nat.lt_or_ge 0 b with hb | hb
  · have : b = 1 := by omega
    subst this
    omega
  · have : b = 0 := by omega
    subst this
    omega

/-! ### Products -/

/-- A product's inner loop: the row of x, k limbs of m done. -/
structure TimesInv (B : Nat) (L i : Nat) (p x : Nat) (m : List Nat) (k : Nat) (o : List Nat) (c : Nat) : Prop where
  len : o.length = L
  lt : ∀ y ∈ o, y < B
  carry : c < B
  zero : ∀ j, i + m.length ≤ j → o.getD j 0 = 0
  eq : val B o + B ^ (i + k) * c = p + B ^ i * (x * val B (m.take k))

theorem TimesInv.step {B : Nat} (hB : 1 < B) {L i p x : Nat} {m : List Nat} (hm : ∀ y ∈ m, y < B) (hx : x < B) {k : Nat} {o : List Nat} {c : Nat}
    (h : TimesInv B L i p x m k o c) (hk : k < m.length) (hL : i + m.length ≤ L) {s : Nat} (hs : s = c + o.getD (i + k) 0 + x * m.getD k 0) :
    TimesInv B L i p x m (k + 1) (o.set (i + k) (s % B)) (s / B) := by
  have h1 := getD_lt (by omega) h.lt (i + k)
  have h2 := getD_lt (by omega) hm k
  have h3 := h.carry
  have hlen := h.len
  have hmul : x * m.getD k 0 ≤ (B - 1) * (B - 1) := Nat.mul_le_mul (by omega) (by omega)
  have hBB : (B - 1) * (B - 1) + 2 * (B - 1) + 1 = B * B := by
    obtain ⟨d, rfl⟩ : ∃ d, B = d + 1 := ⟨B - 1, by omega⟩
    simp only [Nat.add_sub_cancel]; grind
  have hsB : s < B * B := by omega
  refine ⟨by simp [hlen], mem_set_lt h.lt (Nat.mod_lt _ (by omega)), Nat.div_lt_of_lt_mul hsB, ?_, ?_⟩
  · intro j hj
    have := h.zero j hj
    simp only [List.getD, List.getElem?_set] at this ⊢
    rw [if_neg (by omega)]; exact this
  · have hij : i + k < o.length := by omega
    have h5 := val_set B o (i + k) (s % B) hij
    have h6 : o.getD (i + k) 0 = o[i + k] := by simp [List.getD, hij]
    rw [h6] at hs h1
    have h7 := Nat.mod_add_div s B
    have h8 := h.eq
    rw [val_take_succ', show i + (k + 1) = i + k + 1 from rfl, Nat.pow_succ]
    generalize s % B = r at *
    generalize s / B = q at *
    generalize val B (o.set (i + k) r) = V at *
    generalize val B o = W at *
    generalize o[i + k] = z at *
    generalize val B (m.take k) = M at *
    generalize m.getD k 0 = y at *
    rw [Nat.pow_add] at *
    generalize B ^ i = I at *
    generalize B ^ k = K at *
    have h9 : I * K * r + I * K * B * q = I * K * s := by rw [← h7]; grind
    have h10 : I * K * s = I * K * c + I * K * z + I * K * (x * y) := by rw [hs]; grind
    have h11 : I * (x * (M + K * y)) = I * (x * M) + I * K * (x * y) := by grind
    rw [h11]
    omega

/-- A product's outer loop: i limbs of n done. -/
structure RowsInv (B : Nat) (L : Nat) (n m : List Nat) (i : Nat) (o : List Nat) : Prop where
  len : o.length = L
  lt : ∀ y ∈ o, y < B
  zero : ∀ j, i + m.length ≤ j → o.getD j 0 = 0
  eq : val B o = val B (n.take i) * val B m

theorem RowsInv.start {B : Nat} (hB : 1 < B) (L : Nat) (n m : List Nat) : RowsInv B L n m 0 (List.replicate L 0) := by
  refine ⟨by simp, fun y hy => ?_, fun j _ => ?_, ?_⟩
  · have := (List.mem_replicate.1 hy).2; omega
  · simp only [List.getD, List.getElem?_replicate]; split <;> rfl
  · simp [val_replicate, val]

theorem RowsInv.inner {B : Nat} (hB : 1 < B) {L : Nat} {n m : List Nat} {i : Nat} {o : List Nat} (h : RowsInv B L n m i o) (x : Nat) :
    TimesInv B L i (val B (n.take i) * val B m) x m 0 o 0 :=
  ⟨h.len, h.lt, by omega, h.zero, by simp [h.eq, val]⟩

theorem RowsInv.step {B : Nat} {L : Nat} {n m : List Nat} {i x : Nat} {o : List Nat} {c : Nat} (hL : i + m.length < L) (hx : x = n.getD i 0)
    (h : TimesInv B L i (val B (n.take i) * val B m) x m m.length o c) : RowsInv B L n m (i + 1) (o.set (i + m.length) c) := by
  have hlen := h.len
  refine ⟨by simp [hlen], mem_set_lt h.lt h.carry, ?_, ?_⟩
  · intro j hj
    have := h.zero j (by omega)
    simp only [List.getD, List.getElem?_set] at this ⊢
    rw [if_neg (by omega)]; exact this
  · have h1 := val_set B o (i + m.length) c (by omega)
    have h2 := h.zero (i + m.length) (Nat.le_refl _)
    have h3 : o[i + m.length]'(by omega) = 0 := by
      simpa [List.getD, List.getElem?_eq_getElem (show i + m.length < o.length by omega)] using h2
    rw [h3] at h1
    have h4 := h.eq
    rw [List.take_of_length_le (Nat.le_refl m.length)] at h4
    rw [val_take_succ', ← hx]
    have h5 : (val B (n.take i) + B ^ i * x) * val B m = val B (n.take i) * val B m + B ^ i * (x * val B m) := by grind
    rw [h5]
    omega

theorem RowsInv.done {B : Nat} {L : Nat} {n m : List Nat} {o : List Nat} (h : RowsInv B L n m n.length o) : val B o = val B n * val B m := by
  have := h.eq
  rwa [List.take_of_length_le (Nat.le_refl _)] at this

/-! ### Quotients by one limb -/

/-- A short division's loop: the limbs from k on are done. -/
structure ShortInv (B : Nat) (n : List Nat) (d : Nat) (k : Nat) (o : List Nat) (r : Nat) : Prop where
  len : o.length = n.length
  lt : ∀ y ∈ o, y < B
  rest : r < d
  eq : val B (n.drop k) = val B (o.drop k) * d + r

theorem ShortInv.start {B : Nat} (hB : 1 < B) (n : List Nat) {d : Nat} (hd : 0 < d) : ShortInv B n d n.length (List.replicate n.length 0) 0 := by
  refine ⟨by simp, fun y hy => ?_, hd, by simp [val]⟩
  have := (List.mem_replicate.1 hy).2; omega

theorem ShortInv.step {B : Nat} {n : List Nat} (hn : ∀ y ∈ n, y < B) {d k : Nat} {o : List Nat} {r : Nat} (h : ShortInv B n d (k + 1) o r) (hk : k < n.length) {s : Nat} (hs : s = r * B + n.getD k 0) :
    ShortInv B n d k (o.set k (s / d)) (s % d) := by
  have hlen := h.len
  have h1 := h.rest
  have h2 : n.getD k 0 < B := by simp only [List.getD, List.getElem?_eq_getElem hk, Option.getD_some]; exact hn _ (List.getElem_mem hk)
  have hq : s / d < B := by
    refine Nat.div_lt_of_lt_mul ?_
    have : (r + 1) * B ≤ d * B := Nat.mul_le_mul_right _ (by omega)
    rw [Nat.add_mul] at this
    omega
  refine ⟨by simp [hlen], mem_set_lt h.lt hq, Nat.mod_lt _ (by omega), ?_⟩
  have hk' : k < (o.set k (s / d)).length := by simp; omega
  rw [val_drop B n k hk, val_drop B _ k hk', h.eq]
  have h3 : (o.set k (s / d)).drop (k + 1) = o.drop (k + 1) := by
    rw [List.drop_set, if_pos (by omega)]
  have h4 : (o.set k (s / d))[k] = s / d := by simp
  rw [h3, h4]
  have h5 : n.getD k 0 = n[k] := by simp [List.getD, hk]
  rw [h5] at hs
  have h6 := Nat.mod_add_div s d
  generalize s % d = q at *
  generalize s / d = t at *
  generalize val B (o.drop (k + 1)) = V at *
  have h7 : n[k] + B * (V * d + r) = s + B * (V * d) := by rw [hs]; grind
  rw [h7, ← h6]
  grind

theorem ShortInv.done {B : Nat} {n : List Nat} {d : Nat} {o : List Nat} {r : Nat} (h : ShortInv B n d 0 o r) : val B o = val B n / d ∧ r = val B n % d := by
  have h1 := h.eq
  have h2 := h.rest
  simp only [List.drop_zero] at h1
  constructor
  · rw [h1, Nat.mul_comm, Nat.mul_add_div (by omega), Nat.div_eq_of_lt h2]; rfl
  · rw [h1, Nat.mul_comm, Nat.mul_add_mod, Nat.mod_eq_of_lt h2]

end Go.Proofs.YtcncdepjbhnknaaGreatDoor
/- What a slice of integers holds, as a list of numbers; how that stays. The words that all walks of this seat use. -/
namespace Go.Proofs.YtcncdepjbhnknaaGreatDoor
open Go.RowKit

theorem ret_int {k : IntKind} {a b : Int} (h : a = b) : Ending.returned (.int k a) = .returned (.int k b) := by rw [h]

/-- The i-th number of a list (0 where there is none), under a name that nothing opens by itself. -/
def lim (xs : List Nat) (i : Nat) : Nat := xs.getD i 0

/-- The numbers at an address: xs, as integers of kind k. -/
def At (k : IntKind) (w : World) (b off : Nat) (xs : List Nat) : Prop := ∀ j (h : j < xs.length), w.cell? ⟨b, off + j, none⟩ = some (.int k (xs[j] : Nat))

theorem At.below {k : IntKind} {B : Nat} {w w' : World} {b off : Nat} {xs : List Nat} (h : At k w b off xs) (hb : Below B w w') (hB : b < B) : At k w' b off xs :=
  fun j hj => (hb.cell (p := ⟨b, off + j, none⟩) hB).trans (h j hj)
theorem At.getD {k : IntKind} {w : World} {b off : Nat} {xs : List Nat} (h : At k w b off xs) {j x : Nat} (hj : j < xs.length) (hx : xs.getD j 0 = x) : w.cell? ⟨b, off + j, none⟩ = some (.int k (x : Nat)) := by
  rw [h j hj]; subst hx; simp [List.getD, hj]

/-- The slice value v holds just the numbers xs, as integers of kind k. -/
def Nums (k : IntKind) (w : World) (v : Value) (xs : List Nat) : Prop :=
  ∃ p cap, v = .slice p xs.length cap ∧ xs.length ≤ cap ∧ cap ≤ maxLen ∧ (xs ≠ [] → ∃ b off, p = some ⟨b, off, none⟩ ∧ b < w.heap.size ∧ At k w b off xs)

theorem Nums.below {k : IntKind} {B : Nat} {w w' : World} {v : Value} {xs : List Nat} (h : Nums k w v xs) (hb : Below B w w') (hB : w.heap.size ≤ B) : Nums k w' v xs := by
  obtain ⟨p, cap, h1, h2, h3, h4⟩ := h
  refine ⟨p, cap, h1, h2, h3, fun hne => ?_⟩
  obtain ⟨b, off, h5, h6, h7⟩ := h4 hne
  exact ⟨b, off, h5, Nat.lt_of_lt_of_le h6 hb.size, h7.below hb (by omega)⟩

theorem Nums.nil (k : IntKind) (w : World) : Nums k w (.slice none 0 0) [] := ⟨none, 0, rfl, Nat.le_refl _, by simp [maxLen], by simp⟩

/-- A row of numbers that the call has made itself: the slice at the head of block g, with room for cap. -/
def Row (k : IntKind) (E : TypeId) (w : World) (B g cap : Nat) (xs : List Nat) : Prop :=
  w.ownsRow B E 1 (.slice (some ⟨g, 0, none⟩) xs.length cap) xs.length (xs.map fun x => Value.int k (x : Nat))

section
variable {k : IntKind} {E : TypeId} {w : World} {B g cap : Nat} {xs : List Nat}
theorem Row.cell (h : Row k E w B g cap xs) {j x : Nat} (hj : j < xs.length) (hx : xs.getD j 0 = x) : w.cell? ⟨g, j, none⟩ = some (.int k (x : Nat)) := by
  have := World.ownsRow.cellAt h j (by omega)
  rw [this]; subst hx; simp [List.getD, hj]
theorem Row.at (h : Row k E w B g cap xs) : At k w g 0 xs := fun j hj => by
  rw [Nat.zero_add]; exact h.cell hj (by simp [List.getD, hj])
theorem Row.frozen (h : Row k E w B g cap xs) (j : Nat) : w.frozen? ⟨g, j, none⟩ = false := World.ownsRow.frozenAt h j
theorem Row.lt (h : Row k E w B g cap xs) : B ≤ g ∧ g < w.heap.size := World.ownsRow.lt h g (by simp [Value.ownBlock])
theorem Row.cap_le (h : Row k E w B g cap xs) : xs.length ≤ cap ∧ cap ≤ maxLen := by
  rcases h.2 with ⟨h', _⟩ | ⟨g', cap', cur, h', _, _, h5, h6, _⟩
  · simp at h'
  · simp only [Value.slice.injEq, Option.some.injEq, Addr.mk.injEq, and_true, true_and] at h'
    obtain ⟨rfl, rfl⟩ := h'
    exact ⟨h5, h6⟩
theorem Row.set (h : Row k E w B g cap xs) (j v : Nat) : Row k E (w.setCell ⟨g, j, none⟩ (.int k (v : Nat))) B g cap (xs.set j v) := by
  have := (World.ownsRow.stored h j (.int k (v : Nat))).1
  unfold Row
  rw [List.length_set, List.map_set]
  exact this
theorem Row.kept {w' : World} (h : Row k E w B g cap xs) (hb : w'.heap[g]? = w.heap[g]?) : Row k E w' B g cap xs := by
  obtain ⟨h1, h2⟩ := h
  refine ⟨h1, ?_⟩
  rcases h2 with ⟨h', _⟩ | ⟨g', cap', cur, h', h3, h4, h5⟩
  · simp at h'
  · simp only [Value.slice.injEq, Option.some.injEq, Addr.mk.injEq, and_true, true_and] at h'
    obtain ⟨rfl, rfl⟩ := h'
    exact .inr ⟨g, cap, cur, rfl, h3, by rw [hb]; exact h4, h5⟩
theorem Row.below {w' : World} {C : Nat} (h : Row k E w B g cap xs) (hb : Below C w w') (hC : g < C) : Row k E w' B g cap xs := h.kept (hb.block g hC)
theorem Row.alloc (h : Row k E w B g cap xs) (o : Obj) : Row k E (w.alloc o) B g cap xs := World.ownsRow.alloc h o
theorem Row.drew (h : Row k E w B g cap xs) : Row k E w.drew B g cap xs := h
theorem Row.setOther (h : Row k E w B g cap xs) {a : Addr} (ha : a.block ≠ g) (v : Value) : Row k E (w.setCell a v) B g cap xs := h.kept (Below.heap_setCell w a v g (Ne.symm ha))
theorem Row.grown {w' : World} {row : Option Nat} (h : Row k E w B g cap xs) (hg : w.grownBy w' row) (hr : row ≠ some g) : Row k E w' B g cap xs := h.kept (hg.block g h.lt.2 (Ne.symm hr))
theorem Row.nums (h : Row k E w B g cap xs) : Nums k w (.slice (some ⟨g, 0, none⟩) xs.length cap) xs :=
  ⟨_, cap, rfl, h.cap_le.1, h.cap_le.2, fun _ => ⟨g, 0, rfl, h.lt.2, h.at⟩⟩
/-- The first of the numbers. -/
theorem Row.take (h : Row k E w B g cap xs) (n : Nat) : Row k E w B g cap (xs.take n) := by
  obtain ⟨h1, h2⟩ := h
  rcases h2 with ⟨h', _⟩ | ⟨g', cap', cur, h', h3, h4, h5, h6, h7, h8⟩
  · simp at h'
  · simp only [Value.slice.injEq, Option.some.injEq, Addr.mk.injEq, and_true, true_and] at h'
    obtain ⟨rfl, rfl⟩ := h'
    refine ⟨by simp, .inr ⟨g, cap, cur, rfl, h3, h4, ?_, h6, h7, ?_⟩⟩
    · rw [List.length_take]; omega
    · rw [List.map_take, ← h8, List.take_take, List.length_take]
      congr 1; omega
end

theorem Row.own {k : IntKind} {E : TypeId} {w : World} {B g cap n : Nat} {xs : List Nat} (h : Row k E w B g cap xs) (hn : xs.length = n) :
    w.ownsRow B E 1 (.slice (some ⟨g, 0, none⟩) n cap) n (xs.map fun x => Value.int k (x : Nat)) := by subst hn; exact h
theorem Row.made {k : IntKind} {E : TypeId} {w : World} {B g cap : Nat} (h : w.ownsRow B E 1 (.slice (some ⟨g, 0, none⟩) 0 cap) 0 []) : Row k E w B g cap [] := h
theorem Row.full {k : IntKind} {E : TypeId} {w : World} {B g n : Nat} (h : w.ownsRow B E 1 (.slice (some ⟨g, 0, none⟩) n n) n (madeCells #[Value.int k 0] n).toList) : Row k E w B g n (List.replicate n 0) := by
  unfold Row
  have e : (madeCells #[Value.int k 0] n).toList = (List.replicate n 0).map fun x : Nat => Value.int k (x : Nat) := by
    have := toList_madeCells_one (Value.int k 0) n
    rw [List.map_replicate]; exact this
  rw [← e, List.length_replicate]
  exact h
theorem Row.snoc {k : IntKind} {E : TypeId} {w : World} {B g cap n x : Nat} {xs : List Nat} {y : Int} (hn : n = xs.length) (hy : y = (x : Nat))
    (h : w.ownsRow B E 1 (.slice (some ⟨g, 0, none⟩) (n + 1) cap) (n + 1) ((xs.map fun x => Value.int k (x : Nat)) ++ [.int k y])) : Row k E w B g cap (xs ++ [x]) := by
  subst hn; subst hy
  unfold Row
  rw [List.length_append, List.map_append]
  exact h

theorem info_u64 : (Tryz.prog.info? 98).map (fun i => (i.zero, i.size, i.bytes)) = some (some (.int .u64 0), 1, 8) := by kernel_rfl

end Go.Proofs.YtcncdepjbhnknaaGreatDoor
/- Tables of sights: what a valid one is, and the sweep width. No program is in sight. -/
namespace Go.Proofs.YtcncdepjbhnknaaGreatDoor

/-- A sight: sensor, object, light, sea, width. -/
structure Sg where
  sn : Int
  ob : Int
  li : Int
  se : Int
  wi : Int
def noSg : Sg := ⟨0, 0, 0, 0, 0⟩
def sAt (l : List Sg) (i : Nat) : Sg := l.getD i noSg
theorem sAt_get {l : List Sg} {i : Nat} (h : i < l.length) : sAt l i = l[i] := by simp [sAt, List.getD, h]
def sameS (a b : Sg) : Prop := a.sn = b.sn ∧ a.ob = b.ob ∧ a.li = b.li
def inSg (a : Sg) : Prop := (0 ≤ a.sn ∧ a.sn ≤ 63) ∧ (0 ≤ a.ob ∧ a.ob ≤ 63) ∧ (0 ≤ a.li ∧ a.li ≤ 63) ∧ (0 ≤ a.se ∧ a.se ≤ 9) ∧ (0 ≤ a.wi ∧ a.wi ≤ 100000)
def clash (b a : Sg) : Prop := sameS a b ∧ (a.se = b.se ∨ (b.se < a.se ∧ b.wi < a.wi) ∨ (a.se < b.se ∧ a.wi < b.wi))
/-- A valid table. -/
def TableP (l : List Sg) : Prop := l.length ≤ 256 ∧ ∀ i, i < l.length → inSg (sAt l i) ∧ ∀ k, k < i → ¬ clash (sAt l k) (sAt l i)
def TableE (l : List Sg) (n : Int) : Prop := (TableP l ∧ n = 0) ∨ (¬ TableP l ∧ n = 2)
/-- Is a sight of this sort, for at least this sea? -/
def fitS (a : Sg) (sn ob li se : Int) : Prop := a.sn = sn ∧ a.ob = ob ∧ a.li = li ∧ se ≤ a.se
/-- What Width answers. -/
def WidthA (l : List Sg) (sn ob li se : Int) (w e : Int) : Prop :=
  (¬ TableP l ∧ w = 0 ∧ e = 2) ∨ (TableP l ∧ (∀ i, i < l.length → ¬ fitS (sAt l i) sn ob li se) ∧ w = 0 ∧ e = 7) ∨
    (TableP l ∧ ∃ i, i < l.length ∧ fitS (sAt l i) sn ob li se ∧ (∀ j, j < l.length → fitS (sAt l j) sn ob li se → (sAt l i).se ≤ (sAt l j).se) ∧ w = (sAt l i).wi ∧ e = 0)
theorem TableP.apart {l : List Sg} (h : TableP l) {i j : Nat} (hi : i < l.length) (hj : j < l.length) (hs : sameS (sAt l i) (sAt l j)) (hij : i ≠ j) :
    (sAt l i).se ≠ (sAt l j).se ∧ ¬ ((sAt l i).se < (sAt l j).se ∧ (sAt l i).wi < (sAt l j).wi) := by
  rcases Nat.lt_or_gt_of_ne hij with hl | hl
  · have := (h.2 j hj).2 i hl
    unfold clash at this
    have hs2 : sameS (sAt l j) (sAt l i) := ⟨hs.1.symm, hs.2.1.symm, hs.2.2.symm⟩
    refine ⟨fun he => this ⟨hs2, .inl he.symm⟩, fun he => this ⟨hs2, .inr (.inl ⟨he.1, he.2⟩)⟩⟩
  · have := (h.2 i hi).2 j hl
    unfold clash at this
    refine ⟨fun he => this ⟨hs, .inl he⟩, fun he => this ⟨hs, .inr (.inr ⟨he.1, he.2⟩)⟩⟩
theorem fitS.same {a b : Sg} {sn ob li se se2 : Int} (h : fitS a sn ob li se) (g : fitS b sn ob li se2) : sameS a b := ⟨h.1.trans g.1.symm, h.2.1.trans g.2.1.symm, h.2.2.1.trans g.2.2.1.symm⟩
theorem WidthA.det {l : List Sg} {sn ob li se w e w' e' : Int} (h : WidthA l sn ob li se w e) (g : WidthA l sn ob li se w' e') : w = w' ∧ e = e' := by
  rcases h with ⟨h1, rfl, rfl⟩ | ⟨h1, h2, rfl, rfl⟩ | ⟨h1, i, h2, h3, h4, rfl, rfl⟩
  · rcases g with ⟨_, rfl, rfl⟩ | ⟨g1, _⟩ | ⟨g1, _⟩
    · exact ⟨rfl, rfl⟩
    · exact absurd g1 h1
    · exact absurd g1 h1
  · rcases g with ⟨g1, _⟩ | ⟨_, _, rfl, rfl⟩ | ⟨_, i, g2, g3, _⟩
    · exact absurd h1 g1
    · exact ⟨rfl, rfl⟩
    · exact absurd g3 (h2 i g2)
  · rcases g with ⟨g1, _⟩ | ⟨_, g2, _⟩ | ⟨_, j, g2, g3, g4, rfl, rfl⟩
    · exact absurd h1 g1
    · exact absurd h3 (g2 i h2)
    · by_cases hij : i = j
      · subst hij; exact ⟨rfl, rfl⟩
      · have := (h1.apart h2 g2 (h3.same g3) hij).1
        have a := h4 j g2 g3
        have b := g4 i h2 h3
        omega
/-- In a greater sea no sweep width is greater. -/
theorem WidthA.worse {l : List Sg} {sn ob li lo hi a e b f : Int} (hl : lo ≤ hi) (h : WidthA l sn ob li lo a e) (g : WidthA l sn ob li hi b f) :
    (f ≠ 0 → e = f ∨ f = 7) ∧ (f = 0 → e = 0 ∧ b ≤ a ∧ a ≤ 100000 ∧ 0 ≤ b) := by
  rcases g with ⟨g1, rfl, rfl⟩ | ⟨g1, g2, rfl, rfl⟩ | ⟨g1, j, g2, g3, g4, rfl, rfl⟩
  · refine ⟨fun _ => ?_, fun h => absurd h (by decide)⟩
    rcases h with ⟨_, _, rfl⟩ | ⟨h1, _⟩ | ⟨h1, _⟩
    · exact .inl rfl
    · exact absurd h1 g1
    · exact absurd h1 g1
  · exact ⟨fun _ => .inr rfl, fun h => absurd h (by decide)⟩
  · refine ⟨fun h => absurd rfl h, fun _ => ?_⟩
    have g3' : fitS (sAt l j) sn ob li lo := ⟨g3.1, g3.2.1, g3.2.2.1, Int.le_trans hl g3.2.2.2⟩
    have hj := ((g1.2 j g2).1).2.2.2.2
    rcases h with ⟨h1, _⟩ | ⟨_, h2, _⟩ | ⟨_, i, h2, h3, h4, rfl, rfl⟩
    · exact absurd g1 h1
    · exact absurd g3' (h2 j g2)
    · have hi' := ((g1.2 i h2).1).2.2.2.2
      refine ⟨rfl, ?_, hi'.2, hj.1⟩
      by_cases hij : i = j
      · subst hij; omega
      · have := g1.apart h2 g2 (h3.same g3) hij
        have a := h4 j g2 g3'
        omega
end Go.Proofs.YtcncdepjbhnknaaGreatDoor
/- A map that the call makes, whose elements are slices of sights of its own: what it holds key by key; the look-up; the store behind an append. Laws of my own over the kit's laws for entries (Maps.fit_look, Maps.fit_store). -/
namespace Go.Proofs.YtcncdepjbhnknaaGreatDoor
open Go.RowKit Go.ChangeMaps Go.MapKept Go.ChangeShapes
open Go.WideElems (Fit rd rg rd_val)
open Go.Maps (Keyed)

/-- The cells of sights. -/
def scells : List Sg → List Value
  | [] => []
  | s :: l => .int .i64 s.sn :: .int .i64 s.ob :: .int .i64 s.li :: .int .i64 s.se :: .int .i64 s.wi :: scells l
theorem scells_append (a b : List Sg) : scells (a ++ b) = scells a ++ scells b := by
  induction a with
  | nil => rfl
  | cons s a ih => simp [scells, ih]
theorem scells_length (a : List Sg) : (scells a).length = a.length * 5 := by
  induction a with
  | nil => rfl
  | cons s a ih => simp [scells, ih]; omega
theorem scells_inj : ∀ {a b : List Sg}, scells a = scells b → a = b
  | [], [], _ => rfl
  | [], _ :: _, h => by simp [scells] at h
  | _ :: _, [], h => by simp [scells] at h
  | ⟨_, _, _, _, _⟩ :: a, ⟨_, _, _, _, _⟩ :: b, h => by
    simp only [scells, List.cons.injEq, Value.int.injEq, true_and] at h
    obtain ⟨rfl, rfl, rfl, rfl, rfl, h⟩ := h
    rw [scells_inj h]
theorem scells_at : ∀ (l : List Sg) (j : Nat), j < l.length → (scells l)[j * 5]? = some (.int .i64 (sAt l j).sn) ∧ (scells l)[j * 5 + 1]? = some (.int .i64 (sAt l j).ob) ∧ (scells l)[j * 5 + 2]? = some (.int .i64 (sAt l j).li) ∧
    (scells l)[j * 5 + 3]? = some (.int .i64 (sAt l j).se) ∧ (scells l)[j * 5 + 4]? = some (.int .i64 (sAt l j).wi)
  | s :: l, 0, _ => ⟨rfl, rfl, rfl, rfl, rfl⟩
  | s :: l, j + 1, h => by
    have ih := scells_at l j (by simpa using h)
    have e : sAt (s :: l) (j + 1) = sAt l j := by simp [sAt]
    rw [e]
    have e0 : (j + 1) * 5 = j * 5 + 1 + 1 + 1 + 1 + 1 := by omega
    simp only [scells, e0]
    exact ih
/-- The slice value v owns just these sights. -/
def OwnS (w : World) (base : Nat) (v : Value) (l : List Sg) : Prop := w.ownsRow base 30 5 v l.length (scells l)
theorem OwnS.nil (w : World) (base : Nat) : OwnS w base (.slice none 0 0) [] := World.ownsRow_nil w base _ 5
theorem OwnS.unique {w : World} {base : Nat} {v : Value} {l m : List Sg} (h : OwnS w base v l) (g : OwnS w base v m) : l = m := by
  have len : l.length = m.length := by
    rcases h.2 with ⟨e, h0⟩ | ⟨_, _, _, e, _⟩ <;> rcases g.2 with ⟨e', g0⟩ | ⟨_, _, _, e', _⟩
    · rw [h0, g0]
    · rw [e] at e'; cases e'
    · rw [e] at e'; cases e'
    · rw [e] at e'
      injection e'
  refine scells_inj (List.ext_getElem? fun j => ?_)
  by_cases hj : j < l.length * 5
  · rcases h.2 with ⟨_, h0⟩ | ⟨b, cap, _, rfl, _⟩
    · omega
    · rcases g.2 with ⟨e', _⟩ | ⟨b', cap', _, e', _⟩
      · cases e'
      · injection e' with e1 e2 e3
        injection e1 with e1
        injection e1 with e1
        subst e1 e3
        have a := World.ownsRow.cellAt h j hj
        have g' := g
        unfold OwnS at g'
        rw [← len] at g'
        have c := World.ownsRow.cellAt g' j hj
        rw [← a, ← c]
  · rw [List.getElem?_eq_none (by rw [scells_length]; omega), List.getElem?_eq_none (by rw [scells_length]; omega)]
theorem OwnS.kept {w w' : World} {base : Nat} {v : Value} {l : List Sg} {row : Option Nat} (h : OwnS w base v l) (hg : w.grownBy w' row) (hne : v.ownBlock = none ∨ v.ownBlock ≠ row) : OwnS w' base v l := World.ownsRow.kept h hg hne

/-- What a key's slice is told as. -/
def sgD (s : Sg) : DataW Unit := .agg [.lit (.int .i64 s.sn), .lit (.int .i64 s.ob), .lit (.int .i64 s.li), .lit (.int .i64 s.se), .lit (.int .i64 s.wi)]
def tabD : List Sg → DataW Unit
  | [] => .nil
  | s :: l => .slice ((s :: l).map sgD) []
theorem sgD_inj {a b : Sg} (h : sgD a = sgD b) : a = b := by
  obtain ⟨_, _, _, _, _⟩ := a
  obtain ⟨_, _, _, _, _⟩ := b
  simp only [sgD, DataW.agg.injEq, List.cons.injEq, DataW.lit.injEq, Lit.int.injEq, true_and, and_true] at h
  obtain ⟨rfl, rfl, rfl, rfl, rfl⟩ := h
  rfl
theorem tabD_inj : ∀ {a b : List Sg}, tabD a = tabD b → a = b
  | [], [], _ => rfl
  | [], _ :: _, h => by cases h
  | _ :: _, [], h => by cases h
  | a :: l, b :: m, h => by
    have h2 : ((a :: l).map sgD) = ((b :: m).map sgD) := by
      unfold tabD at h
      injection h
    exact (List.map_inj_right (fun _ _ => sgD_inj)).1 h2
open Classical in
noncomputable def tabR (w : World) (base : Nat) (v : Value) : Option (DataW Unit × List MemPlace) := if h : ∃ l, OwnS w base v l then some (tabD (Classical.choose h), []) else none
theorem tabR_mk {w : World} {base : Nat} {v : Value} {l : List Sg} (h : OwnS w base v l) : tabR w base v = some (tabD l, []) := by
  have hex : ∃ l, OwnS w base v l := ⟨l, h⟩
  unfold tabR
  rw [dif_pos hex, OwnS.unique (Classical.choose_spec hex) h]
theorem tabR_inv {w : World} {base : Nat} {v : Value} {z : DataW Unit × List MemPlace} (h : tabR w base v = some z) : ∃ l, OwnS w base v l ∧ z = (tabD l, []) := by
  unfold tabR at h
  split at h
  · rename_i hex
    exact ⟨_, Classical.choose_spec hex, (Option.some.inj h).symm⟩
  · cases h
/-- Block b is a map of at most n entries that reads as D, each element a slice of sights of its own, from block 'base' on; no two lie in one block. -/
def TabM (P : Program) (K : TypeId) (w : World) (base b n : Nat) (D : DataW Unit) : Prop :=
  ∃ es clock, w.heap[b]? = some (.map es clock) ∧ Fit P K (tabR w base) es clock ∧ es.size ≤ n ∧ D = .map ((es.toList.map (rg P K (tabR w base))).foldr DataW.insert []) ∧ b < base ∧
    ∀ x ∈ es.toList, ∀ y ∈ es.toList, x.key ≠ y.key → x.val.ownBlock = none ∨ x.val.ownBlock ≠ y.val.ownBlock
theorem TabM.made (P : Program) (K : TypeId) (w : World) : TabM P K (w.alloc (.map #[] 0)) (w.heap.size + 1) w.heap.size 0 (.map []) :=
  ⟨#[], 0, (MapKept.heap_alloc w _).1, ⟨by simp, stamped_empty 0, by simp⟩, Nat.le_refl _, rfl, Nat.lt_succ_self _, by simp⟩
theorem TabM.isMap {P : Program} {K : TypeId} {w : World} {base b n : Nat} {D : DataW Unit} (h : TabM P K w base b n D) : Maps.IsMap D := by
  obtain ⟨es, clock, _, _, _, rfl, _⟩ := h
  exact ⟨_, rfl⟩
theorem TabM.owned {P : Program} {K : TypeId} {w : World} {base : Nat} {es : Array MapEntry} {clock : Nat} (F : Fit P K (tabR w base) es clock) {x : MapEntry} (hx : x ∈ es.toList) : ∃ l, OwnS w base x.val l := by
  obtain ⟨y, hy⟩ := F.reads x hx
  obtain ⟨z, hz, _⟩ := rd_val hy
  obtain ⟨l, h, _⟩ := tabR_inv hz
  exact ⟨l, h⟩
/-- The map stays where nothing of its own is turned. -/
theorem TabM.stay {P : Program} {K : TypeId} {w w' : World} {base b n : Nat} {D : DataW Unit} (h : TabM P K w base b n D) (hk : ∀ g, (g = b ∨ base ≤ g) → g < w.heap.size → w'.heap[g]? = w.heap[g]?) : TabM P K w' base b n D := by
  obtain ⟨es, clock, hb, F, hs, hD, hbb, hap⟩ := h
  have hbl := (Array.getElem?_eq_some_iff.1 hb).1
  have hsame : ∀ x ∈ es.toList, ∀ z, tabR w base x.val = some z → tabR w' base x.val = some z := fun x _ z hz => by
    obtain ⟨l, ho, rfl⟩ := tabR_inv hz
    refine tabR_mk ?_
    have hlt := World.ownsRow.lt ho
    obtain ⟨h1, h2⟩ := ho
    refine ⟨h1, ?_⟩
    rcases h2 with h2 | ⟨g, cap, cur, hv, hg, hh, hr⟩
    · exact .inl h2
    · have hb2 := hlt g (by rw [hv]; rfl)
      exact .inr ⟨g, cap, cur, hv, hg, by rw [hk g (.inr hb2.1) hb2.2]; exact hh, hr⟩
  obtain ⟨F2, hmap, _⟩ := F.stay hsame
  exact ⟨es, clock, by rw [hk b (.inl rfl) hbl]; exact hb, F2, hs, by rw [hmap]; exact hD, hbb, hap⟩
/-- The look-up: the key's slice, what it holds, and the way back: an append to it and a store at the key leave such a map. -/
theorem TabM.look {P : Program} {K E t : TypeId} {w : World} {base b n : Nat} {D : DataW Unit} (h : TabM P K w base b n D) (KK : Keyed P K) (ht : P.underlying t = some (.map K E)) (hz : (zeroValue E).run P w = .ok (.slice none 0 0) w) (hn : n < maxLen)
    {key : Value} {kl : Lit} (hkey : keyOf P K key = some kl) :
    ∃ v l, (Instr.lookup t (.map (some b)) key false).run P w = .ok v w ∧ D.atKey kl .nil = tabD l ∧ OwnS w base v l ∧
      ∀ (w1 : World) (v' : Value) (l' : List Sg), w.grownBy w1 v.ownBlock → OwnS w1 base v' l' → (v'.ownBlock = v.ownBlock ∨ ∃ g, v'.ownBlock = some g ∧ w.heap.size ≤ g) →
        ∃ w2, (Instr.mapUpdate t (.map (some b)) key v').run P w1 = .ok () w2 ∧ TabM P K w2 base b (n + 1) (D.put kl (tabD l')) ∧ w1.grownBy w2 (some b) := by
  obtain ⟨es, clock, hb, F, hs, rfl, hbb, hap⟩ := h
  -- the way back, whatever the key's slice was
  have back : ∀ v : Value, (∀ x ∈ es.toList, x.key ≠ key → x.val.ownBlock = none ∨ x.val.ownBlock ≠ v.ownBlock) → v.ownBlock ≠ some b →
      ∀ (w1 : World) (v' : Value) (l' : List Sg), w.grownBy w1 v.ownBlock → OwnS w1 base v' l' → (v'.ownBlock = v.ownBlock ∨ ∃ g, v'.ownBlock = some g ∧ w.heap.size ≤ g) →
        ∃ w2, (Instr.mapUpdate t (.map (some b)) key v').run P w1 = .ok () w2 ∧ TabM P K w2 base b (n + 1) ((DataW.map ((es.toList.map (rg P K (tabR w base))).foldr DataW.insert [])).put kl (tabD l')) ∧ w1.grownBy w2 (some b) := by
    intro v hv hvb w1 v' l' hg hown hloc
    have hblt : b < w.heap.size := (Array.getElem?_eq_some_iff.1 hb).1
    have hb1 : w1.heap[b]? = some (.map es clock) := (hg.block b hblt (fun e => hvb e.symm)).trans hb
    have hs1 : ∀ x ∈ es.toList, x.key ≠ key → ∀ z, tabR w base x.val = some z → tabR w1 base x.val = some z := fun x hx hne z hz => by
      obtain ⟨l, ho, rfl⟩ := tabR_inv hz
      exact tabR_mk (ho.kept hg (hv x hx hne))
    obtain ⟨es', clock', hrun, F', hput, _, _, hwho⟩ := Maps.fit_store (R' := tabR w1 base) KK ht hb1 F (Nat.lt_of_le_of_lt hs hn) hs1 hkey (tabR_mk hown)
    have hg2 : w1.grownBy (setBlock w1 b (.map es' clock')) (some b) := ⟨rfl, rfl, rfl, by simp [setBlock], fun i _ hi => heap_setBlock_other hb1 _ (fun e => hi (by rw [e]))⟩
    have apart : ∀ {u : Value} {l : List Sg}, OwnS w1 base u l → u.ownBlock = none ∨ u.ownBlock ≠ some b := fun {u l} ho => by
      cases hu : u.ownBlock with
      | none => exact .inl rfl
      | some g =>
        refine .inr fun e => ?_
        have := (World.ownsRow.lt ho g hu).1
        cases e
        omega
    obtain ⟨F2, hmap2, _⟩ := F'.stay (R' := tabR (setBlock w1 b (.map es' clock')) base) fun x _ z hz => by
      obtain ⟨l, ho, rfl⟩ := tabR_inv hz
      exact tabR_mk (ho.kept hg2 (apart ho))
    have fresh : ∀ x ∈ es.toList, x.key ≠ key → x.val.ownBlock = none ∨ x.val.ownBlock ≠ v'.ownBlock := fun x hx hne => by
      rcases hloc with h1 | ⟨g, h1, h2⟩
      · rw [h1]; exact hv x hx hne
      · cases hx' : x.val.ownBlock with
        | none => exact .inl rfl
        | some gx =>
          obtain ⟨l, ho⟩ := TabM.owned F hx
          have := (World.ownsRow.lt ho gx hx').2
          refine .inr fun e => ?_
          rw [h1] at e
          cases e
          omega
    refine ⟨_, hrun, ⟨es', clock', heap_setBlock_same hb1 _, F2, ?_, ?_, hbb, ?_⟩, hg2⟩
    · have e1 : es'.size = ((es'.toList.map (rg P K (tabR w1 base))).foldr DataW.insert []).length := by rw [length_sorted]; simp
      have e2 := List.length_filter_le (notKey kl) ((es.toList.map (rg P K (tabR w base))).foldr DataW.insert [])
      rw [length_sorted] at e2
      rw [e1, hput]
      unfold putKey
      rw [length_insert]
      simp at e2
      omega
    · rw [hmap2, DataW.put_eq, hput]
    · intro x hx y hy hne
      rcases hwho x hx with ⟨hx0, hxk⟩ | ⟨hxk, hxv⟩
      · rcases hwho y hy with ⟨hy0, _⟩ | ⟨_, hyv⟩
        · exact hap x hx0 y hy0 hne
        · rw [hyv]; exact fresh x hx0 hxk
      · rcases hwho y hy with ⟨hy0, hyk⟩ | ⟨hyk, _⟩
        · rw [hxv]
          rcases fresh y hy0 hyk with h | h
          · cases hv' : v'.ownBlock with
            | none => exact .inl rfl
            | some g => exact .inr (by rw [h]; simp)
          · exact .inr (fun e => h e.symm)
        · exact absurd (hxk.trans hyk.symm) hne
  rcases Maps.fit_look false KK ht hz hb F hkey with ⟨hrun, _, hat⟩ | ⟨e0, y, hm0, h3, hrun, hR, hat, _⟩
  · exact ⟨.slice none 0 0, [], hrun, hat _, OwnS.nil _ _, back _ (fun x _ _ => by cases x.val.ownBlock <;> simp [Value.ownBlock]) (by simp [Value.ownBlock])⟩
  · obtain ⟨l, ho, rfl⟩ := tabR_inv hR
    refine ⟨e0.val, l, hrun, hat _, ho, back _ (fun x hx hne => hap x hx e0 hm0 (by rw [h3]; exact hne)) (fun e => ?_)⟩
    have := (World.ownsRow.lt ho b e).1
    omega
/-- The look-up at the operation. -/
theorem wpList_look_tab {P : Program} (w : World) {ops : Array Oper} {rest : List Oper} {o : Oper} {a : Act} {Q : Exit → Act → World → Prop} (hg : o.guard = none) (m x : Operand) (t : TypeId) (hop : o.op = Op.lookup t m x false)
    (K E : TypeId) (KK : Keyed P K) (ht : P.underlying t = some (.map K E)) (hz : (zeroValue E).run P w = .ok (.slice none 0 0) w) {base b n : Nat} {D : DataW Unit} (hm : a.eval m = .map (some b)) (hT : TabM P K w base b n D) (hn : n < maxLen)
    (key : Value) (kl : Lit) (hx : a.eval x = key) (hkey : keyOf P K key = some kl)
    (hK : ∀ v l, D.atKey kl .nil = tabD l → OwnS w base v l →
      (∀ (w1 : World) (v' : Value) (l' : List Sg), w.grownBy w1 v.ownBlock → OwnS w1 base v' l' → (v'.ownBlock = v.ownBlock ∨ ∃ g, v'.ownBlock = some g ∧ w.heap.size ≤ g) →
        ∃ w2, (Instr.mapUpdate t (.map (some b)) key v').run P w1 = .ok () w2 ∧ TabM P K w2 base b (n + 1) (D.put kl (tabD l')) ∧ w1.grownBy w2 (some b)) →
      wpList P ops Q rest (a.put o.dst v) w) : wpList P ops Q (o :: rest) a w := by
  refine wpList_plain hg fun K' hK' => ?_
  obtain ⟨v, l, hrun, hat, ho, hback⟩ := hT.look KK ht hz hn hkey
  unfold Oper.wp
  simp [execOp, hop, hm, hx, hrun, Result.andThen]
  exact hK' _ _ (hK v l hat ho hback)
/-- A store at the operation, by its equation. -/
theorem wpList_store_tab {P : Program} (w : World) {ops : Array Oper} {rest : List Oper} {o : Oper} {a : Act} {Q : Exit → Act → World → Prop} (hg : o.guard = none) (m x v : Operand) (t : TypeId) (hop : o.op = Op.mapUpdate t m x v)
    {b : Nat} {key v' : Value} (hm : a.eval m = .map (some b)) (hx : a.eval x = key) (hv : a.eval v = v') {w2 : World} (hrun : (Instr.mapUpdate t (.map (some b)) key v').run P w = .ok () w2)
    (hK : wpList P ops Q rest (a.put o.dst undef) w2) : wpList P ops Q (o :: rest) a w := by
  refine wpList_plain hg fun K' hK' => ?_
  unfold Oper.wp
  simp [execOp, hop, hm, hx, hv, hrun, Result.andThen]
  exact hK' _ _ hK
end Go.Proofs.YtcncdepjbhnknaaGreatDoor
/- Decimal digits and numbers. No program is in sight. -/
namespace Go.Proofs.YtcncdepjbhnknaaGreatDoor
open Go.Lib

/-- A digit's number. -/
def dg1 (c : UInt8) : Nat := c.toNat - 48
def isDig (c : UInt8) : Bool := decide (48 ≤ c.toNat ∧ c.toNat ≤ 57)
/-- What a string of digits says. -/
def decVal (s : List UInt8) : Nat := s.foldl (fun a c => a * 10 + dg1 c) 0

theorem decVal_from (s : List UInt8) : ∀ a, s.foldl (fun a c => a * 10 + dg1 c) a = a * 10 ^ s.length + decVal s := by
  unfold decVal
  induction s with
  | nil => intro a; simp
  | cons c s ih =>
    intro a
    rw [List.foldl_cons, ih, List.foldl_cons, ih (0 * 10 + dg1 c), List.length_cons, Nat.pow_succ]
    grind

theorem decVal_nil : decVal [] = 0 := rfl
theorem decVal_append (s t : List UInt8) : decVal (s ++ t) = decVal s * 10 ^ t.length + decVal t := by
  show List.foldl _ 0 (s ++ t) = _
  rw [List.foldl_append, decVal_from]
  rfl
theorem decVal_one (c : UInt8) : decVal [c] = dg1 c := by simp [decVal]
theorem decVal_snoc (s : List UInt8) (c : UInt8) : decVal (s ++ [c]) = decVal s * 10 + dg1 c := by rw [decVal_append, decVal_one]; simp
theorem decVal_cons (c : UInt8) (s : List UInt8) : decVal (c :: s) = dg1 c * 10 ^ s.length + decVal s := by
  have := decVal_append [c] s
  rwa [decVal_one] at this

theorem dg1_lt {c : UInt8} (h : isDig c = true) : dg1 c < 10 := by
  unfold isDig at h; unfold dg1
  have := of_decide_eq_true h
  omega
theorem dg1_digit {d : Nat} (h : d < 10) : dg1 (UInt8.ofNat (48 + d)) = d ∧ isDig (UInt8.ofNat (48 + d)) = true := by
  have : (UInt8.ofNat (48 + d)).toNat = 48 + d := by rw [UInt8.toNat_ofNat']; omega
  unfold dg1 isDig
  rw [this]
  exact ⟨by omega, by simp; omega⟩
theorem digit_dg1 {c : UInt8} (h : isDig c = true) : UInt8.ofNat (48 + dg1 c) = c := by
  have h1 := of_decide_eq_true h
  apply UInt8.toNat_inj.1
  rw [UInt8.toNat_ofNat']
  unfold dg1
  have := c.toNat_lt
  omega

theorem decVal_lt {s : List UInt8} (h : ∀ c ∈ s, isDig c = true) : decVal s < 10 ^ s.length := by
  induction s with
  | nil => simp [decVal]
  | cons c s ih =>
    rw [decVal_cons, List.length_cons, Nat.pow_succ]
    have h1 := dg1_lt (h c (by simp))
    have h2 := ih fun x hx => h x (by simp [hx])
    have h3 : dg1 c * 10 ^ s.length ≤ 9 * 10 ^ s.length := Nat.mul_le_mul_right _ (by omega)
    omega

/-! ### The text of a number -/

theorem decDigits_small {n : Nat} (h : n < 10) : decDigits n = [UInt8.ofNat (48 + n)] := by rw [decDigits, dif_pos h]
theorem decDigits_big {n : Nat} (h : 10 ≤ n) : decDigits n = decDigits (n / 10) ++ [UInt8.ofNat (48 + n % 10)] := by rw [decDigits, dif_neg (by omega)]

theorem decVal_decDigits (n : Nat) : decVal (decDigits n) = n := by
  induction n using Nat.strongRecOn with
  | _ n ih =>
    rcases Nat.lt_or_ge n 10 with h | h
    · rw [decDigits_small h, decVal_one]; exact (dg1_digit h).1
    · rw [decDigits_big h, decVal_snoc, ih (n / 10) (by omega), (dg1_digit (Nat.mod_lt n (by omega))).1]; omega

theorem decDigits_digits (n : Nat) : ∀ c ∈ decDigits n, isDig c = true := by
  induction n using Nat.strongRecOn with
  | _ n ih =>
    intro c hc
    rcases Nat.lt_or_ge n 10 with h | h
    · rw [decDigits_small h] at hc; have hc := List.mem_singleton.1 hc; subst hc; exact (dg1_digit h).2
    · rw [decDigits_big h] at hc
      rcases List.mem_append.1 hc with hc | hc
      · exact ih (n / 10) (by omega) c hc
      · have hc := List.mem_singleton.1 hc; subst hc; exact (dg1_digit (Nat.mod_lt n (by omega))).2

theorem decDigits_ne (n : Nat) : decDigits n ≠ [] := by
  rcases Nat.lt_or_ge n 10 with h | h
  · rw [decDigits_small h]; simp
  · rw [decDigits_big h]; simp

theorem decDigits_inj {n m : Nat} (h : decDigits n = decDigits m) : n = m := by
  have := congrArg decVal h
  rwa [decVal_decDigits, decVal_decDigits] at this

theorem decDigits_zero : decDigits 0 = [48] := by rw [decDigits_small (by omega)]; rfl
theorem decDigits_one' : decDigits 1 = [49] := by rw [decDigits_small (by omega)]; rfl

theorem head_append {α : Type} {s t : List α} (h : s ≠ []) : (s ++ t).head? = s.head? := by
  cases s with
  | nil => exact absurd rfl h
  | cons c s => rfl
/-- No zero at the head, but for 0. -/
theorem decDigits_head (n : Nat) (h : 0 < n) : (decDigits n).head? ≠ some 48 := by
  induction n using Nat.strongRecOn with
  | _ n ih =>
    rcases Nat.lt_or_ge n 10 with h1 | h1
    · rw [decDigits_small h1]
      intro hc
      have hc := Option.some.inj hc
      have := congrArg UInt8.toNat hc
      rw [UInt8.toNat_ofNat'] at this
      have h48 : (48 : UInt8).toNat = 48 := rfl
      omega
    · rw [decDigits_big h1]
      have := ih (n / 10) (by omega) (by omega)
      rwa [head_append (decDigits_ne _)]

/-- Canonical digits: at least one, no zero at the head of more than one. -/
structure Canon (s : List UInt8) : Prop where
  dig : ∀ c ∈ s, isDig c = true
  ne : s ≠ []
  head : 1 < s.length → s.head? ≠ some 48

theorem canon_decDigits (n : Nat) : Canon (decDigits n) := by
  refine ⟨decDigits_digits n, decDigits_ne n, fun h => ?_⟩
  rcases Nat.eq_zero_or_pos n with h0 | h0
  · subst h0; rw [decDigits_zero] at h; simp at h
  · exact decDigits_head n h0

theorem decVal_pos {s : List UInt8} (hd : ∀ c ∈ s, isDig c = true) (hn : s ≠ []) (hh : s.head? ≠ some 48) : 0 < decVal s := by
  rcases s with _ | ⟨c, s⟩
  · exact absurd rfl hn
  · rw [decVal_cons]
    have h1 : isDig c = true := hd c (by simp)
    have h2 : dg1 c ≠ 0 := by
      intro h0
      apply hh
      have := digit_dg1 h1
      rw [h0] at this
      rw [List.head?_cons, ← this]
      rfl
    have : 0 < dg1 c * 10 ^ s.length := Nat.mul_pos (by omega) (Nat.pow_pos (by omega))
    omega

theorem snoc_cases {α : Type} (s : List α) (h : s ≠ []) : ∃ t c, s = t ++ [c] := ⟨s.dropLast, s.getLast h, (List.dropLast_concat_getLast h).symm⟩

theorem decDigits_decVal {s : List UInt8} (hd : ∀ c ∈ s, isDig c = true) (hn : s ≠ []) (hh : 1 < s.length → s.head? ≠ some 48) : decDigits (decVal s) = s := by
  induction hlen : s.length generalizing s with
  | zero => exact absurd (List.eq_nil_of_length_eq_zero hlen) hn
  | succ k ih =>
    obtain ⟨t, c, rfl⟩ := snoc_cases s hn
    have hc : isDig c = true := hd c (by simp)
    have ht : ∀ x ∈ t, isDig x = true := fun x hx => hd x (by simp [hx])
    have hcl := dg1_lt hc
    rw [decVal_snoc]
    by_cases h0 : t = []
    · subst h0
      rw [decVal_nil, decDigits_small (by omega)]
      simp only [Nat.zero_mul, Nat.zero_add, List.nil_append]
      rw [digit_dg1 hc]
    · have hlen2 : 1 < (t ++ [c]).length := by
        have : t.length ≠ 0 := fun h => h0 (List.eq_nil_of_length_eq_zero h)
        rw [List.length_append, List.length_singleton]; omega
      have hh2 : t.head? ≠ some 48 := by
        have := hh hlen2
        rwa [head_append h0] at this
      have hp := decVal_pos ht h0 hh2
      rw [decDigits_big (by omega), show (decVal t * 10 + dg1 c) / 10 = decVal t by omega, show (decVal t * 10 + dg1 c) % 10 = dg1 c by omega,
        ih ht h0 (fun _ => hh2) (by simpa using hlen), digit_dg1 hc]

theorem Canon.text {s : List UInt8} (h : Canon s) : decDigits (decVal s) = s := decDigits_decVal h.dig h.ne h.head
theorem Canon.eq {s t : List UInt8} (hs : Canon s) (ht : Canon t) (h : decVal s = decVal t) : s = t := by
  rw [← hs.text, ← ht.text, h]

theorem decDigits_length_le {n k : Nat} (hk : 0 < k) (h : n < 10 ^ k) : (decDigits n).length ≤ k := by
  induction k generalizing n with
  | zero => omega
  | succ k ih =>
    rcases Nat.lt_or_ge n 10 with h1 | h1
    · rw [decDigits_small h1]; simp
    · rw [decDigits_big h1, List.length_append, List.length_singleton]
      have hk0 : 0 < k := by
        rcases Nat.eq_zero_or_pos k with h0 | h0
        · subst h0; simp at h; omega
        · exact h0
      have := ih (n := n / 10) hk0 (by rw [Nat.div_lt_iff_lt_mul (by omega)]; rwa [Nat.pow_succ] at h)
      omega
theorem lt_pow_length (n : Nat) : n < 10 ^ (decDigits n).length := by
  have := decVal_lt (decDigits_digits n)
  rwa [decVal_decDigits] at this

/-! ### Fixed width -/

/-- The k lowest digits. -/
def fix : Nat → Nat → List UInt8
  | 0, _ => []
  | k + 1, n => fix k (n / 10) ++ [UInt8.ofNat (48 + n % 10)]

theorem fix_length (k n : Nat) : (fix k n).length = k := by
  induction k generalizing n with
  | zero => rfl
  | succ k ih => rw [fix, List.length_append, ih]; rfl

theorem decDigits_join (h k l : Nat) (hh : 0 < h) (hl : l < 10 ^ k) : decDigits (h * 10 ^ k + l) = decDigits h ++ fix k l := by
  induction k generalizing l with
  | zero =>
    have : l = 0 := by simpa using hl
    subst this
    simp [fix]
  | succ k ih =>
    have hp : 0 < 10 ^ k := Nat.pow_pos (by omega)
    have h1 : h * 10 ^ (k + 1) = h * 10 ^ k * 10 := by rw [Nat.pow_succ]; grind
    have h2 : 1 ≤ h * 10 ^ k := Nat.mul_pos hh hp
    rw [decDigits_big (by omega), fix, show (h * 10 ^ (k + 1) + l) / 10 = h * 10 ^ k + l / 10 by omega, show (h * 10 ^ (k + 1) + l) % 10 = l % 10 by omega,
      ih (l / 10) (by rw [Nat.div_lt_iff_lt_mul (by omega)]; rwa [Nat.pow_succ] at hl), List.append_assoc]

theorem fix_zero (k : Nat) : fix k 0 = List.replicate k 48 := by
  induction k with
  | zero => rfl
  | succ k ih => rw [fix, Nat.zero_div, ih, List.replicate_succ']; rfl

theorem fix_pad (k l : Nat) (hk : 0 < k) (hl : l < 10 ^ k) : fix k l = List.replicate (k - (decDigits l).length) 48 ++ decDigits l := by
  induction k generalizing l with
  | zero => omega
  | succ k ih =>
    rw [fix]
    rcases Nat.lt_or_ge l 10 with h1 | h1
    · rw [Nat.div_eq_of_lt h1, Nat.mod_eq_of_lt h1, fix_zero, decDigits_small h1]; simp
    · have hk0 : 0 < k := by
        rcases Nat.eq_zero_or_pos k with h0 | h0
        · subst h0; simp at hl; omega
        · exact h0
      rw [ih (l / 10) hk0 (by rw [Nat.div_lt_iff_lt_mul (by omega)]; rwa [Nat.pow_succ] at hl), decDigits_big h1, List.length_append, List.append_assoc]
      simp only [List.length_singleton]
      congr 2
      omega

/-! ### Reading -/

theorem parseUintM_digits (M : Nat) (hM : M ≤ 18446744073709551615) : ∀ (s : List UInt8) (a : Nat), (∀ c ∈ s, isDig c = true) → a * 10 ^ s.length + decVal s ≤ M → parseUintM M a s = .ok (a * 10 ^ s.length + decVal s)
  | [], a, _, _ => by simp [parseUintM, decVal]
  | c :: r, a, hd, hle => by
    have hc : isDig c = true := hd c (by simp)
    have hc1 := of_decide_eq_true hc
    have hp : 0 < 10 ^ r.length := Nat.pow_pos (by omega)
    have he : a * 10 ^ (c :: r).length + decVal (c :: r) = (a * 10 + dg1 c) * 10 ^ r.length + decVal r := by
      rw [decVal_cons, List.length_cons, Nat.pow_succ]; grind
    rw [he] at hle ⊢
    have h1 : (a * 10 + dg1 c) * 1 ≤ (a * 10 + dg1 c) * 10 ^ r.length := Nat.mul_le_mul_left _ hp
    have h2 : a * 10 + dg1 c ≤ M := by omega
    have h3 : dg1 c = c.toNat - 48 := rfl
    rw [parseUintM, if_pos hc1, if_neg (by omega), if_neg (by omega)]
    exact parseUintM_digits M hM r _ (fun x hx => hd x (by simp [hx])) hle

theorem parseUint64_digits {s : List UInt8} (hd : ∀ c ∈ s, isDig c = true) (hn : s ≠ []) (hl : s.length ≤ 19) : parseUintB 64 s = .ok (decVal s) := by
  rw [parseUintB, if_neg hn]
  have h1 := decVal_lt hd
  have h2 : 10 ^ s.length ≤ 10 ^ 19 := Nat.pow_le_pow_right (by omega) hl
  have := parseUintM_digits (2 ^ 64 - 1) (by omega) s 0 hd (by omega)
  simpa using this
end Go.Proofs.YtcncdepjbhnknaaGreatDoor
