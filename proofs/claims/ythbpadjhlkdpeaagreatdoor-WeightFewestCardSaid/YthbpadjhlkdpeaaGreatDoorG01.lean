/- The parts Num, Alg, Base, Trim, Plus of a proof, put together by program (merge.py). -/
import Derived.Test.YthbpadjhlkdpeaaGreatDoorChecked
import Derived.WalkKit
import Derived.WalkSpells
import Derived.WalkLawsBesides
import Derived.WalkSmall
import Derived.Lib.Hide
import Derived.Outline
import Derived.Carry
import Derived.OwnWalk
import Derived.Maps.AppendAt
/- Plain natural numbers as lists of limbs, the lowest first: values, normal forms, and the steps of the loops that add, subtract, multiply and divide them. No program is in sight. -/
namespace Go.Proofs.YthbpadjhlkdpeaaGreatDoor

/-- The value of a list of limbs, the lowest first. -/
def val (B : Nat) : List Nat → Nat
  | [] => 0
  | x :: l => x + B * val B l

theorem val_nil (B : Nat) : val B [] = 0 := rfl
theorem val_cons (B x : Nat) (l : List Nat) : val B (x :: l) = x + B * val B l := rfl

theorem val_append (B : Nat) (l m : List Nat) : val B (l ++ m) = val B l + B ^ l.length * val B m := by
  induction l with
  | nil => simp [val]
  | cons x l ih =>
    simp only [List.cons_append, val, ih, List.length_cons, Nat.pow_succ]
    grind

theorem val_snoc (B : Nat) (l : List Nat) (x : Nat) : val B (l ++ [x]) = val B l + B ^ l.length * x := by
  rw [val_append]; simp [val]

theorem val_lt {B : Nat} {l : List Nat} (h : ∀ x ∈ l, x < B) : val B l < B ^ l.length := by
  induction l with
  | nil => simp [val]
  | cons x l ih =>
    have h1 := ih (fun y hy => h y (by simp [hy]))
    have h2 := h x (by simp)
    simp only [val, List.length_cons, Nat.pow_succ]
    have h3 := Nat.mul_le_mul_left B (Nat.succ_le_of_lt h1)
    have h4 : B * (val B l).succ = B * val B l + B := Nat.mul_succ _ _
    rw [Nat.mul_comm (B ^ l.length) B]
    omega

theorem val_replicate (B k : Nat) : val B (List.replicate k 0) = 0 := by
  induction k with
  | zero => rfl
  | succ k ih => simp [List.replicate_succ, val, ih]

theorem val_zero_of_all {B : Nat} {l : List Nat} (h : ∀ x ∈ l, x = 0) : val B l = 0 := by
  induction l with
  | nil => rfl
  | cons x l ih => simp [val, h x (by simp), ih (fun y hy => h y (by simp [hy]))]

theorem val_take_drop (B : Nat) (l : List Nat) (k : Nat) (hk : k ≤ l.length) : val B l = val B (l.take k) + B ^ k * val B (l.drop k) := by
  have h := val_append B (l.take k) (l.drop k)
  rw [List.take_append_drop, List.length_take, Nat.min_eq_left hk] at h
  exact h

theorem val_take_succ (B : Nat) (l : List Nat) (k : Nat) (hk : k < l.length) : val B (l.take (k + 1)) = val B (l.take k) + B ^ k * l[k] := by
  rw [List.take_succ_eq_append_getElem hk, val_snoc, List.length_take, Nat.min_eq_left (Nat.le_of_lt hk)]

theorem val_drop (B : Nat) (l : List Nat) (k : Nat) (hk : k < l.length) : val B (l.drop k) = l[k] + B * val B (l.drop (k + 1)) := by
  rw [List.drop_eq_getElem_cons hk]; rfl

/-- The limbs of a number, the lowest first, without zeros at the end. -/
def limbs (B n : Nat) : List Nat :=
  if _h : n = 0 ∨ B ≤ 1 then [] else n % B :: limbs B (n / B)
termination_by n
decreasing_by exact Nat.div_lt_self (by omega) (by omega)

theorem limbs_zero (B : Nat) : limbs B 0 = [] := by rw [limbs]; simp
theorem limbs_pos {B n : Nat} (hB : 1 < B) (hn : 0 < n) : limbs B n = n % B :: limbs B (n / B) := by
  rw [limbs, dif_neg (by omega)]

theorem val_limbs {B : Nat} (hB : 1 < B) (n : Nat) : val B (limbs B n) = n := by
  induction n using Nat.strongRecOn with
  | _ n ih =>
    by_cases hn : n = 0
    · subst hn; rw [limbs_zero]; rfl
    · rw [limbs_pos hB (by omega), val_cons, ih _ (Nat.div_lt_self (by omega) hB)]
      exact Nat.mod_add_div n B

theorem limbs_lt {B : Nat} (hB : 1 < B) (n : Nat) : ∀ x ∈ limbs B n, x < B := by
  induction n using Nat.strongRecOn with
  | _ n ih =>
    by_cases hn : n = 0
    · subst hn; rw [limbs_zero]; simp
    · rw [limbs_pos hB (by omega)]
      intro x hx
      rcases List.mem_cons.1 hx with rfl | hx
      · exact Nat.mod_lt _ (by omega)
      · exact ih _ (Nat.div_lt_self (by omega) hB) x hx

theorem limbs_eq_nil {B : Nat} (hB : 1 < B) {n : Nat} : limbs B n = [] ↔ n = 0 := by
  constructor
  · intro h
    have := val_limbs hB n
    rw [h] at this
    exact this.symm
  · rintro rfl; exact limbs_zero B

theorem limbs_length_pos {B : Nat} (hB : 1 < B) {n : Nat} : 0 < (limbs B n).length ↔ 0 < n := by
  rw [List.length_pos_iff, ne_eq, limbs_eq_nil hB]; omega

theorem limbs_last {B : Nat} (hB : 1 < B) (n : Nat) : (limbs B n).getLast? ≠ some 0 := by
  induction n using Nat.strongRecOn with
  | _ n ih =>
    by_cases hn : n = 0
    · subst hn; rw [limbs_zero]; simp
    · rw [limbs_pos hB (by omega)]
      by_cases h0 : n / B = 0
      · rw [h0, limbs_zero]
        have : n < B := (Nat.div_eq_zero_iff_lt (by omega)).1 h0
        simp [Nat.mod_eq_of_lt this, hn]
      · have h1 := ih _ (Nat.div_lt_self (by omega) hB)
        cases h2 : limbs B (n / B) with
        | nil => exact absurd ((limbs_eq_nil hB).1 h2) h0
        | cons y l => rw [h2] at h1; simpa [List.getLast?_cons] using h1

/-- Zeros at the end are left out. -/
theorem limbs_val {B : Nat} (hB : 1 < B) : ∀ {l : List Nat}, (∀ x ∈ l, x < B) → l.getLast? ≠ some 0 → limbs B (val B l) = l
  | [], _, _ => limbs_zero B
  | x :: l, h, hl => by
    have hx := h x (by simp)
    have hlt : ∀ y ∈ l, y < B := fun y hy => h y (by simp [hy])
    cases l with
    | nil =>
      have hx0 : x ≠ 0 := by simpa using hl
      simp only [val, Nat.mul_zero, Nat.add_zero]
      rw [limbs_pos hB (by omega), Nat.mod_eq_of_lt hx, Nat.div_eq_of_lt hx, limbs_zero]
    | cons y l =>
      have ih := limbs_val hB hlt (by simpa [List.getLast?_cons] using hl)
      have hv : 0 < val B (y :: l) := by
        rw [← limbs_length_pos hB, ih]; simp
      have hpos : 0 < x + B * val B (y :: l) := Nat.lt_of_lt_of_le (Nat.mul_pos (by omega) hv) (Nat.le_add_left _ _)
      rw [val_cons, limbs_pos hB hpos, Nat.add_mul_mod_self_left, Nat.mod_eq_of_lt hx, Nat.add_mul_div_left _ _ (by omega), Nat.div_eq_of_lt hx, Nat.zero_add, ih]

theorem limbs_length_le {B : Nat} (hB : 1 < B) {n k : Nat} (h : n < B ^ k) : (limbs B n).length ≤ k := by
  induction k generalizing n with
  | zero =>
    have : n = 0 := by simpa using h
    subst this; rw [limbs_zero]; simp
  | succ k ih =>
    by_cases hn : n = 0
    · subst hn; rw [limbs_zero]; simp
    · rw [limbs_pos hB (by omega), List.length_cons]
      have : n / B < B ^ k := by
        rw [Nat.div_lt_iff_lt_mul (by omega)]; rwa [Nat.pow_succ] at h
      have := ih this
      omega

theorem le_limbs_length {B : Nat} (hB : 1 < B) {n k : Nat} (h : B ^ k ≤ n) : k < (limbs B n).length := by
  rcases Nat.lt_or_ge k (limbs B n).length with h' | h'
  · exact h'
  · have h1 := val_lt (limbs_lt hB n)
    rw [val_limbs hB] at h1
    have := Nat.pow_le_pow_right (show 0 < B by omega) h'
    omega

theorem limbs_length_mono {B : Nat} (hB : 1 < B) {m n : Nat} (h : m ≤ n) : (limbs B m).length ≤ (limbs B n).length := by
  refine limbs_length_le hB ?_
  have h1 := val_lt (limbs_lt hB n)
  rw [val_limbs hB] at h1
  omega

/-- More limbs, a greater number. -/
theorem lt_of_length_lt {B : Nat} (hB : 1 < B) {m n : Nat} (h : (limbs B m).length < (limbs B n).length) : m < n := by
  rcases Nat.lt_or_ge m n with h' | h'
  · exact h'
  · have := limbs_length_mono hB h'
    omega

/-- A limb more at the top that is greater, the rest below whatever it is. -/
theorem val_lt_of_top {B : Nat} {l m : List Nat} {k : Nat} (hl : ∀ x ∈ l, x < B) (hk : k < l.length) (hkm : l.length = m.length)
    (heq : l.drop (k + 1) = m.drop (k + 1)) (h : l[k] < m[k]'(by omega)) : val B l < val B m := by
  rw [val_take_drop B l (k + 1) (by omega), val_take_drop B m (k + 1) (by omega), heq, val_take_succ B l k hk, val_take_succ B m k (by omega)]
  have h1 : val B (l.take k) < B ^ k := by
    have := val_lt (B := B) (l := l.take k) (fun x hx => hl x (List.mem_of_mem_take hx))
    rwa [List.length_take, Nat.min_eq_left (by omega)] at this
  have h2 : B ^ k * l[k] + B ^ k ≤ B ^ k * m[k]'(by omega) := by
    have := Nat.mul_le_mul_left (B ^ k) (Nat.succ_le_of_lt h)
    rwa [Nat.mul_succ] at this
  omega

end Go.Proofs.YthbpadjhlkdpeaaGreatDoor
/- The loops of the arithmetic on limbs, step by step, as facts on lists: sums, differences, products, quotients by one limb. No program is in sight. -/
namespace Go.Proofs.YthbpadjhlkdpeaaGreatDoor

theorem val_take_succ' (B : Nat) (l : List Nat) (k : Nat) : val B (l.take (k + 1)) = val B (l.take k) + B ^ k * l.getD k 0 := by
  rcases Nat.lt_or_ge k l.length with h | h
  · rw [val_take_succ B l k h]; simp [List.getD, h]
  · rw [List.take_of_length_le (by omega), List.take_of_length_le h]; simp [List.getD, h]

theorem getD_lt {B : Nat} (hB : 0 < B) {l : List Nat} (h : ∀ x ∈ l, x < B) (k : Nat) : l.getD k 0 < B := by
  rcases Nat.lt_or_ge k l.length with h' | h'
  · simp only [List.getD, List.getElem?_eq_getElem h', Option.getD_some]; exact h _ (List.getElem_mem h')
  · simp only [List.getD, List.getElem?_eq_none h', Option.getD_none]; exact hB

theorem mem_snoc_lt {B : Nat} {l : List Nat} {x : Nat} (h : ∀ y ∈ l, y < B) (hx : x < B) : ∀ y ∈ l ++ [x], y < B := by
  intro y hy
  rcases List.mem_append.1 hy with h' | h'
  · exact h y h'
  · simp at h'; omega

theorem mem_set_lt {B : Nat} {l : List Nat} {x j : Nat} (h : ∀ y ∈ l, y < B) (hx : x < B) : ∀ y ∈ l.set j x, y < B := by
  intro y hy
  rcases List.mem_or_eq_of_mem_set hy with h' | h'
  · exact h y h'
  · omega

theorem val_set (B : Nat) (l : List Nat) (j v : Nat) (hj : j < l.length) : val B (l.set j v) + B ^ j * l[j] = val B l + B ^ j * v := by
  induction l generalizing j with
  | nil => simp at hj
  | cons x l ih =>
    cases j with
    | zero => simp [val]; omega
    | succ j =>
      have h := ih j (by simpa using hj)
      simp only [List.set_cons_succ, val, List.getElem_cons_succ, Nat.pow_succ]
      grind

/-! ### Sums -/

/-- A sum's loop, k limbs done. -/
structure PlusInv (B : Nat) (n m : List Nat) (k : Nat) (o : List Nat) (c : Nat) : Prop where
  len : o.length = k
  lt : ∀ x ∈ o, x < B
  carry : c ≤ 1
  eq : val B o + B ^ k * c = val B (n.take k) + val B (m.take k)

theorem PlusInv.start (B : Nat) (n m : List Nat) : PlusInv B n m 0 [] 0 := ⟨rfl, by simp, by omega, by simp [val]⟩

theorem PlusInv.step {B : Nat} (hB : 1 < B) {n m : List Nat} (hn : ∀ x ∈ n, x < B) (hm : ∀ x ∈ m, x < B) {k : Nat} {o : List Nat} {c : Nat}
    (h : PlusInv B n m k o c) {x : Nat} (hx : x = n.getD k 0 + c + m.getD k 0) : PlusInv B n m (k + 1) (o ++ [x % B]) (x / B) := by
  have h1 := getD_lt (by omega) hn k
  have h2 := getD_lt (by omega) hm k
  have h3 := h.carry
  have hx2 : x < 2 * B := by omega
  refine ⟨by simp [h.len], mem_snoc_lt h.lt (Nat.mod_lt _ (by omega)), ?_, ?_⟩
  · have : x / B < 2 := Nat.div_lt_of_lt_mul (by omega)
    omega
  · rw [val_snoc, h.len, val_take_succ', val_take_succ', Nat.pow_succ]
    have h4 := h.eq
    have h5 := Nat.mod_add_div x B
    generalize x % B = r at *
    generalize x / B = q at *
    have h6 : B ^ k * r + B ^ k * B * q = B ^ k * x := by rw [← h5]; grind
    have h7 : B ^ k * x = B ^ k * n.getD k 0 + B ^ k * c + B ^ k * m.getD k 0 := by rw [hx]; grind
    omega

theorem PlusInv.done {B : Nat} {n m : List Nat} {o : List Nat} {c : Nat} (h : PlusInv B n m n.length o c) (hl : m.length ≤ n.length) :
    val B (o ++ [c]) = val B n + val B m := by
  have := h.eq
  rw [List.take_of_length_le (Nat.le_refl _), List.take_of_length_le hl] at this
  rw [val_snoc, h.len, this]

/-! ### Differences -/

structure MinusInv (B : Nat) (n m : List Nat) (k : Nat) (o : List Nat) (b : Nat) : Prop where
  len : o.length = k
  lt : ∀ x ∈ o, x < B
  borrow : b ≤ 1
  eq : val B o + val B (m.take k) = val B (n.take k) + B ^ k * b

theorem MinusInv.start (B : Nat) (n m : List Nat) : MinusInv B n m 0 [] 0 := ⟨rfl, by simp, by omega, by simp [val]⟩

theorem MinusInv.step_borrow {B : Nat} (hB : 1 < B) {n m : List Nat} (hm : ∀ x ∈ m, x < B) {k : Nat} {o : List Nat} {b : Nat}
    (h : MinusInv B n m k o b) {less : Nat} (hx : less = b + m.getD k 0) (hlt : n.getD k 0 < less) : MinusInv B n m (k + 1) (o ++ [n.getD k 0 + B - less]) 1 := by
  have h2 := getD_lt (by omega) hm k
  have h3 := h.borrow
  refine ⟨by simp [h.len], mem_snoc_lt h.lt (by omega), Nat.le_refl _, ?_⟩
  rw [val_snoc, h.len, val_take_succ', val_take_succ', Nat.pow_succ]
  have h4 := h.eq
  have h5 : n.getD k 0 + B - less + b + m.getD k 0 = n.getD k 0 + B := by omega
  generalize n.getD k 0 + B - less = r at *
  have h6 : B ^ k * r + B ^ k * b + B ^ k * m.getD k 0 = B ^ k * n.getD k 0 + B ^ k * B := by rw [← Nat.mul_add, ← Nat.mul_add, h5, Nat.mul_add]
  omega

theorem MinusInv.step_plain {B : Nat} {n m : List Nat} (hn : ∀ x ∈ n, x < B) (hB : 1 < B) {k : Nat} {o : List Nat} {b : Nat}
    (h : MinusInv B n m k o b) {less : Nat} (hx : less = b + m.getD k 0) (hlt : less ≤ n.getD k 0) : MinusInv B n m (k + 1) (o ++ [n.getD k 0 - less]) 0 := by
  have h2 := getD_lt (by omega) hn k
  refine ⟨by simp [h.len], mem_snoc_lt h.lt (by omega), by omega, ?_⟩
  rw [val_snoc, h.len, val_take_succ', val_take_succ', Nat.pow_succ]
  have h4 := h.eq
  have h5 : n.getD k 0 - less + b + m.getD k 0 = n.getD k 0 := by omega
  generalize n.getD k 0 - less = r at *
  have h6 : B ^ k * r + B ^ k * b + B ^ k * m.getD k 0 = B ^ k * n.getD k 0 := by rw [← Nat.mul_add, ← Nat.mul_add, h5]
  omega

theorem MinusInv.done {B : Nat} {n m : List Nat} {o : List Nat} {b : Nat} (h : MinusInv B n m n.length o b) (hl : m.length ≤ n.length) (hle : val B m ≤ val B n) :
    val B o = val B n - val B m := by
  have h1 := h.eq
  rw [List.take_of_length_le (Nat.le_refl _), List.take_of_length_le hl] at h1
  have h2 := val_lt h.lt
  rw [h.len] at h2
  have h3 := h.borrow
  rcases Nat.lt_or_ge 0 b with hb | hb
  · have : b = 1 := by omega
    subst this
    omega
  · have : b = 0 := by omega
    subst this
    omega

/-! ### Products -/

/-- A product's inner loop: the row of x, k limbs of m done. -/
structure TimesInv (B : Nat) (L i : Nat) (p x : Nat) (m : List Nat) (k : Nat) (o : List Nat) (c : Nat) : Prop where
  len : o.length = L
  lt : ∀ y ∈ o, y < B
  carry : c < B
  zero : ∀ j, i + m.length ≤ j → o.getD j 0 = 0
  eq : val B o + B ^ (i + k) * c = p + B ^ i * (x * val B (m.take k))

theorem TimesInv.step {B : Nat} (hB : 1 < B) {L i p x : Nat} {m : List Nat} (hm : ∀ y ∈ m, y < B) (hx : x < B) {k : Nat} {o : List Nat} {c : Nat}
    (h : TimesInv B L i p x m k o c) (hk : k < m.length) (hL : i + m.length ≤ L) {s : Nat} (hs : s = c + o.getD (i + k) 0 + x * m.getD k 0) :
    TimesInv B L i p x m (k + 1) (o.set (i + k) (s % B)) (s / B) := by
  have h1 := getD_lt (by omega) h.lt (i + k)
  have h2 := getD_lt (by omega) hm k
  have h3 := h.carry
  have hlen := h.len
  have hmul : x * m.getD k 0 ≤ (B - 1) * (B - 1) := Nat.mul_le_mul (by omega) (by omega)
  have hBB : (B - 1) * (B - 1) + 2 * (B - 1) + 1 = B * B := by
    obtain ⟨d, rfl⟩ : ∃ d, B = d + 1 := ⟨B - 1, by omega⟩
    simp only [Nat.add_sub_cancel]; grind
  have hsB : s < B * B := by omega
  refine ⟨by simp [hlen], mem_set_lt h.lt (Nat.mod_lt _ (by omega)), Nat.div_lt_of_lt_mul hsB, ?_, ?_⟩
  · intro j hj
    have := h.zero j hj
    simp only [List.getD, List.getElem?_set] at this ⊢
    rw [if_neg (by omega)]; exact this
  · have hij : i + k < o.length := by omega
    have h5 := val_set B o (i + k) (s % B) hij
    have h6 : o.getD (i + k) 0 = o[i + k] := by simp [List.getD, hij]
    rw [h6] at hs h1
    have h7 := Nat.mod_add_div s B
    have h8 := h.eq
    rw [val_take_succ', show i + (k + 1) = i + k + 1 from rfl, Nat.pow_succ]
    generalize s % B = r at *
    generalize s / B = q at *
    generalize val B (o.set (i + k) r) = V at *
    generalize val B o = W at *
    generalize o[i + k] = z at *
    generalize val B (m.take k) = M at *
    generalize m.getD k 0 = y at *
    rw [Nat.pow_add] at *
    generalize B ^ i = I at *
    generalize B ^ k = K at *
    have h9 : I * K * r + I * K * B * q = I * K * s := by rw [← h7]; grind
    have h10 : I * K * s = I * K * c + I * K * z + I * K * (x * y) := by rw [hs]; grind
    have h11 : I * (x * (M + K * y)) = I * (x * M) + I * K * (x * y) := by grind
    rw [h11]
    omega

/-- A product's outer loop: i limbs of n done. -/
structure RowsInv (B : Nat) (L : Nat) (n m : List Nat) (i : Nat) (o : List Nat) : Prop where
  len : o.length = L
  lt : ∀ y ∈ o, y < B
  zero : ∀ j, i + m.length ≤ j → o.getD j 0 = 0
  eq : val B o = val B (n.take i) * val B m

theorem RowsInv.start {B : Nat} (hB : 1 < B) (L : Nat) (n m : List Nat) : RowsInv B L n m 0 (List.replicate L 0) := by
  refine ⟨by simp, fun y hy => ?_, fun j _ => ?_, ?_⟩
  · have := (List.mem_replicate.1 hy).2; omega
  · simp only [List.getD, List.getElem?_replicate]; split <;> rfl
  · simp [val_replicate, val]

theorem RowsInv.inner {B : Nat} (hB : 1 < B) {L : Nat} {n m : List Nat} {i : Nat} {o : List Nat} (h : RowsInv B L n m i o) (x : Nat) :
    TimesInv B L i (val B (n.take i) * val B m) x m 0 o 0 :=
  ⟨h.len, h.lt, by omega, h.zero, by simp [h.eq, val]⟩

theorem RowsInv.step {B : Nat} {L : Nat} {n m : List Nat} {i x : Nat} {o : List Nat} {c : Nat} (hL : i + m.length < L) (hx : x = n.getD i 0)
    (h : TimesInv B L i (val B (n.take i) * val B m) x m m.length o c) : RowsInv B L n m (i + 1) (o.set (i + m.length) c) := by
  have hlen := h.len
  refine ⟨by simp [hlen], mem_set_lt h.lt h.carry, ?_, ?_⟩
  · intro j hj
    have := h.zero j (by omega)
    simp only [List.getD, List.getElem?_set] at this ⊢
    rw [if_neg (by omega)]; exact this
  · have h1 := val_set B o (i + m.length) c (by omega)
    have h2 := h.zero (i + m.length) (Nat.le_refl _)
    have h3 : o[i + m.length]'(by omega) = 0 := by
      simpa [List.getD, List.getElem?_eq_getElem (show i + m.length < o.length by omega)] using h2
    rw [h3] at h1
    have h4 := h.eq
    rw [List.take_of_length_le (Nat.le_refl m.length)] at h4
    rw [val_take_succ', ← hx]
    have h5 : (val B (n.take i) + B ^ i * x) * val B m = val B (n.take i) * val B m + B ^ i * (x * val B m) := by grind
    rw [h5]
    omega

theorem RowsInv.done {B : Nat} {L : Nat} {n m : List Nat} {o : List Nat} (h : RowsInv B L n m n.length o) : val B o = val B n * val B m := by
  have := h.eq
  rwa [List.take_of_length_le (Nat.le_refl _)] at this

/-! ### Quotients by one limb -/

/-- A short division's loop: the limbs from k on are done. -/
structure ShortInv (B : Nat) (n : List Nat) (d : Nat) (k : Nat) (o : List Nat) (r : Nat) : Prop where
  len : o.length = n.length
  lt : ∀ y ∈ o, y < B
  rest : r < d
  eq : val B (n.drop k) = val B (o.drop k) * d + r

theorem ShortInv.start {B : Nat} (hB : 1 < B) (n : List Nat) {d : Nat} (hd : 0 < d) : ShortInv B n d n.length (List.replicate n.length 0) 0 := by
  refine ⟨by simp, fun y hy => ?_, hd, by simp [val]⟩
  have := (List.mem_replicate.1 hy).2; omega

theorem ShortInv.step {B : Nat} {n : List Nat} (hn : ∀ y ∈ n, y < B) {d k : Nat} {o : List Nat} {r : Nat} (h : ShortInv B n d (k + 1) o r) (hk : k < n.length) {s : Nat} (hs : s = r * B + n.getD k 0) :
    ShortInv B n d k (o.set k (s / d)) (s % d) := by
  have hlen := h.len
  have h1 := h.rest
  have h2 : n.getD k 0 < B := by simp only [List.getD, List.getElem?_eq_getElem hk, Option.getD_some]; exact hn _ (List.getElem_mem hk)
  have hq : s / d < B := by
    refine Nat.div_lt_of_lt_mul ?_
    have : (r + 1) * B ≤ d * B := Nat.mul_le_mul_right _ (by omega)
    rw [Nat.add_mul] at this
    omega
  refine ⟨by simp [hlen], mem_set_lt h.lt hq, Nat.mod_lt _ (by omega), ?_⟩
  have hk' : k < (o.set k (s / d)).length := by simp; omega
  rw [val_drop B n k hk, val_drop B _ k hk', h.eq]
  have h3 : (o.set k (s / d)).drop (k + 1) = o.drop (k + 1) := by
    rw [List.drop_set, if_pos (by omega)]
  have h4 : (o.set k (s / d))[k] = s / d := by simp
  rw [h3, h4]
  have h5 : n.getD k 0 = n[k] := by simp [List.getD, hk]
  rw [h5] at hs
  have h6 := Nat.mod_add_div s d
  generalize s % d = q at *
  generalize s / d = t at *
  generalize val B (o.drop (k + 1)) = V at *
  have h7 : n[k] + B * (V * d + r) = s + B * (V * d) := by rw [hs]; grind
  rw [h7, ← h6]
  grind

theorem ShortInv.done {B : Nat} {n : List Nat} {d : Nat} {o : List Nat} {r : Nat} (h : ShortInv B n d 0 o r) : val B o = val B n / d ∧ r = val B n % d := by
  have h1 := h.eq
  have h2 := h.rest
  simp only [List.drop_zero] at h1
  constructor
  · rw [h1, Nat.mul_comm, Nat.mul_add_div (by omega), Nat.div_eq_of_lt h2]; rfl
  · rw [h1, Nat.mul_comm, Nat.mul_add_mod, Nat.mod_eq_of_lt h2]

end Go.Proofs.YthbpadjhlkdpeaaGreatDoor
/- What a slice of integers holds, as a list of numbers; how that stays. The words that all walks of this seat use. -/
namespace Go.Proofs.YthbpadjhlkdpeaaGreatDoor
open Go.RowKit

theorem ret_int {k : IntKind} {a b : Int} (h : a = b) : Ending.returned (.int k a) = .returned (.int k b) := by rw [h]

/-- The i-th number of a list (0 where there is none), under a name that nothing opens by itself. -/
def lim (xs : List Nat) (i : Nat) : Nat := xs.getD i 0

/-- The numbers at an address: xs, as integers of kind k. -/
def At (k : IntKind) (w : World) (b off : Nat) (xs : List Nat) : Prop := ∀ j (h : j < xs.length), w.cell? ⟨b, off + j, none⟩ = some (.int k (xs[j] : Nat))

theorem At.below {k : IntKind} {B : Nat} {w w' : World} {b off : Nat} {xs : List Nat} (h : At k w b off xs) (hb : Below B w w') (hB : b < B) : At k w' b off xs :=
  fun j hj => (hb.cell (p := ⟨b, off + j, none⟩) hB).trans (h j hj)
theorem At.getD {k : IntKind} {w : World} {b off : Nat} {xs : List Nat} (h : At k w b off xs) {j x : Nat} (hj : j < xs.length) (hx : xs.getD j 0 = x) : w.cell? ⟨b, off + j, none⟩ = some (.int k (x : Nat)) := by
  rw [h j hj]; subst hx; simp [List.getD, hj]

/-- The slice value v holds just the numbers xs, as integers of kind k. -/
def Nums (k : IntKind) (w : World) (v : Value) (xs : List Nat) : Prop :=
  ∃ p cap, v = .slice p xs.length cap ∧ xs.length ≤ cap ∧ cap ≤ maxLen ∧ (xs ≠ [] → ∃ b off, p = some ⟨b, off, none⟩ ∧ b < w.heap.size ∧ At k w b off xs)

theorem Nums.below {k : IntKind} {B : Nat} {w w' : World} {v : Value} {xs : List Nat} (h : Nums k w v xs) (hb : Below B w w') (hB : w.heap.size ≤ B) : Nums k w' v xs := by
  obtain ⟨p, cap, h1, h2, h3, h4⟩ := h
  refine ⟨p, cap, h1, h2, h3, fun hne => ?_⟩
  obtain ⟨b, off, h5, h6, h7⟩ := h4 hne
  exact ⟨b, off, h5, Nat.lt_of_lt_of_le h6 hb.size, h7.below hb (by omega)⟩

theorem Nums.nil (k : IntKind) (w : World) : Nums k w (.slice none 0 0) [] := ⟨none, 0, rfl, Nat.le_refl _, by simp [maxLen], by simp⟩

/-- A row of numbers that the call has made itself: the slice at the head of block g, with room for cap. -/
def Row (k : IntKind) (E : TypeId) (w : World) (B g cap : Nat) (xs : List Nat) : Prop :=
  w.ownsRow B E 1 (.slice (some ⟨g, 0, none⟩) xs.length cap) xs.length (xs.map fun x => Value.int k (x : Nat))

section
variable {k : IntKind} {E : TypeId} {w : World} {B g cap : Nat} {xs : List Nat}
theorem Row.cell (h : Row k E w B g cap xs) {j x : Nat} (hj : j < xs.length) (hx : xs.getD j 0 = x) : w.cell? ⟨g, j, none⟩ = some (.int k (x : Nat)) := by
  have := World.ownsRow.cellAt h j (by omega)
  rw [this]; subst hx; simp [List.getD, hj]
theorem Row.at (h : Row k E w B g cap xs) : At k w g 0 xs := fun j hj => by
  rw [Nat.zero_add]; exact h.cell hj (by simp [List.getD, hj])
theorem Row.frozen (h : Row k E w B g cap xs) (j : Nat) : w.frozen? ⟨g, j, none⟩ = false := World.ownsRow.frozenAt h j
theorem Row.lt (h : Row k E w B g cap xs) : B ≤ g ∧ g < w.heap.size := World.ownsRow.lt h g (by simp [Value.ownBlock])
theorem Row.cap_le (h : Row k E w B g cap xs) : xs.length ≤ cap ∧ cap ≤ maxLen := by
  rcases h.2 with ⟨h', _⟩ | ⟨g', cap', cur, h', _, _, h5, h6, _⟩
  · simp at h'
  · simp only [Value.slice.injEq, Option.some.injEq, Addr.mk.injEq, and_true, true_and] at h'
    obtain ⟨rfl, rfl⟩ := h'
    exact ⟨h5, h6⟩
theorem Row.set (h : Row k E w B g cap xs) (j v : Nat) : Row k E (w.setCell ⟨g, j, none⟩ (.int k (v : Nat))) B g cap (xs.set j v) := by
  have := (World.ownsRow.stored h j (.int k (v : Nat))).1
  unfold Row
  rw [List.length_set, List.map_set]
  exact this
theorem Row.kept {w' : World} (h : Row k E w B g cap xs) (hb : w'.heap[g]? = w.heap[g]?) : Row k E w' B g cap xs := by
  obtain ⟨h1, h2⟩ := h
  refine ⟨h1, ?_⟩
  rcases h2 with ⟨h', _⟩ | ⟨g', cap', cur, h', h3, h4, h5⟩
  · simp at h'
  · simp only [Value.slice.injEq, Option.some.injEq, Addr.mk.injEq, and_true, true_and] at h'
    obtain ⟨rfl, rfl⟩ := h'
    exact .inr ⟨g, cap, cur, rfl, h3, by rw [hb]; exact h4, h5⟩
theorem Row.below {w' : World} {C : Nat} (h : Row k E w B g cap xs) (hb : Below C w w') (hC : g < C) : Row k E w' B g cap xs := h.kept (hb.block g hC)
theorem Row.alloc (h : Row k E w B g cap xs) (o : Obj) : Row k E (w.alloc o) B g cap xs := World.ownsRow.alloc h o
theorem Row.drew (h : Row k E w B g cap xs) : Row k E w.drew B g cap xs := h
theorem Row.setOther (h : Row k E w B g cap xs) {a : Addr} (ha : a.block ≠ g) (v : Value) : Row k E (w.setCell a v) B g cap xs := h.kept (Below.heap_setCell w a v g (Ne.symm ha))
theorem Row.grown {w' : World} {row : Option Nat} (h : Row k E w B g cap xs) (hg : w.grownBy w' row) (hr : row ≠ some g) : Row k E w' B g cap xs := h.kept (hg.block g h.lt.2 (Ne.symm hr))
theorem Row.nums (h : Row k E w B g cap xs) : Nums k w (.slice (some ⟨g, 0, none⟩) xs.length cap) xs :=
  ⟨_, cap, rfl, h.cap_le.1, h.cap_le.2, fun _ => ⟨g, 0, rfl, h.lt.2, h.at⟩⟩
/-- The first of the numbers. -/
theorem Row.take (h : Row k E w B g cap xs) (n : Nat) : Row k E w B g cap (xs.take n) := by
  obtain ⟨h1, h2⟩ := h
  rcases h2 with ⟨h', _⟩ | ⟨g', cap', cur, h', h3, h4, h5, h6, h7, h8⟩
  · simp at h'
  · simp only [Value.slice.injEq, Option.some.injEq, Addr.mk.injEq, and_true, true_and] at h'
    obtain ⟨rfl, rfl⟩ := h'
    refine ⟨by simp, .inr ⟨g, cap, cur, rfl, h3, h4, ?_, h6, h7, ?_⟩⟩
    · rw [List.length_take]; omega
    · rw [List.map_take, ← h8, List.take_take, List.length_take]
      congr 1; omega
end

theorem Row.own {k : IntKind} {E : TypeId} {w : World} {B g cap n : Nat} {xs : List Nat} (h : Row k E w B g cap xs) (hn : xs.length = n) :
    w.ownsRow B E 1 (.slice (some ⟨g, 0, none⟩) n cap) n (xs.map fun x => Value.int k (x : Nat)) := by subst hn; exact h
theorem Row.made {k : IntKind} {E : TypeId} {w : World} {B g cap : Nat} (h : w.ownsRow B E 1 (.slice (some ⟨g, 0, none⟩) 0 cap) 0 []) : Row k E w B g cap [] := h
theorem Row.full {k : IntKind} {E : TypeId} {w : World} {B g n : Nat} (h : w.ownsRow B E 1 (.slice (some ⟨g, 0, none⟩) n n) n (madeCells #[Value.int k 0] n).toList) : Row k E w B g n (List.replicate n 0) := by
  unfold Row
  have e : (madeCells #[Value.int k 0] n).toList = (List.replicate n 0).map fun x : Nat => Value.int k (x : Nat) := by
    have := toList_madeCells_one (Value.int k 0) n
    rw [List.map_replicate]; exact this
  rw [← e, List.length_replicate]
  exact h
theorem Row.snoc {k : IntKind} {E : TypeId} {w : World} {B g cap n x : Nat} {xs : List Nat} {y : Int} (hn : n = xs.length) (hy : y = (x : Nat))
    (h : w.ownsRow B E 1 (.slice (some ⟨g, 0, none⟩) (n + 1) cap) (n + 1) ((xs.map fun x => Value.int k (x : Nat)) ++ [.int k y])) : Row k E w B g cap (xs ++ [x]) := by
  subst hn; subst hy
  unfold Row
  rw [List.length_append, List.map_append]
  exact h

theorem info_u64 : (Tryz.prog.info? 113).map (fun i => (i.zero, i.size, i.bytes)) = some (some (.int .u64 0), 1, 8) := by kernel_rfl

end Go.Proofs.YthbpadjhlkdpeaaGreatDoor
/- weight's number.trim: zeros at the end are left out. -/
namespace Go.Proofs.YthbpadjhlkdpeaaGreatDoor
open Go.RowKit

/-- A slice's length: for a loop's measure. -/
def lenV : Value → Nat
  | .slice _ n _ => n
  | _ => 0

theorem val_take_zero {B : Nat} {l : List Nat} {k : Nat} (hk : k < l.length) (h : l[k] = 0) : val B (l.take (k + 1)) = val B (l.take k) := by
  rw [val_take_succ B l k hk, h]; simp

theorem limbs_take {B : Nat} (hB : 1 < B) {l : List Nat} (hl : ∀ x ∈ l, x < B) {k : Nat} (hk : k < l.length) (h : l[k] ≠ 0) : limbs B (val B (l.take (k + 1))) = l.take (k + 1) := by
  refine limbs_val hB (fun x hx => hl x (List.mem_of_mem_take hx)) ?_
  rw [List.take_succ_eq_append_getElem hk, List.getLast?_append]
  simpa using h


theorem limbs_prefix {B : Nat} (hB : 1 < B) : ∀ {l : List Nat}, (∀ x ∈ l, x < B) → limbs B (val B l) = l.take (limbs B (val B l)).length := by
  intro l hl
  induction h : l.length generalizing l with
  | zero =>
    have : l = [] := List.eq_nil_of_length_eq_zero h
    subst this; simp [val, limbs_zero]
  | succ n ih =>
    have hn : n < l.length := by omega
    by_cases hz : l[n] = 0
    · have h1 : val B l = val B (l.take n) := by
        rw [← val_take_zero hn hz, List.take_of_length_le (by omega)]
      have h2 := ih (l := l.take n) (fun x hx => hl x (List.mem_of_mem_take hx)) (by rw [List.length_take]; omega)
      rw [h1]
      rw [List.take_take] at h2
      have h3 : (limbs B (val B (l.take n))).length ≤ n := by
        have := congrArg List.length h2
        rw [List.length_take] at this
        omega
      rw [Nat.min_eq_left h3] at h2
      exact h2
    · have h1 := limbs_take hB hl hn hz
      rw [List.take_of_length_le (by omega)] at h1
      rw [h1, List.take_of_length_le (Nat.le_refl _)]

theorem limbs_val_le {B : Nat} (hB : 1 < B) {l : List Nat} (hl : ∀ x ∈ l, x < B) : (limbs B (val B l)).length ≤ l.length := by
  have := congrArg List.length (limbs_prefix hB hl)
  rw [List.length_take] at this
  omega

set_option maxHeartbeats 1000000 in
/-- The slice is cut behind the last limb that is not 0; nothing else happens. -/
theorem trim_calls (p : Option Addr) (cap : Nat) (xs : List Nat) (w : World) (hlc : xs.length ≤ cap) (hcap : cap ≤ maxLen) (hlt : ∀ x ∈ xs, x < 1000000000)
    (hp : xs ≠ [] → ∃ b off, p = some ⟨b, off, none⟩ ∧ At .u64 w b off xs) :
    Calls Tryz.prog 120 #[.slice p xs.length cap] w fun e w' =>
      w = w' ∧ e = .returned (.slice p (limbs 1000000000 (val 1000000000 xs)).length cap) := by
  unfold maxLen at hcap
  have HP := Lib.hid hp
  clear hp
  go_enter Tryz.func120, Tryz.ntmps120
  go_wp2
  go_loop [0] (fun v => ∃ k : Nat, k ≤ xs.length ∧ v = .slice p k cap ∧ Hid (val 1000000000 xs = val 1000000000 (xs.take k))) (fun v => lenV v)
  case atStart => exact ⟨xs.length, Nat.le_refl _, rfl, by rw [List.take_of_length_le (Nat.le_refl _)]; rfl⟩
  case round =>
    obtain ⟨k, hk, rfl, HV⟩ := hrel
    rcases Nat.eq_zero_or_pos k with h0 | h0
    · subst h0
      go_wp2
      go_ret
      exact ⟨rfl, by rw [HV.out]; simp [val, limbs_zero]⟩
    · obtain ⟨j, rfl⟩ : ∃ j, k = j + 1 := ⟨k - 1, by omega⟩
      have hj : j < xs.length := by omega
      obtain ⟨b, off, rfl, hc⟩ := HP.out (List.ne_nil_of_length_pos (by omega))
      have hcj : w.cell? ⟨b, off + j, none⟩ = some (.int .u64 (xs[j] : Nat)) := hc j hj
      clear hc
      by_cases hz : xs[j] = 0
      · have hz' : ((xs[j] : Nat) : Int) = 0 := by rw [hz]; rfl
        rw [hz'] at hcj
        have HZ := Lib.hid hz
        clear hz hz'
        go_wp2
        go_round
        case rel => exact ⟨j, by omega, by simp, by rw [HV.out, val_take_zero hj HZ.out]; rfl⟩
        case measure => simp [lenV]
      · have hz' : (((xs[j] : Nat) : Int) == 0) = false := by simpa using hz
        have HZ := Lib.hid hz
        clear hz
        go_wp2
        go_ret
        exact ⟨rfl, by rw [HV.out, limbs_take (by omega) hlt hj HZ.out]; simp; omega⟩

/-- On a row of the call's own. -/
theorem trim_row {E : TypeId} {B g cap : Nat} {xs : List Nat} {w : World} (h : Row .u64 E w B g cap xs) (hlt : ∀ x ∈ xs, x < 1000000000) (n : Nat) (hn : n = xs.length) (m : Nat) (hm : val 1000000000 xs = m) :
    Calls Tryz.prog 120 #[.slice (some ⟨g, 0, none⟩) n cap] w fun e w' =>
      w = w' ∧ e = .returned (.slice (some ⟨g, 0, none⟩) (limbs 1000000000 m).length cap) ∧ Row .u64 E w' B g cap (limbs 1000000000 m) := by
  subst hn; subst hm
  refine (trim_calls (some ⟨g, 0, none⟩) cap xs w h.cap_le.1 h.cap_le.2 hlt (fun _ => ⟨g, 0, rfl, h.at⟩)).mono ?_
  rintro e w' ⟨rfl, rfl⟩
  refine ⟨rfl, rfl, ?_⟩
  have := h.take (limbs 1000000000 (val 1000000000 xs)).length
  rwa [← limbs_prefix (by omega) hlt] at this
end Go.Proofs.YthbpadjhlkdpeaaGreatDoor
/- weight's number.plus: the sum of two numbers, in memory of its own. -/
namespace Go.Proofs.YthbpadjhlkdpeaaGreatDoor
open Go.RowKit

/-- The slice value v holds the limbs of n. -/
def Num (w : World) (v : Value) (n : Nat) : Prop := Nums .u64 w v (limbs 1000000000 n)

/-- A new number: a row of the call's own. -/
def NewNum (B : Nat) (w : World) (v : Value) (n : Nat) : Prop := ∃ g cap, v = .slice (some ⟨g, 0, none⟩) (limbs 1000000000 n).length cap ∧ Row .u64 113 w B g cap (limbs 1000000000 n)

theorem NewNum.num {B : Nat} {w : World} {v : Value} {n : Nat} (h : NewNum B w v n) : Num w v n := by
  obtain ⟨g, cap, rfl, hr⟩ := h
  exact hr.nums

set_option maxRecDepth 100000 in
set_option maxHeartbeats 2000000 in
theorem plus_loop (p1 p2 q1 q2 : Option Addr) (c1 c2 d1 d2 : Nat) (xs ys : List Nat) (l1 l2 : Nat) (w : World)
    (hsw : (l1 = xs.length ∧ l2 = ys.length ∧ q1 = p1 ∧ q2 = p2 ∧ d1 = c1 ∧ d2 = c2) ∨ (l2 = xs.length ∧ l1 = ys.length ∧ l1 < l2 ∧ q2 = p1 ∧ q1 = p2 ∧ d2 = c1 ∧ d1 = c2))
    (hle : ys.length ≤ xs.length) (hx : ∀ x ∈ xs, x < 1000000000) (hy : ∀ x ∈ ys, x < 1000000000) (hl : xs.length ≤ 1000000)
    (hp1 : xs ≠ [] → ∃ b off, p1 = some ⟨b, off, none⟩ ∧ b < w.heap.size ∧ At .u64 w b off xs) (hp2 : ys ≠ [] → ∃ b off, p2 = some ⟨b, off, none⟩ ∧ b < w.heap.size ∧ At .u64 w b off ys) :
    Calls Tryz.prog 89 #[.slice q1 l1 d1, .slice q2 l2 d2] w fun e w' =>
      ∃ v, e = .returned v ∧ NewNum w.heap.size w' v (val 1000000000 xs + val 1000000000 ys) ∧ Below w.heap.size w w' := by
  obtain ⟨i0, hi, hz0, hz1, hz2⟩ := info_parts info_u64
  have HX := Lib.hid hx
  have HY := Lib.hid hy
  have HP1 := Lib.hid hp1
  have HP2 := Lib.hid hp2
  clear hx hy hp1 hp2
  have hs : (l1 = xs.length ∧ l2 = ys.length ∧ q1 = p1 ∧ q2 = p2 ∧ d1 = c1 ∧ d2 = c2 ∧ ¬ l1 < l2) ∨ (l2 = xs.length ∧ l1 = ys.length ∧ l1 < l2 ∧ q2 = p1 ∧ q1 = p2 ∧ d2 = c1 ∧ d1 = c2) := by
    rcases hsw with ⟨h1, h2, h3⟩ | h
    · exact .inl ⟨h1, h2, h3.1, h3.2.1, h3.2.2.1, h3.2.2.2, by omega⟩
    · exact .inr h
  clear hsw
  rcases hs with ⟨rfl, rfl, rfl, rfl, rfl, rfl, hn⟩ | ⟨rfl, rfl, hn, rfl, rfl, rfl, rfl⟩
  all_goals
    go_enter Tryz.func89, Tryz.ntmps89
    go_wp2_with (at_make; refine wpList_make_own _ rfl _ _ 92 rfl w.heap.size 113 i0 (.int .u64 0) 1 Tryz.underlying92 hi hz0 hz1 _ _ _ (xs.length + 1) rfl rfl (by omega) ?b2 ?b3 (Nat.le_refl _) ?_)
    case b2 => rw [hz2]; omega
    case b3 => unfold maxLen; omega
    intro w0 hown0 hgrow0
    have HB0 := Lib.hid ((Below.refl w.heap.size w).grown hgrow0 (Nat.le_refl _) (fun k h => by cases h))
    have HR0 := Lib.hid (Row.made (k := .u64) hown0)
    clear hgrow0 hown0
    go_wp2
    go_loopw [5, 6, 22] (fun o c i wr => ∃ (k : Nat) (out : List Nat) (cr : Nat), k ≤ xs.length ∧ i = .int .i64 k ∧ o = .slice (some ⟨w.heap.size, 0, none⟩) k (xs.length + 1) ∧ c = .int .u64 cr ∧
        Hid (Row .u64 113 wr w.heap.size w.heap.size (xs.length + 1) out) ∧ Hid (PlusInv 1000000000 xs ys k out cr) ∧ Hid (Below w.heap.size w wr)) (fun _ _ i _ => xs.length - (intOf i).toNat)
    case atStart => exact ⟨0, [], 0, Nat.zero_le _, rfl, rfl, rfl, HR0, PlusInv.start _ _ _, HB0⟩
    case round =>
      obtain ⟨k, out, cr, hk, rfl, rfl, rfl, HR, HI, HB⟩ := hrel
      have hcr : cr ≤ 1 := HI.out.carry
      by_cases hlt : k < xs.length
      · obtain ⟨b1, off1, rfl, hb1, ha1⟩ := HP1.out (List.ne_nil_of_length_pos (by omega))
        obtain ⟨x, hx⟩ : ∃ x, xs.getD k 0 = x := ⟨_, rfl⟩
        have hxl : x < 1000000000 := by rw [← hx]; exact getD_lt (by omega) HX.out k
        have cx : wr.cell? ⟨b1, off1 + k, none⟩ = some (.int .u64 (x : Nat)) := (HB.out.cell (p := ⟨b1, off1 + k, none⟩) hb1).trans (ha1.getD hlt hx)
        have Hx := Lib.hid hx
        clear hx ha1
        by_cases hlt2 : k < ys.length
        · obtain ⟨b2, off2, rfl, hb2, ha2⟩ := HP2.out (List.ne_nil_of_length_pos (by omega))
          obtain ⟨y, hy⟩ : ∃ y, ys.getD k 0 = y := ⟨_, rfl⟩
          have hyl : y < 1000000000 := by rw [← hy]; exact getD_lt (by omega) HY.out k
          have cy : wr.cell? ⟨b2, off2 + k, none⟩ = some (.int .u64 (y : Nat)) := (HB.out.cell (p := ⟨b2, off2 + k, none⟩) hb2).trans (ha2.getD hlt2 hy)
          have Hy := Lib.hid hy
          clear hy ha2
          have e1 : ((x : Int) + cr + y) % 1000000000 = ((x + cr + y) % 1000000000 : Nat) := by omega
          have e2 : ((x : Int) + cr + y) / 1000000000 = ((x + cr + y) / 1000000000 : Nat) := by omega
          have E1 := Lib.hid e1
          have E2 := Lib.hid e2
          clear e1 e2
          have HS : Hid (PlusInv 1000000000 xs ys (k + 1) (out ++ [(x + cr + y) % 1000000000]) ((x + cr + y) / 1000000000)) :=
            HI.out.step (by omega) HX.out HY.out (by rw [Hx.out, Hy.out])
          have hown := HR.out.own HI.out.len
          go_wp2_with (at_builtin; refine wpList_append_fits _ rfl (.tmp 40) (.tmp 43) 92 rfl w.heap.size 113 i0 1 Tryz.underlying92 hi hz1 w.heap.size k (xs.length + 1) _ rfl (hown.alloc _) ⟨wr.heap.size, 0, none⟩ 1 1 [.int .u64 (((x : Int) + cr + y) % 1000000000)] rfl rfl (cell_one_new _ _ _) (by simp [Value.oneCell']) (by omega) ?_; intro w1 hown1 hgrow1)
          have HR1 := Lib.hid (Row.snoc HI.out.len.symm E1.out hown1)
          have HB1 := Lib.hid ((HB.out.alloc HB.out.size _).grown hgrow1 (by have := HB.out.size; simp; omega) (fun k h => by cases h; exact Nat.le_refl _))
          clear hown1 hgrow1
          go_roundw
          case rel => exact ⟨k + 1, _, _, by omega, by go_num, rfl, by rw [E2.out], HR1, HS, HB1⟩
          case measure => simp [intOf]; omega
        · have e1 : ((x : Int) + cr) % 1000000000 = ((x + cr) % 1000000000 : Nat) := by omega
          have e2 : ((x : Int) + cr) / 1000000000 = ((x + cr) / 1000000000 : Nat) := by omega
          have E1 := Lib.hid e1
          have E2 := Lib.hid e2
          clear e1 e2
          have HS : Hid (PlusInv 1000000000 xs ys (k + 1) (out ++ [(x + cr) % 1000000000]) ((x + cr) / 1000000000)) :=
            HI.out.step (by omega) HX.out HY.out (by rw [Hx.out]; simp [List.getD, hlt2])
          have hown := HR.out.own HI.out.len
          go_wp2_with (at_builtin; refine wpList_append_fits _ rfl (.tmp 40) (.tmp 43) 92 rfl w.heap.size 113 i0 1 Tryz.underlying92 hi hz1 w.heap.size k (xs.length + 1) _ rfl (hown.alloc _) ⟨wr.heap.size, 0, none⟩ 1 1 [.int .u64 (((x : Int) + cr) % 1000000000)] rfl rfl (cell_one_new _ _ _) (by simp [Value.oneCell']) (by omega) ?_; intro w1 hown1 hgrow1)
          have HR1 := Lib.hid (Row.snoc HI.out.len.symm E1.out hown1)
          have HB1 := Lib.hid ((HB.out.alloc HB.out.size _).grown hgrow1 (by have := HB.out.size; simp; omega) (fun k h => by cases h; exact Nat.le_refl _))
          clear hown1 hgrow1
          go_roundw
          case rel => exact ⟨k + 1, _, _, by omega, by go_num, rfl, by rw [E2.out], HR1, HS, HB1⟩
          case measure => simp [intOf]; omega
      · obtain rfl : k = xs.length := by omega
        have hown := HR.out.own HI.out.len
        have HV := Lib.hid (HI.out.done hle)
        have HL : Hid (∀ z ∈ out ++ [cr], z < 1000000000) := mem_snoc_lt HI.out.lt (by omega)
        have HN := Lib.hid HI.out.len
        go_wp2_with (at_builtin; refine wpList_append_fits _ rfl (.tmp 48) (.tmp 50) 92 rfl w.heap.size 113 i0 1 Tryz.underlying92 hi hz1 w.heap.size xs.length (xs.length + 1) _ rfl (hown.alloc _) ⟨wr.heap.size, 0, none⟩ 1 1 [.int .u64 cr] rfl rfl (cell_one_new _ _ _) (by simp [Value.oneCell']) (by omega) ?_; intro w1 hown1 hgrow1)
        have hr1 := Row.snoc HN.out.symm rfl hown1
        have HB1 := Lib.hid ((HB.out.alloc HB.out.size _).grown hgrow1 (by have := HB.out.size; simp; omega) (fun k h => by cases h; exact Nat.le_refl _))
        clear hown1 hgrow1
        refine (trim_row hr1 HL.out _ (by simp [HN.out]) _ HV.out).mono ?_
        rintro e w' ⟨rfl, rfl, hr2⟩
        have HR2 := Lib.hid hr2
        clear hr1 hr2
        go_wp2
        go_ret
        exact ⟨_, rfl, ⟨_, _, rfl, HR2.out⟩, HB1.out⟩

/-- n.plus(m). -/
theorem plus_any {v1 v2 : Value} {n m : Nat} {w : World} (h1 : Num w v1 n) (h2 : Num w v2 m) (hl1 : (limbs 1000000000 n).length ≤ 1000000) (hl2 : (limbs 1000000000 m).length ≤ 1000000) :
    Calls Tryz.prog 89 #[v1, v2] w fun e w' => ∃ v, e = .returned v ∧ NewNum w.heap.size w' v (n + m) ∧ Below w.heap.size w w' := by
  obtain ⟨p1, c1, rfl, _, _, hp1⟩ := h1
  obtain ⟨p2, c2, rfl, _, _, hp2⟩ := h2
  have e1 := val_limbs (B := 1000000000) (by omega) n
  have e2 := val_limbs (B := 1000000000) (by omega) m
  rcases Nat.lt_or_ge (limbs 1000000000 n).length (limbs 1000000000 m).length with h | h
  · have := plus_loop p2 p1 p1 p2 c2 c1 c1 c2 _ _ _ _ w (.inr ⟨rfl, rfl, h, rfl, rfl, rfl, rfl⟩) (Nat.le_of_lt h) (limbs_lt (by omega) m) (limbs_lt (by omega) n) hl2 hp2 hp1
    rw [e1, e2, Nat.add_comm m n] at this
    exact this
  · have := plus_loop p1 p2 p1 p2 c1 c2 c1 c2 _ _ _ _ w (.inl ⟨rfl, rfl, rfl, rfl, rfl, rfl⟩) h (limbs_lt (by omega) n) (limbs_lt (by omega) m) hl1 hp1 hp2
    rw [e1, e2] at this
    exact this
end Go.Proofs.YthbpadjhlkdpeaaGreatDoor
