/- The parts RNum, RTrim, RAppend, RParts, ROrder, RPlus, RMinus, RTimes, ROver, RDigits, RNat of a proof, put together by program (merge.py). -/
import Derived.Test.YthbpadjhlkdpeaaGreatDoorG02
import Derived.Test.YthbpadjhlkdpeaaGreatDoorG01
import Derived.Laws.AppendOwnNone
import Derived.Test.YthbpadjhlkdpeaaGreatDoorG03
import Derived.Test.YthbpadjhlkdpeaaGreatDoorG07
/- The document's numbers: parts of four digits, and the strings of digits. No program is in sight. -/
namespace Go.Proofs.YthbpadjhlkdpeaaGreatDoor

/-! ### The parts of a string of digits -/
/-- What is left of the digits when k parts were taken. -/
def hleft (l : List UInt8) (k : Nat) : List UInt8 := l.take (l.length - 4 * k)
/-- The k-th part. -/
def hval (l : List UInt8) (k : Nat) : Nat := decVal ((hleft l k).drop (l.length - 4 * k - 4))
def hcount (l : List UInt8) : Nat := (l.length + 3) / 4

theorem hleft_length (l : List UInt8) (k : Nat) : (hleft l k).length = l.length - 4 * k := by unfold hleft; rw [List.length_take]; omega
theorem hleft_zero (l : List UInt8) : hleft l 0 = l := by unfold hleft; exact List.take_of_length_le (by omega)
theorem hleft_succ (l : List UInt8) (k : Nat) : hleft l (k + 1) = (hleft l k).take (l.length - 4 * k - 4) := by
  unfold hleft
  rw [List.take_take]
  congr 1
  omega
theorem hval_lt {l : List UInt8} (h : ∀ c ∈ l, isDig c = true) (k : Nat) : hval l k < 10000 := by
  have h1 := decVal_lt (s := (hleft l k).drop (l.length - 4 * k - 4)) fun c hc => h c (List.mem_of_mem_take (List.mem_of_mem_drop hc))
  have h2 : ((hleft l k).drop (l.length - 4 * k - 4)).length ≤ 4 := by rw [List.length_drop, hleft_length]; omega
  have h3 : 10 ^ ((hleft l k).drop (l.length - 4 * k - 4)).length ≤ 10 ^ 4 := Nat.pow_le_pow_right (by omega) h2
  unfold hval
  omega
theorem hval_step (l : List UInt8) (k : Nat) : decVal (hleft l k) = hval l k + 10000 * decVal (hleft l (k + 1)) := by
  have h1 := decVal_append ((hleft l k).take (l.length - 4 * k - 4)) ((hleft l k).drop (l.length - 4 * k - 4))
  rw [List.take_append_drop, ← hleft_succ] at h1
  rw [h1]
  unfold hval
  rcases Nat.lt_or_ge (l.length - 4 * k) 4 with h2 | h2
  · have h3 : hleft l (k + 1) = [] := List.eq_nil_of_length_eq_zero (by rw [hleft_length]; omega)
    rw [h3, decVal_nil]; omega
  · have h3 : ((hleft l k).drop (l.length - 4 * k - 4)).length = 4 := by rw [List.length_drop, hleft_length]; omega
    rw [h3]; omega
theorem val_parts (l : List UInt8) (k : Nat) : val 10000 ((List.range k).map (hval l)) + 10000 ^ k * decVal (hleft l k) = decVal l := by
  induction k with
  | zero => simp [val, hleft_zero]
  | succ k ih =>
    rw [List.range_succ, List.map_append, List.map_cons, List.map_nil, val_snoc, Nat.pow_succ]
    simp only [List.length_map, List.length_range]
    rw [hval_step] at ih
    grind
theorem val_parts_all (l : List UInt8) : val 10000 ((List.range (hcount l)).map (hval l)) = decVal l := by
  have h := val_parts l (hcount l)
  have h2 : hleft l (hcount l) = [] := List.eq_nil_of_length_eq_zero (by rw [hleft_length]; unfold hcount; omega)
  rw [h2, decVal_nil] at h
  simpa using h
/-- The k-th part, read up to the i-th digit. -/
def hpart (l : List UInt8) (k i : Nat) : Nat := decVal ((l.take i).drop (l.length - 4 * k - 4))
theorem hpart_start (l : List UInt8) (k : Nat) : hpart l k (l.length - 4 * k - 4) = 0 := by
  unfold hpart
  have : (l.take (l.length - 4 * k - 4)).drop (l.length - 4 * k - 4) = [] := List.eq_nil_of_length_eq_zero (by rw [List.length_drop, List.length_take]; omega)
  rw [this]; rfl
theorem hpart_step (l : List UInt8) (k i : Nat) (h1 : l.length - 4 * k - 4 ≤ i) (h2 : i < l.length) : hpart l k (i + 1) = 10 * hpart l k i + dg1 l[i] := by
  unfold hpart
  rw [List.take_succ_eq_append_getElem h2, List.drop_append_of_le_length (by rw [List.length_take]; omega), decVal_snoc]
  omega
theorem hpart_done (l : List UInt8) (k : Nat) : hpart l k (l.length - 4 * k) = hval l k := rfl
theorem hpart_lt {l : List UInt8} (h : ∀ c ∈ l, isDig c = true) (k i : Nat) (h1 : i ≤ l.length - 4 * k) : hpart l k i < 10000 := by
  have h1 := decVal_lt (s := (l.take i).drop (l.length - 4 * k - 4)) fun c hc => h c (List.mem_of_mem_take (List.mem_of_mem_drop hc))
  have h2 : ((l.take i).drop (l.length - 4 * k - 4)).length ≤ 4 := by rw [List.length_drop, List.length_take]; omega
  have h3 : 10 ^ ((l.take i).drop (l.length - 4 * k - 4)).length ≤ 10 ^ 4 := Nat.pow_le_pow_right (by omega) h2
  unfold hpart
  omega

/-! ### The digits of parts -/
structure DigInv (xs : List Nat) (i k : Nat) (s : List UInt8) : Prop where
  dig : ∀ c ∈ s, isDig c = true
  len : s.length = 4 * i + k
  eq : decVal s = val 10000 (xs.take i) + 10000 ^ i * (xs.getD i 0 % 10 ^ k)
theorem DigInv.start (xs : List Nat) : DigInv xs 0 0 [] := ⟨by simp, rfl, by simp [val, decVal_nil, Nat.mod_one]⟩
theorem DigInv.step {xs : List Nat} {i k : Nat} {s : List UInt8} (h : DigInv xs i k s) {p : Nat} (hp : p = xs.getD i 0 / 10 ^ k) : DigInv xs i (k + 1) (UInt8.ofNat (48 + p % 10) :: s) := by
  have hd := dg1_digit (Nat.mod_lt p (by omega) : p % 10 < 10)
  refine ⟨fun c hc => ?_, by rw [List.length_cons, h.len]; omega, ?_⟩
  · rcases List.mem_cons.1 hc with rfl | hc
    · exact hd.2
    · exact h.dig c hc
  · rw [decVal_cons, hd.1, h.len, h.eq, Nat.mod_pow_succ, ← hp, Nat.pow_add, Nat.pow_mul]
    have : (10 : Nat) ^ 4 = 10000 := rfl
    rw [this]
    generalize p % 10 = d
    generalize (10000 : Nat) ^ i = a
    generalize (10 : Nat) ^ k = b
    grind
theorem DigInv.next {xs : List Nat} {i : Nat} {s : List UInt8} (h : DigInv xs i 4 s) (hx : xs.getD i 0 < 10000) : DigInv xs (i + 1) 0 s := by
  refine ⟨h.dig, by rw [h.len]; omega, ?_⟩
  rw [h.eq, Nat.mod_eq_of_lt (show xs.getD i 0 < 10 ^ 4 from hx), val_take_succ', Nat.pow_zero, Nat.mod_one]
  omega
theorem DigInv.done {xs : List Nat} {s : List UInt8} (h : DigInv xs xs.length 0 s) : (∀ c ∈ s, isDig c = true) ∧ decVal s = val 10000 xs ∧ s.length = 4 * xs.length := by
  refine ⟨h.dig, ?_, by rw [h.len]; omega⟩
  rw [h.eq, List.take_of_length_le (Nat.le_refl _), Nat.pow_zero, Nat.mod_one]
  omega
/-- Zeros ahead are left out. -/
theorem decVal_strip (s : List UInt8) : decVal (48 :: s) = decVal s := by rw [decVal_cons]; simp [dg1]
theorem strip_done {s : List UInt8} (hd : ∀ c ∈ s, isDig c = true) (hn : s ≠ []) (hh : ¬ (1 < s.length ∧ s.head? = some 48)) : Go.Lib.decDigits (decVal s) = s :=
  decDigits_decVal hd hn fun h1 h2 => hh ⟨h1, h2⟩

theorem ext_drop (t : ByteArray) (a : Nat) : (t.extract a t.size).data.toList = t.data.toList.drop a := by
  rw [ByteArray.data_extract, Array.toList_extract, List.extract_eq_take_drop]
  exact List.take_of_length_le (by rw [List.length_drop, size_len]; exact Nat.le_refl _)
theorem head48 (s : ByteArray) (h : 0 < s.size) : s.data.toList.head? = some 48 ↔ (s[0].toNat : Int) = 48 := by
  have h1 : s.data.toList.head? = some s[0] := by
    have : 0 < s.data.toList.length := by rw [size_len]; exact h
    rw [List.head?_eq_getElem?, List.getElem?_eq_getElem this]
    rfl
  rw [h1]
  constructor
  · intro h2
    have := Option.some.inj h2
    rw [this]; rfl
  · intro h2
    congr 1
    apply UInt8.toNat_inj.1
    have : (48 : UInt8).toNat = 48 := rfl
    omega

/-! ### Sums that end by themselves -/
/-- A sum's loop of the document, k parts done: what is left is not nothing. -/
structure SumInv (B : Nat) (n m : List Nat) (k : Nat) (o : List Nat) (c : Nat) : Prop where
  inv : PlusInv B n m k o c
  top : k = 0 ∨ B ^ (k - 1) ≤ val B n + val B m
theorem SumInv.start (B : Nat) (n m : List Nat) : SumInv B n m 0 [] 0 := ⟨PlusInv.start B n m, .inl rfl⟩
theorem pow_le_limbs {B : Nat} (hB : 1 < B) {n k : Nat} (h : k < (limbs B n).length) : B ^ k ≤ n := by
  rcases Nat.lt_or_ge n (B ^ k) with h1 | h1
  · have := limbs_length_le hB h1; omega
  · exact h1
theorem SumInv.step {B : Nat} (hB : 1 < B) {n m : Nat} {k : Nat} {o : List Nat} {c : Nat} (h : SumInv B (limbs B n) (limbs B m) k o c) {x : Nat} (hx : x = (limbs B n).getD k 0 + c + (limbs B m).getD k 0)
    (hgo : k < (limbs B n).length ∨ k < (limbs B m).length ∨ 0 < c) : SumInv B (limbs B n) (limbs B m) (k + 1) (o ++ [x % B]) (x / B) := by
  refine ⟨h.inv.step hB (limbs_lt hB n) (limbs_lt hB m) hx, .inr ?_⟩
  rw [Nat.add_sub_cancel, val_limbs hB, val_limbs hB]
  rcases Nat.lt_or_ge k (limbs B n).length with h1 | h1
  · have := pow_le_limbs hB h1; omega
  rcases Nat.lt_or_ge k (limbs B m).length with h2 | h2
  · have := pow_le_limbs hB h2; omega
  · have hc : 0 < c := by omega
    have h3 := h.inv.eq
    rw [List.take_of_length_le h1, List.take_of_length_le h2, val_limbs hB, val_limbs hB] at h3
    have h4 : B ^ k * 1 ≤ B ^ k * c := Nat.mul_le_mul_left _ hc
    omega
theorem SumInv.done {B : Nat} (hB : 1 < B) {n m : Nat} {k : Nat} {o : List Nat} (h : SumInv B (limbs B n) (limbs B m) k o 0) (h1 : (limbs B n).length ≤ k) (h2 : (limbs B m).length ≤ k) : o = limbs B (n + m) := by
  have h3 := h.inv.eq
  rw [List.take_of_length_le h1, List.take_of_length_le h2, val_limbs hB, val_limbs hB, Nat.mul_zero, Nat.add_zero] at h3
  have h4 := limbs_prefix hB h.inv.lt
  have h5 := h.top
  rw [val_limbs hB, val_limbs hB, ← h3] at h5
  have hl : o.length ≤ (limbs B (val B o)).length := by
    rw [h.inv.len]
    rcases h5 with rfl | h5
    · omega
    · have := le_limbs_length hB h5
      omega
  rw [List.take_of_length_le hl] at h4
  rw [← h3, h4]

theorem SumInv.bound {n m k c L : Nat} {o : List Nat} (h : SumInv 10000 (limbs 10000 n) (limbs 10000 m) k o c) (h1 : (limbs 10000 n).length ≤ L) (h2 : (limbs 10000 m).length ≤ L) : k ≤ L + 1 := by
  rcases h.top with rfl | h3
  · omega
  · rcases Nat.lt_or_ge (L + 1) k with h4 | h4
    · exfalso
      have a1 := val_lt (limbs_lt (B := 10000) (by omega) n)
      have a2 := val_lt (limbs_lt (B := 10000) (by omega) m)
      have b1 := Nat.pow_le_pow_right (n := 10000) (by omega) h1
      have b2 := Nat.pow_le_pow_right (n := 10000) (by omega) h2
      have b3 := Nat.pow_le_pow_right (n := 10000) (by omega) (show L + 1 ≤ k - 1 by omega)
      rw [Nat.pow_succ] at b3
      omega
    · exact h4

/-! ### Quotients, a part at a time, by any number -/
/-- A division's loop of the document: the parts from k on are done. -/
structure OverInv (B : Nat) (n : List Nat) (d : Nat) (k : Nat) (o : List Nat) (r : Nat) : Prop where
  inv : ShortInv B n d k o r
  zero : ∀ j, j < k → o.getD j 0 = 0
theorem OverInv.start {B : Nat} (hB : 1 < B) (n : List Nat) {d : Nat} (hd : 0 < d) : OverInv B n d n.length (List.replicate n.length 0) 0 :=
  ⟨ShortInv.start hB n hd, fun j _ => by simp only [List.getD, List.getElem?_replicate]; split <;> rfl⟩
theorem OverInv.step {B : Nat} {n : List Nat} (hn : ∀ y ∈ n, y < B) {d k : Nat} {o : List Nat} {r : Nat} (h : OverInv B n d (k + 1) o r) (hk : k < n.length) {s : Nat} (hs : s = r * B + n.getD k 0) {q : Nat} (hq : q = s / d) {t : Nat} (ht : t = s % d) :
    OverInv B n d k (o.set k q) t := by
  subst hq; subst ht
  refine ⟨h.inv.step hn hk hs, fun j hj => ?_⟩
  have := h.zero j (by omega)
  simp only [List.getD, List.getElem?_set] at this ⊢
  rw [if_neg (by omega)]; exact this
theorem OverInv.skip {B : Nat} {n : List Nat} (hn : ∀ y ∈ n, y < B) {d k : Nat} {o : List Nat} {r : Nat} (h : OverInv B n d (k + 1) o r) (hk : k < n.length) {s : Nat} (hs : s = r * B + n.getD k 0) (hlt : s < d) : OverInv B n d k o s := by
  have h1 := h.step hn hk hs (q := 0) (t := s) (by rw [Nat.div_eq_of_lt hlt]) (by rw [Nat.mod_eq_of_lt hlt])
  have h2 := h.zero k (by omega)
  have h3 : o.set k 0 = o := by
    have hl : k < o.length := by rw [h.inv.len]; exact hk
    have h4 : o[k] = 0 := by simpa [List.getD, List.getElem?_eq_getElem hl] using h2
    refine List.ext_getElem (by simp) fun j _ _ => ?_
    rw [List.getElem_set]
    split
    · rename_i e; subst e; exact h4.symm
    · rfl
  rwa [h3] at h1
theorem OverInv.done {B : Nat} {n : List Nat} {d : Nat} {o : List Nat} {r : Nat} (h : OverInv B n d 0 o r) : val B o = val B n / d ∧ r = val B n % d := h.inv.done
theorem OverInv.digit {B : Nat} {n : List Nat} (hn : ∀ y ∈ n, y < B) {d k : Nat} {o : List Nat} {r : Nat} (h : OverInv B n d (k + 1) o r) (hk : k < n.length) {s : Nat} (hs : s = r * B + n.getD k 0) : s / d < B := by
  have h1 := h.inv.rest
  have h2 : n.getD k 0 < B := by simp only [List.getD, List.getElem?_eq_getElem hk, Option.getD_some]; exact hn _ (List.getElem_mem hk)
  refine Nat.div_lt_of_lt_mul ?_
  have : (r + 1) * B ≤ d * B := Nat.mul_le_mul_right _ (by omega)
  rw [Nat.add_mul] at this
  omega
theorem limbs_one' {B x : Nat} (hx : 0 < x) (hB : x < B) : limbs B x = [x] := by
  rw [limbs_pos (by omega) hx, Nat.mod_eq_of_lt hB, Nat.div_eq_of_lt hB, limbs_zero]
end Go.Proofs.YthbpadjhlkdpeaaGreatDoor
/- The document's numbers: what a slice of parts holds; trim. -/
namespace Go.Proofs.YthbpadjhlkdpeaaGreatDoor
open Go.RowKit

theorem info_int : (Tryz.prog.info? 3).map (fun i => (i.zero, i.size, i.bytes)) = some (some (.int .i64 0), 1, 8) := by kernel_rfl

/-- A nil slice, or one with an address. -/
def PForm (v : Value) : Prop := v = .slice none 0 0 ∨ ∃ ad m c, v = .slice (some ad) m c
/-- The slice value v holds the parts of n. -/
def PNum (w : World) (v : Value) (n : Nat) : Prop := Nums .i64 w v (limbs 10000 n) ∧ PForm v
theorem PNum.after {w w' : World} {v : Value} {n B : Nat} (h : PNum w v n) (hb : Below B w w') (hB : w.heap.size ≤ B) : PNum w' v n := ⟨Nums.below h.1 hb hB, h.2⟩
theorem Nums.form {k : IntKind} {w : World} {v : Value} {xs : List Nat} (h : Nums k w v xs) : ∃ p c, v = .slice p xs.length c := by
  obtain ⟨p, c, h1, _⟩ := h
  exact ⟨p, c, h1⟩
theorem PNum.form {w : World} {v : Value} {n : Nat} (h : PNum w v n) : ∃ p m c, v = .slice p m c := by
  obtain ⟨p, c, h1⟩ := h.1.form
  exact ⟨p, _, c, h1⟩
theorem PNum.kept {w w' : World} {v : Value} {n : Nat} (h : PNum w v n) (hs : w.heap.size ≤ w'.heap.size) (hk : ∀ b, v.ownBlock = some b → b < w.heap.size → w'.heap[b]? = w.heap[b]?) : PNum w' v n := by
  obtain ⟨⟨p, c, rfl, h1, h2, h3⟩, hf⟩ := h
  refine ⟨⟨p, c, rfl, h1, h2, fun hne => ?_⟩, hf⟩
  obtain ⟨b, off, rfl, hb, ha⟩ := h3 hne
  refine ⟨b, off, rfl, Nat.lt_of_lt_of_le hb hs, fun j hj => ?_⟩
  have := hk b rfl hb
  exact (World.cell?_of_block (w := w) (a := ⟨b, off + j, none⟩) this).trans (ha j hj)
/-- What one number answers. -/
def PPost (w : World) (n : Nat) (e : Ending) (w' : World) : Prop := ∃ v, e = .returned v ∧ PNum w' v n ∧ Below w.heap.size w w'
theorem pnum_nil (w : World) : PNum w (.slice none 0 0) 0 := ⟨by rw [limbs_zero]; exact Nums.nil _ _, .inl rfl⟩

/-- A row of numbers of the call's own, or nothing yet. -/
def Grow (k : IntKind) (E : TypeId) (w : World) (B : Nat) (v : Value) (xs : List Nat) : Prop := w.ownsRow B E 1 v xs.length (xs.map fun x => Value.int k (x : Nat))
section
variable {k : IntKind} {E : TypeId} {w : World} {B : Nat} {v : Value} {xs : List Nat}
theorem Grow.nil : Grow k E w B (.slice none 0 0) [] := World.ownsRow_nil w B E 1
theorem Grow.nums (h : Grow k E w B v xs) : Nums k w v xs := by
  rcases h.2 with ⟨rfl, h0⟩ | ⟨g, cap, cur, rfl, hb, hg, hle, hcap, hr⟩
  · obtain rfl : xs = [] := List.eq_nil_of_length_eq_zero h0
    exact Nums.nil k w
  · have : Row k E w B g cap xs := ⟨h.1, .inr ⟨g, cap, cur, rfl, hb, hg, hle, hcap, hr⟩⟩
    exact this.nums
theorem Grow.kept {w' : World} (h : Grow k E w B v xs) (hk : ∀ g, B ≤ g → v.ownBlock = some g → w'.heap[g]? = w.heap[g]?) : Grow k E w' B v xs := by
  obtain ⟨h1, h2⟩ := h
  refine ⟨h1, ?_⟩
  rcases h2 with h2 | ⟨g, cap, cur, rfl, hb, hg, hr⟩
  · exact .inl h2
  · exact .inr ⟨g, cap, cur, rfl, hb, by rw [hk g hb rfl]; exact hg, hr⟩
theorem Grow.after {w' : World} (h : Grow k E w B v xs) (hb : Below w.heap.size w w') : Grow k E w' B v xs :=
  h.kept fun g _ hv => hb.block g (World.ownsRow.lt h g hv).2
theorem Grow.alloc (h : Grow k E w B v xs) (o : Obj) : Grow k E (w.alloc o) B v xs := World.ownsRow.alloc h o
theorem Grow.snoc {n x : Nat} {y : Int} {v' : Value} (hn : xs.length = n) (hy : y = (x : Nat)) (h : w.ownsRow B E 1 v' (n + 1) ((xs.map fun x => Value.int k (x : Nat)) ++ [.int k y])) : Grow k E w B v' (xs ++ [x]) := by
  subst hn; subst hy
  unfold Grow
  rw [List.length_append, List.map_append]
  exact h
theorem Grow.form (h : Grow k E w B v xs) : ∃ p c, v = .slice p xs.length c := h.nums.form
theorem Grow.pform (h : Grow k E w B v xs) : PForm v := by
  rcases h.2 with ⟨rfl, _⟩ | ⟨g, cap, cur, rfl, _⟩
  · exact .inl rfl
  · exact .inr ⟨_, _, _, rfl⟩
end

set_option maxHeartbeats 1000000 in
/-- The slice is cut behind the last part that is not 0; nothing else happens. -/
theorem rtrim_calls (p : Option Addr) (cap : Nat) (xs : List Nat) (w : World) (hlc : xs.length ≤ cap) (hcap : cap ≤ maxLen) (hlt : ∀ x ∈ xs, x < 10000)
    (hp : xs ≠ [] → ∃ b off, p = some ⟨b, off, none⟩ ∧ At .i64 w b off xs) :
    Calls Tryz.prog 122 #[.slice p xs.length cap] w fun e w' =>
      w = w' ∧ e = .returned (.slice p (limbs 10000 (val 10000 xs)).length cap) := by
  unfold maxLen at hcap
  have HP := Lib.hid hp
  clear hp
  go_enter Tryz.func122, Tryz.ntmps122
  go_wp2
  go_loop [0] (fun v => ∃ k : Nat, k ≤ xs.length ∧ v = .slice p k cap ∧ Hid (val 10000 xs = val 10000 (xs.take k))) (fun v => lenV v)
  case atStart => exact ⟨xs.length, Nat.le_refl _, rfl, by rw [List.take_of_length_le (Nat.le_refl _)]; rfl⟩
  case round =>
    obtain ⟨k, hk, rfl, HV⟩ := hrel
    rcases Nat.eq_zero_or_pos k with h0 | h0
    · subst h0
      go_wp2
      go_ret
      exact ⟨rfl, by rw [HV.out]; simp [val, limbs_zero]⟩
    · obtain ⟨j, rfl⟩ : ∃ j, k = j + 1 := ⟨k - 1, by omega⟩
      have hj : j < xs.length := by omega
      obtain ⟨b, off, rfl, hc⟩ := HP.out (List.ne_nil_of_length_pos (by omega))
      have hcj : w.cell? ⟨b, off + j, none⟩ = some (.int .i64 (xs[j] : Nat)) := hc j hj
      clear hc
      by_cases hz : xs[j] = 0
      · have hz' : ((xs[j] : Nat) : Int) = 0 := by rw [hz]; rfl
        rw [hz'] at hcj
        have HZ := Lib.hid hz
        clear hz hz'
        go_wp2
        go_round
        case rel => exact ⟨j, by omega, by simp, by rw [HV.out, val_take_zero hj HZ.out]; rfl⟩
        case measure => simp [lenV]
      · have hz' : (((xs[j] : Nat) : Int) == 0) = false := by simpa using hz
        have HZ := Lib.hid hz
        clear hz
        go_wp2
        go_ret
        exact ⟨rfl, by rw [HV.out, limbs_take (by omega) hlt hj HZ.out]; simp; omega⟩

/-- On any slice of parts. -/
theorem rtrim_any {v : Value} {xs : List Nat} {w : World} (h : Nums .i64 w v xs) (hf : PForm v) (hlt : ∀ x ∈ xs, x < 10000) (m : Nat) (hm : val 10000 xs = m) :
    Calls Tryz.prog 122 #[v] w fun e w' => ∃ v', e = .returned v' ∧ w = w' ∧ PNum w' v' m ∧ v'.ownBlock = v.ownBlock := by
  subst hm
  obtain ⟨p, cap, rfl, h1, h2, h3⟩ := h
  refine (rtrim_calls p cap xs w h1 h2 hlt (fun hne => by obtain ⟨b, off, hb, _, ha⟩ := h3 hne; exact ⟨b, off, hb, ha⟩)).mono ?_
  rintro e w' ⟨rfl, rfl⟩
  have hpre := limbs_prefix (B := 10000) (by omega) hlt
  have hle := limbs_val_le (B := 10000) (by omega) hlt
  refine ⟨_, rfl, rfl, ⟨⟨p, cap, rfl, by omega, h2, fun hne => ?_⟩, ?_⟩, by cases p <;> rfl⟩
  rotate_left
  · rcases hf with hf | ⟨ad, m, c, hf⟩
    · injection hf with e1 e2 e3
      subst e1; subst e3
      have : (limbs 10000 (val 10000 xs)).length = 0 := by omega
      rw [this]; exact .inl rfl
    · injection hf with e1 e2 e3
      subst e1
      exact .inr ⟨_, _, _, rfl⟩
  have hne2 : xs ≠ [] := fun h => by rw [h] at hne; exact hne (by simp [val, limbs_zero])
  obtain ⟨b, off, hb, hbl, ha⟩ := h3 hne2
  refine ⟨b, off, hb, hbl, fun j hj => ?_⟩
  have hj2 : j < xs.length := by omega
  rw [ha j hj2]
  have : (limbs 10000 (val 10000 xs))[j] = xs[j] := by
    have e : (limbs 10000 (val 10000 xs))[j]? = (xs.take (limbs 10000 (val 10000 xs)).length)[j]? := by rw [← hpre]
    rw [List.getElem?_eq_getElem hj, List.getElem?_take_of_lt hj, List.getElem?_eq_getElem hj2] at e
    exact Option.some.inj e
  rw [this]
end Go.Proofs.YthbpadjhlkdpeaaGreatDoor
/- append of a slice of numbers, whatever it is, onto a row of the call's own. -/
namespace Go.Proofs.YthbpadjhlkdpeaaGreatDoor
open Go.RowKit

theorem add_lit' (b o i : Nat) : (⟨b, o, none⟩ : Addr).add i = ⟨b, o + i, none⟩ := by unfold Addr.add; split <;> simp_all
theorem wpList_append_nums {w : World} {ops : Array Oper} {rest : List Oper} {o : Oper} {a : Act} {Q : Exit → Act → World → Prop} (hgd : o.guard = none) (s x : Operand) (t : TypeId)
    (ho : o.op = .call { callee := .builtin .append, args := #[s, x], argTypes := #[t, t] })
    (base : Nat) (e : TypeId) (i : TypeInfo) (k : IntKind) (bytes : Nat) (ht : Tryz.prog.underlying t = some (.slice e)) (hi : Tryz.prog.info? e = some i) (hz : i.zero = some (.int k 0))
    (hsize : i.size = 1) (hby : i.bytes = bytes)
    (v : Value) (n : Nat) (xs : List Value) (hs : a.eval s = v) (hown : w.ownsRow base e 1 v n xs)
    (v2 : Value) (ys : List Nat) (hx : a.eval x = v2) (hv2 : Nums k w v2 ys) (hf : PForm v2)
    (h63 : n + ys.length ≤ maxLen) (hbytes : (n + ys.length) * bytes ≤ 140737488355328) (hbase : base ≤ w.heap.size)
    (h : ∀ v' w', w'.ownsRow base e 1 v' (n + ys.length) (xs ++ ys.map fun x => Value.int k (x : Nat)) → w.grownBy w' v.ownBlock → wpList Tryz.prog ops Q rest (a.put o.dst v') w') : wpList Tryz.prog ops Q (o :: rest) a w := by
  obtain ⟨p, cap, rfl, h1, h2, h3⟩ := hv2
  rcases hf with hf | ⟨ad, m, c, hf⟩
  · injection hf with e1 e2 e3
    subst e1; subst e3
    obtain rfl : ys = [] := List.eq_nil_of_length_eq_zero e2
    refine wpList_append_own_none hgd s x t ho base e i 1 ht hi v n xs hs hown hx (h v w ?_ ⟨rfl, rfl, rfl, Nat.le_refl _, fun _ _ _ => rfl⟩)
    simpa using hown
  · injection hf with e1 e2 e3
    subst e1
    refine wpList_append_own w hgd s x t ho base e i (.int k 0) 1 bytes ht hi hz hsize hby rfl (by decide) v n xs hs hown ad ys.length cap (ys.map fun x => Value.int k (x : Nat)) hx (by simp) ?_ ?_ h63 hbytes hbase (fun v' w' h5 h6 _ => h v' w' h5 h6)
    · intro j u hu
      have hj : j < ys.length := by
        rcases Nat.lt_or_ge j ys.length with h' | h'
        · exact h'
        · rw [List.getElem?_eq_none (by simpa using h')] at hu; cases hu
      obtain ⟨b, off, hb, _, hat⟩ := h3 (List.ne_nil_of_length_pos (by omega))
      obtain rfl := Option.some.inj hb
      rw [add_lit']
      rw [hat j hj]
      rw [List.getElem?_map, List.getElem?_eq_getElem hj] at hu
      exact hu
    · intro u hu
      obtain ⟨y, _, rfl⟩ := List.mem_map.1 hu
      rfl
end Go.Proofs.YthbpadjhlkdpeaaGreatDoor
/- The document's Parts: the number of some digits. -/
namespace Go.Proofs.YthbpadjhlkdpeaaGreatDoor
open Go.RowKit

theorem byte_digit (c : UInt8) (h : isDig c = true) : (48 : Int) ≤ c.toNat ∧ (c.toNat : Int) ≤ 57 ∧ (c.toNat : Int) - 48 = (dg1 c : Nat) := by
  have := of_decide_eq_true h
  unfold dg1
  omega

set_option maxRecDepth 100000 in
set_option maxHeartbeats 2000000 in
theorem parts_any (s : ByteArray) (hl : s.size ≤ 1000000) (hd : ∀ c ∈ s.data.toList, isDig c = true) (w : World) :
    Calls Tryz.prog 110 #[.string s] w (PPost w (decVal s.data.toList)) := by
  obtain ⟨i0, hi, hz0, hz1, hz2⟩ := info_parts info_int
  have HD := Lib.hid hd
  clear hd
  go_enter Tryz.func110, Tryz.ntmps110
  go_wp2
  go_loopw [3, 4] (fun vo ve wr => ∃ (k : Nat) (e : Int), k ≤ hcount s.data.toList ∧ ve = .int .i64 e ∧ e = (s.size : Int) - 4 * k ∧ Hid (Grow .i64 3 wr w.heap.size vo ((List.range k).map (hval s.data.toList))) ∧ Hid (Below w.heap.size w wr)) (fun _ ve _ => (intOf ve).toNat)
  case atStart => exact ⟨0, _, Nat.zero_le _, rfl, by simp, Grow.nil, Below.refl _ _⟩
  case round =>
    obtain ⟨k, e, hk, rfl, he, HO, HB⟩ := hrel
    have HE := Lib.hid he
    clear he
    by_cases hgo : 0 < e
    · obtain ⟨r, hr⟩ : ∃ r : Nat, e = (r : Nat) := ⟨e.toNat, by omega⟩
      subst hr
      have HR : Hid (r = s.size - 4 * k ∧ 0 < r) := ⟨by have := HE.out; omega, by omega⟩
      have hrs : r ≤ s.size := by have := HR.out.1; omega
      obtain ⟨a, ha⟩ : ∃ a, r - 4 = a := ⟨_, rfl⟩
      have hm : max 0 ((r : Int) - 4) = (a : Nat) := by omega
      have HA : Hid (a = s.size - 4 * k - 4 ∧ a ≤ r) := ⟨by have := HR.out.1; omega, by omega⟩
      have hr0 : 0 < r := by omega
      clear ha hgo
      go_wp2
      all_goals
        obtain ⟨w0, rfl⟩ : ∃ w0 : World, w0 = wr := ⟨_, rfl⟩
        go_loopw [5, 6] (fun vp vi wz => ∃ (i p : Nat), vi = .int .i64 i ∧ vp = .int .i64 p ∧ a ≤ i ∧ i ≤ r ∧ Hid (p = hpart s.data.toList k i) ∧ wz = w0) (fun _ vi _ => r - (intOf vi).toNat)
        case atStart => exact ⟨a, 0, by first | rfl | (congr 1; omega), rfl, Nat.le_refl _, HA.out.2, by show _ = _; rw [HA.out.1]; exact (hpart_start _ _).symm, rfl⟩
        case round =>
          obtain ⟨i, p, rfl, rfl, hai, hir, HP, rfl⟩ := hrel
          obtain ⟨w0, rfl⟩ : ∃ w0 : World, w0 = wr := ⟨_, rfl⟩
          have hp4 : p < 10000 := by rw [HP.out]; exact hpart_lt HD.out k i (by rw [size_len]; have := HR.out.1; omega)
          by_cases hlt : i < r
          · have his : i < s.size := by omega
            have hil : i < s.data.toList.length := by rw [size_len]; exact his
            obtain ⟨c, hc⟩ : ∃ c, s[i] = c := ⟨_, rfl⟩
            have hc2 : s.data.toList[i] = c := by rw [← hc]; rfl
            have hdc : isDig c = true := by rw [← hc2]; exact HD.out _ (List.getElem_mem hil)
            obtain ⟨q1, q2, q3⟩ := byte_digit c hdc
            have HP2 : Hid (10 * p + dg1 c = hpart s.data.toList k (i + 1)) := by
              show _ = _
              rw [hpart_step _ _ _ (by rw [size_len, ← HA.out.1]; exact hai) hil, hc2, HP.out]
            have hd9 := dg1_lt hdc
            have HC := Lib.hid hc
            clear hc2 hdc
            go_wp2
            go_roundw
            case rel => exact ⟨i + 1, 10 * p + dg1 c, by go_num, by first | rfl | (congr 1; omega), by omega, by omega, HP2, by first | rfl | trivial⟩
            case measure => simp [intOf]; omega
          · obtain rfl : i = r := by omega
            have HX : Hid (p = hval s.data.toList k) := by
              show _ = _
              rw [HP.out, HR.out.1, ← size_len, hpart_done]
            obtain ⟨po, no, co, rfl⟩ : ∃ p n c, u3 = .slice p n c := by obtain ⟨q, c, h⟩ := HO.out.form; exact ⟨_, _, _, h⟩
            have hown : w0.ownsRow w.heap.size 3 1 (.slice po no co) k (((List.range k).map (hval s.data.toList)).map fun x => Value.int .i64 (x : Nat)) := by
              have := HO.out; unfold Grow at this; simpa using this
            have hsz := HB.out.size
            have hm1 : k + 1 ≤ maxLen := by unfold maxLen; unfold hcount at hk; rw [size_len] at hk; omega
            have hm2 : (k + 1) * 8 ≤ 140737488355328 := by unfold hcount at hk; rw [size_len] at hk; omega
            have hownA := hown.alloc (.cells #[.int .i64 (p : Nat)] 3)
            have hm3 : w.heap.size ≤ (w0.alloc (.cells #[.int .i64 (p : Nat)] 3)).heap.size := by simp; omega
            go_wp2_with (at_builtin; go_loud (refine wpList_append_own _ rfl _ _ 82 rfl w.heap.size 3 i0 (.int .i64 0) 1 8 Tryz.underlying82 hi hz0 hz1 hz2 rfl (by decide) _ k _ rfl hownA ⟨w0.heap.size, 0, none⟩ 1 1 [.int .i64 (p : Nat)] rfl rfl (cell_one_new _ _ _) (by simp [Value.oneCell']) hm1 hm2 hm3 ?_); intro v' w1 hown1 hgrow1 _)
            have HG : Hid (Grow .i64 3 w1 w.heap.size v' ((List.range (k + 1)).map (hval s.data.toList))) := by
              have h1 := Grow.snoc (k := .i64) (xs := (List.range k).map (hval s.data.toList)) (x := p) (by simp) rfl hown1
              rw [HX.out] at h1
              rw [List.range_succ, List.map_append]
              exact h1
            have HB1 : Hid (Below w.heap.size w w1) := (HB.out.alloc hsz _).grown hgrow1 hm3 (fun z hz => (World.ownsRow.lt hownA z hz).1)
            clear hown hownA hown1 hgrow1
            go_roundw
            case rel => exact ⟨k + 1, _, by unfold hcount; rw [size_len]; have := HR.out; omega, rfl, by have := HE.out; push_cast; omega, HG, HB1⟩
            case measure => simp [intOf]; omega
    · have HK : Hid (k = hcount s.data.toList) := by
        show _ = _
        have := HE.out
        unfold hcount at *; rw [size_len] at *; omega
      have hlt : ∀ x ∈ (List.range k).map (hval s.data.toList), x < 10000 := by
        intro x hx
        obtain ⟨j, _, rfl⟩ := List.mem_map.1 hx
        exact hval_lt HD.out j
      have ht := rtrim_any HO.out.nums HO.out.pform hlt (decVal s.data.toList) (by rw [HK.out]; exact val_parts_all _)
      obtain ⟨po, no, co, rfl⟩ : ∃ p n c, u3 = .slice p n c := by obtain ⟨q, c, h⟩ := HO.out.form; exact ⟨_, _, _, h⟩
      clear hlt
      go_wp2_with fail
      refine ht.mono ?_
      rintro e' w' ⟨v', rfl, rfl, hv, _⟩
      obtain ⟨p', m', c', rfl⟩ := hv.form
      have HV := Lib.hid hv
      clear ht hv
      go_wp2
      go_ret
      exact ⟨_, rfl, HV.out, HB.out⟩
end Go.Proofs.YthbpadjhlkdpeaaGreatDoor
/- The document's order: the sign of the difference of two numbers. -/
namespace Go.Proofs.YthbpadjhlkdpeaaGreatDoor
open Go.RowKit

def sgnN (n m : Nat) : Int := if n < m then -1 else if n = m then 0 else 1
theorem sgnN_lt {n m : Nat} (h : n < m) : sgnN n m = -1 := by unfold sgnN; rw [if_pos h]
theorem sgnN_gt {n m : Nat} (h : m < n) : sgnN n m = 1 := by unfold sgnN; rw [if_neg (by omega), if_neg (by omega)]
theorem sgnN_eq (n : Nat) : sgnN n n = 0 := by unfold sgnN; rw [if_neg (by omega), if_pos rfl]
theorem sgnN_neg {n m : Nat} : sgnN n m < 0 ↔ n < m := by unfold sgnN; split <;> (try split) <;> omega
theorem sgnN_le {n m : Nat} : sgnN n m ≤ 0 ↔ n ≤ m := by unfold sgnN; split <;> (try split) <;> omega

set_option maxRecDepth 100000 in
set_option maxHeartbeats 2000000 in
theorem order_len (p1 p2 : Option Addr) (c1 c2 : Nat) (l1 l2 : Nat) (h1 : l1 ≤ 1000000) (h2 : l2 ≤ 1000000) (hne : l1 ≠ l2) (w : World) :
    Calls Tryz.prog 94 #[.slice p1 l1 c1, .slice p2 l2 c2] w fun e w' => e = .returned (.int .i64 (if l1 < l2 then -1 else 1)) ∧ w = w' := by
  have hb : ((l1 : Int) != l2) = true := by rw [bne_iff_ne]; omega
  rcases Nat.lt_or_ge l1 l2 with h | h
  · have h' : (l1 : Int) < l2 := by omega
    rw [if_pos h]
    clear hne h
    go_enter Tryz.func94, Tryz.ntmps94
    go_wp2
    go_ret
    exact ⟨rfl, rfl⟩
  · have h' : ¬ (l1 : Int) < l2 := by omega
    rw [if_neg (by omega)]
    clear hne h
    go_enter Tryz.func94, Tryz.ntmps94
    go_wp2
    go_ret
    exact ⟨rfl, rfl⟩

set_option maxRecDepth 100000 in
set_option maxHeartbeats 2000000 in
theorem order_same (p1 p2 : Option Addr) (c1 c2 : Nat) (xs ys : List Nat) (hl : xs.length ≤ 1000000) (hlen : ys.length = xs.length) (w : World)
    (hp1 : xs ≠ [] → ∃ b off, p1 = some ⟨b, off, none⟩ ∧ b < w.heap.size ∧ At .i64 w b off xs) (hp2 : ys ≠ [] → ∃ b off, p2 = some ⟨b, off, none⟩ ∧ b < w.heap.size ∧ At .i64 w b off ys)
    (hx : ∀ x ∈ xs, x < 10000) (hy : ∀ x ∈ ys, x < 10000) :
    Calls Tryz.prog 94 #[.slice p1 xs.length c1, .slice p2 xs.length c2] w fun e w' => e = .returned (.int .i64 (sgnN (val 10000 xs) (val 10000 ys))) ∧ Below w.heap.size w w' := by
  obtain ⟨n, hn⟩ : ∃ n, xs.length = n := ⟨_, rfl⟩
  rw [hn] at hl ⊢
  have HN : Hid (xs.length = n ∧ ys.length = n) := ⟨hn, by omega⟩
  have HX := Lib.hid hx
  have HY := Lib.hid hy
  have HP1 := Lib.hid hp1
  have HP2 := Lib.hid hp2
  clear hn hx hy hp1 hp2 hlen
  go_enter Tryz.func94, Tryz.ntmps94
  go_wp2
  go_loopw [5] (fun vi wr => ∃ (k : Nat), k ≤ n ∧ vi = .int .i64 ((k : Int) - 1) ∧ Hid (xs.drop k = ys.drop k) ∧ Hid (Below w.heap.size w wr)) (fun vi _ => (intOf vi + 1).toNat)
  case atStart => exact ⟨n, Nat.le_refl _, rfl, by show _ = _; rw [List.drop_of_length_le (by rw [HN.out.1]; exact Nat.le_refl _), List.drop_of_length_le (by rw [HN.out.2]; exact Nat.le_refl _)], Below.refl _ _⟩
  case round =>
    obtain ⟨k, hk, rfl, HK, HB⟩ := hrel
    rcases Nat.eq_zero_or_pos k with h0 | h0
    · subst h0
      have HE : Hid (xs = ys) := HK.out
      clear HK
      go_wp2
      go_ret
      exact ⟨by rw [HE.out, sgnN_eq]; rfl, HB.out⟩
    · obtain ⟨j, rfl⟩ : ∃ j, k = j + 1 := ⟨k - 1, by omega⟩
      have hj1 : j < xs.length := by rw [HN.out.1]; omega
      have hj2 : j < ys.length := by rw [HN.out.2]; omega
      obtain ⟨b1, o1, rfl, hb1, a1⟩ := HP1.out (List.ne_nil_of_length_pos (by omega))
      obtain ⟨b2, o2, rfl, hb2, a2⟩ := HP2.out (List.ne_nil_of_length_pos (by omega))
      obtain ⟨x, hx⟩ : ∃ x, xs[j] = x := ⟨_, rfl⟩
      obtain ⟨y, hy⟩ : ∃ y, ys[j] = y := ⟨_, rfl⟩
      have HXY : Hid (xs[j] = x ∧ ys[j] = y) := ⟨hx, hy⟩
      have HC : Hid (∀ W, Below w.heap.size w W → W.cell? ⟨b1, o1 + j, none⟩ = some (.int .i64 (x : Nat)) ∧ W.cell? ⟨b2, o2 + j, none⟩ = some (.int .i64 (y : Nat))) := fun W hW =>
        ⟨by rw [← hx]; exact (hW.cell (p := ⟨b1, o1 + j, none⟩) hb1).trans (a1 j hj1), by rw [← hy]; exact (hW.cell (p := ⟨b2, o2 + j, none⟩) hb2).trans (a2 j hj2)⟩
      have ej : ((j + 1 : Nat) : Int) - 1 = (j : Nat) := by omega
      rw [ej]
      clear a1 a2 hx hy ej
      have hjl : (j : Int) < n := by omega
      have hj0 : (0 : Int) ≤ (j : Int) := by omega
      obtain ⟨w1, hw1⟩ : ∃ w1 : World, wr = w1 := ⟨_, rfl⟩
      subst hw1
      obtain ⟨e1, e2⟩ := HC.out wr HB.out
      go_wp2_with fail
      go_region
      clear e1 e2
      obtain ⟨w2, hw2⟩ : ∃ w2, wr.drew = w2 := ⟨_, rfl⟩
      have HB2 : Hid (Below w.heap.size w w2) := by rw [← hw2]; exact HB.out.drew
      rw [hw2]
      clear hw2
      rcases Nat.lt_or_ge x y with hlt | hge
      · have HS : Hid (sgnN (val 10000 xs) (val 10000 ys) = -1) := sgnN_lt (val_lt_of_top HX.out hj1 (by rw [HN.out.1, HN.out.2]) HK.out (by rw [HXY.out.1, HXY.out.2]; exact hlt))
        have h1 : (x : Int) < y := by omega
        clear hlt
        go_wp2
        go_ret
        exact ⟨by rw [HS.out]; rfl, HB2.out⟩
      · have h1 : ¬ (x : Int) < y := by omega
        obtain ⟨e1, e2⟩ := HC.out w2 HB2.out
        go_wp2_with fail
        go_region
        clear e1 e2
        obtain ⟨w3, hw3⟩ : ∃ w3, w2.drew = w3 := ⟨_, rfl⟩
        have HB3 : Hid (Below w.heap.size w w3) := by rw [← hw3]; exact HB2.out.drew
        rw [hw3]
        clear hw3
        rcases Nat.lt_or_ge y x with hgt | heq
        · have HS : Hid (sgnN (val 10000 xs) (val 10000 ys) = 1) := sgnN_gt (val_lt_of_top HY.out hj2 (by rw [HN.out.1, HN.out.2]) HK.out.symm (by rw [HXY.out.1, HXY.out.2]; exact hgt))
          have h2 : (y : Int) < x := by omega
          clear hgt
          go_wp2
          go_ret
          exact ⟨by rw [HS.out]; rfl, HB3.out⟩
        · obtain rfl : x = y := by omega
          have HK2 : Hid (xs.drop j = ys.drop j) := by
            show _ = _
            rw [List.drop_eq_getElem_cons hj1, List.drop_eq_getElem_cons hj2, HK.out, HXY.out.1, HXY.out.2]
          have h2 : ¬ (x : Int) < x := by omega
          go_wp2
          go_roundw
          case rel => exact ⟨j, by omega, by go_num, HK2, HB3⟩
          case measure => simp [intOf] <;> omega

/-- order(a, b). -/
theorem order_any {v1 v2 : Value} {n m : Nat} {w : World} (h1 : PNum w v1 n) (h2 : PNum w v2 m) (hl1 : (limbs 10000 n).length ≤ 1000000) (hl2 : (limbs 10000 m).length ≤ 1000000) :
    Calls Tryz.prog 94 #[v1, v2] w fun e w' => e = .returned (.int .i64 (sgnN n m)) ∧ Below w.heap.size w w' := by
  obtain ⟨p1, c1, rfl, _, _, hp1⟩ := h1.1
  obtain ⟨p2, c2, rfl, _, _, hp2⟩ := h2.1
  by_cases hlen : (limbs 10000 n).length = (limbs 10000 m).length
  · rw [← hlen]
    have := order_same p1 p2 c1 c2 _ _ hl1 hlen.symm w hp1 hp2 (limbs_lt (by omega) n) (limbs_lt (by omega) m)
    rwa [val_limbs (by omega), val_limbs (by omega)] at this
  · refine (order_len p1 p2 c1 c2 _ _ hl1 hl2 hlen w).mono ?_
    rintro e w' ⟨rfl, rfl⟩
    refine ⟨?_, Below.refl _ _⟩
    rcases Nat.lt_or_gt_of_ne hlen with h | h
    · rw [if_pos h, sgnN_lt (lt_of_length_lt (B := 10000) (by omega) h)]
    · rw [if_neg (by omega), sgnN_gt (lt_of_length_lt (B := 10000) (by omega) h)]
end Go.Proofs.YthbpadjhlkdpeaaGreatDoor
/- The document's plus: the sum of two numbers. -/
namespace Go.Proofs.YthbpadjhlkdpeaaGreatDoor
open Go.RowKit
set_option maxRecDepth 100000 in
set_option maxHeartbeats 4000000 in
theorem rplus_any {v1 v2 : Value} {n m : Nat} {w : World} (h1 : PNum w v1 n) (h2 : PNum w v2 m) (hl1 : (limbs 10000 n).length ≤ 1000000) (hl2 : (limbs 10000 m).length ≤ 1000000) :
    Calls Tryz.prog 93 #[v1, v2] w (PPost w (n + m)) := by
  obtain ⟨i0, hi, hz0, hz1, hz2⟩ := info_parts info_int
  obtain ⟨p1, c1, rfl, _, _, hp1⟩ := h1.1
  obtain ⟨p2, c2, rfl, _, _, hp2⟩ := h2.1
  obtain ⟨xs, hxs⟩ : ∃ xs, limbs 10000 n = xs := ⟨_, rfl⟩
  obtain ⟨ys, hys⟩ : ∃ ys, limbs 10000 m = ys := ⟨_, rfl⟩
  have HXS : Hid (limbs 10000 n = xs ∧ limbs 10000 m = ys) := ⟨hxs, hys⟩
  rw [hxs] at hl1 hp1 ⊢
  rw [hys] at hl2 hp2 ⊢
  have HX : Hid (∀ x ∈ xs, x < 10000) := by rw [← hxs]; exact limbs_lt (by omega) n
  have HY : Hid (∀ x ∈ ys, x < 10000) := by rw [← hys]; exact limbs_lt (by omega) m
  have HP1 := Lib.hid hp1
  have HP2 := Lib.hid hp2
  clear hxs hys hp1 hp2
  go_enter Tryz.func93, Tryz.ntmps93
  go_wp2
  go_loopw [5, 6, 7] (fun vo vc vi wr => ∃ (k c : Nat) (out : List Nat), vi = .int .i64 k ∧ vc = .int .i64 c ∧ k ≤ 1000001 ∧ c ≤ 1 ∧ Hid (SumInv 10000 xs ys k out c) ∧ Hid (Grow .i64 3 wr w.heap.size vo out) ∧ Hid (out.length = k) ∧ Hid (Below w.heap.size w wr)) (fun _ vc vi _ => 2 * 1000002 - 2 * (intOf vi).toNat + (intOf vc).toNat)
  case atStart => exact ⟨0, 0, [], rfl, rfl, by omega, by omega, SumInv.start _ _ _, Grow.nil, rfl, Below.refl _ _⟩
  case round =>
    obtain ⟨k, c, out, rfl, rfl, hk6, hc1, HI, HO, HLEN, HB⟩ := hrel
    obtain ⟨po, no, co, rfl⟩ : ∃ p n c, u5 = .slice p n c := by obtain ⟨q, c, h⟩ := HO.out.form; exact ⟨_, _, _, h⟩
    by_cases hgo : k < xs.length ∨ k < ys.length ∨ 0 < c
    · have hm1 : k + 1 ≤ maxLen := by unfold maxLen; omega
      have hm2 : (k + 1) * 8 ≤ 140737488355328 := by omega
      have HGO : Hid (k < (limbs 10000 n).length ∨ k < (limbs 10000 m).length ∨ 0 < c) := by rw [HXS.out.1, HXS.out.2]; exact hgo
      have HST : Hid (∀ x, x = xs.getD k 0 + c + ys.getD k 0 → SumInv 10000 xs ys (k + 1) (out ++ [x % 10000]) (x / 10000)) := fun x hx => by
        have h1 := HI.out
        have h2 := HGO.out
        obtain ⟨e1, e2⟩ := HXS.out
        rw [← e1, ← e2] at h1 hx ⊢
        exact h1.step (by omega) hx h2
      by_cases hlt1 : k < xs.length
      · obtain ⟨b1, o1, rfl, hb1, a1⟩ := HP1.out (List.ne_nil_of_length_pos (by omega))
        obtain ⟨x, hx⟩ : ∃ x, xs.getD k 0 = x := ⟨_, rfl⟩
        have hxl : x < 10000 := by rw [← hx]; exact getD_lt (by omega) HX.out k
        have cx : wr.cell? ⟨b1, o1 + k, none⟩ = some (.int .i64 (x : Nat)) := (HB.out.cell (p := ⟨b1, o1 + k, none⟩) hb1).trans (a1.getD hlt1 hx)
        have Hx := Lib.hid hx
        clear hx a1 hgo
        by_cases hlt2 : k < ys.length
        · obtain ⟨b2, o2, rfl, hb2, a2⟩ := HP2.out (List.ne_nil_of_length_pos (by omega))
          obtain ⟨y, hy⟩ : ∃ y, ys.getD k 0 = y := ⟨_, rfl⟩
          have hyl : y < 10000 := by rw [← hy]; exact getD_lt (by omega) HY.out k
          have cy : wr.cell? ⟨b2, o2 + k, none⟩ = some (.int .i64 (y : Nat)) := (HB.out.cell (p := ⟨b2, o2 + k, none⟩) hb2).trans (a2.getD hlt2 hy)
          have Hy := Lib.hid hy
          clear hy a2
          have HS := Lib.hid (HST.out (x + c + y) (by first | (rw [Hx.out, Hy.out]; done) | (rw [Hx.out, Hy.out]; omega)))
          have e1 : ((c : Int) + x + y) % 10000 = (((x + c + y) % 10000 : Nat) : Int) := by omega
          have e2 : ((c : Int) + x + y) / 10000 = (((x + c + y) / 10000 : Nat) : Int) := by omega
          have hq1 : (x + c + y) / 10000 ≤ 1 := by omega
          have E1 := Lib.hid e1
          have E2 := Lib.hid e2
          have HQ : Hid (k + 1 ≤ 1000001) := by
            have h1 := HS.out
            obtain ⟨e1, e2⟩ := HXS.out
            rw [← e1, ← e2] at h1
            exact h1.bound (by rw [e1]; exact hl1) (by rw [e2]; exact hl2)
          have HMS : Hid ((x + c + y) / 10000 ≤ 1) := hq1
          clear e1 e2 hq1
          have hown : wr.ownsRow w.heap.size 3 1 (.slice po no co) k ((out).map fun x => Value.int .i64 (x : Nat)) := by
            have := HO.out; unfold Grow at this; rwa [HLEN.out] at this
          have hsz := HB.out.size
          have hownA := hown.alloc (.cells #[.int .i64 (((c : Int) + x + y) % 10000)] 3)
          have hm3 : w.heap.size ≤ (wr.alloc (.cells #[.int .i64 (((c : Int) + x + y) % 10000)] 3)).heap.size := by simp; omega
          go_wp2_with (at_builtin; go_loud (refine wpList_append_own _ rfl _ _ 82 rfl w.heap.size 3 i0 (.int .i64 0) 1 8 Tryz.underlying82 hi hz0 hz1 hz2 rfl (by decide) _ k _ rfl hownA ⟨wr.heap.size, 0, none⟩ 1 1 [.int .i64 (((c : Int) + x + y) % 10000)] rfl rfl (cell_one_new _ _ _) (by simp [Value.oneCell']) hm1 hm2 hm3 ?_); intro v' w1 hown1 hgrow1 _)
          have HG : Hid (Grow .i64 3 w1 w.heap.size v' (out ++ [(x + c + y) % 10000])) := Grow.snoc HLEN.out E1.out hown1
          have HB1 : Hid (Below w.heap.size w w1) := (HB.out.alloc hsz _).grown hgrow1 hm3 (fun z hz => (World.ownsRow.lt hownA z hz).1)
          clear hown hownA hown1 hgrow1
          go_roundw
          case rel => exact ⟨k + 1, _, _, by go_num, by rw [E2.out], HQ.out, HMS.out, HS, HG, by show _ = _; rw [List.length_append, HLEN.out]; rfl, HB1⟩
          case measure => rw [E2.out]; have := HMS.out; have := HQ.out; simp [intOf]; omega
        · have Hy : Hid (ys.getD k 0 = 0) := by show _ = _; simp [List.getD, hlt2]
          have HS := Lib.hid (HST.out (x + c) (by first | (rw [Hx.out, Hy.out]; done) | (rw [Hx.out, Hy.out]; omega)))
          have e1 : ((c : Int) + x) % 10000 = (((x + c) % 10000 : Nat) : Int) := by omega
          have e2 : ((c : Int) + x) / 10000 = (((x + c) / 10000 : Nat) : Int) := by omega
          have hq1 : (x + c) / 10000 ≤ 1 := by omega
          have E1 := Lib.hid e1
          have E2 := Lib.hid e2
          have HQ : Hid (k + 1 ≤ 1000001) := by
            have h1 := HS.out
            obtain ⟨e1, e2⟩ := HXS.out
            rw [← e1, ← e2] at h1
            exact h1.bound (by rw [e1]; exact hl1) (by rw [e2]; exact hl2)
          have HMS : Hid ((x + c) / 10000 ≤ 1) := hq1
          clear e1 e2 hq1
          have hown : wr.ownsRow w.heap.size 3 1 (.slice po no co) k ((out).map fun x => Value.int .i64 (x : Nat)) := by
            have := HO.out; unfold Grow at this; rwa [HLEN.out] at this
          have hsz := HB.out.size
          have hownA := hown.alloc (.cells #[.int .i64 (((c : Int) + x) % 10000)] 3)
          have hm3 : w.heap.size ≤ (wr.alloc (.cells #[.int .i64 (((c : Int) + x) % 10000)] 3)).heap.size := by simp; omega
          go_wp2_with (at_builtin; go_loud (refine wpList_append_own _ rfl _ _ 82 rfl w.heap.size 3 i0 (.int .i64 0) 1 8 Tryz.underlying82 hi hz0 hz1 hz2 rfl (by decide) _ k _ rfl hownA ⟨wr.heap.size, 0, none⟩ 1 1 [.int .i64 (((c : Int) + x) % 10000)] rfl rfl (cell_one_new _ _ _) (by simp [Value.oneCell']) hm1 hm2 hm3 ?_); intro v' w1 hown1 hgrow1 _)
          have HG : Hid (Grow .i64 3 w1 w.heap.size v' (out ++ [(x + c) % 10000])) := Grow.snoc HLEN.out E1.out hown1
          have HB1 : Hid (Below w.heap.size w w1) := (HB.out.alloc hsz _).grown hgrow1 hm3 (fun z hz => (World.ownsRow.lt hownA z hz).1)
          clear hown hownA hown1 hgrow1
          go_roundw
          case rel => exact ⟨k + 1, _, _, by go_num, by rw [E2.out], HQ.out, HMS.out, HS, HG, by show _ = _; rw [List.length_append, HLEN.out]; rfl, HB1⟩
          case measure => rw [E2.out]; have := HMS.out; have := HQ.out; simp [intOf]; omega
      · have Hx : Hid (xs.getD k 0 = 0) := by show _ = _; simp [List.getD, hlt1]
        by_cases hlt2 : k < ys.length
        · obtain ⟨b2, o2, rfl, hb2, a2⟩ := HP2.out (List.ne_nil_of_length_pos (by omega))
          obtain ⟨y, hy⟩ : ∃ y, ys.getD k 0 = y := ⟨_, rfl⟩
          have hyl : y < 10000 := by rw [← hy]; exact getD_lt (by omega) HY.out k
          have cy : wr.cell? ⟨b2, o2 + k, none⟩ = some (.int .i64 (y : Nat)) := (HB.out.cell (p := ⟨b2, o2 + k, none⟩) hb2).trans (a2.getD hlt2 hy)
          have Hy := Lib.hid hy
          clear hy a2 hgo
          have HS := Lib.hid (HST.out (c + y) (by first | (rw [Hx.out, Hy.out]; done) | (rw [Hx.out, Hy.out]; omega)))
          have e1 : ((c : Int) + y) % 10000 = (((c + y) % 10000 : Nat) : Int) := by omega
          have e2 : ((c : Int) + y) / 10000 = (((c + y) / 10000 : Nat) : Int) := by omega
          have hq1 : (c + y) / 10000 ≤ 1 := by omega
          have E1 := Lib.hid e1
          have E2 := Lib.hid e2
          have HQ : Hid (k + 1 ≤ 1000001) := by
            have h1 := HS.out
            obtain ⟨e1, e2⟩ := HXS.out
            rw [← e1, ← e2] at h1
            exact h1.bound (by rw [e1]; exact hl1) (by rw [e2]; exact hl2)
          have HMS : Hid ((c + y) / 10000 ≤ 1) := hq1
          clear e1 e2 hq1
          have hown : wr.ownsRow w.heap.size 3 1 (.slice po no co) k ((out).map fun x => Value.int .i64 (x : Nat)) := by
            have := HO.out; unfold Grow at this; rwa [HLEN.out] at this
          have hsz := HB.out.size
          have hownA := hown.alloc (.cells #[.int .i64 (((c : Int) + y) % 10000)] 3)
          have hm3 : w.heap.size ≤ (wr.alloc (.cells #[.int .i64 (((c : Int) + y) % 10000)] 3)).heap.size := by simp; omega
          go_wp2_with (at_builtin; go_loud (refine wpList_append_own _ rfl _ _ 82 rfl w.heap.size 3 i0 (.int .i64 0) 1 8 Tryz.underlying82 hi hz0 hz1 hz2 rfl (by decide) _ k _ rfl hownA ⟨wr.heap.size, 0, none⟩ 1 1 [.int .i64 (((c : Int) + y) % 10000)] rfl rfl (cell_one_new _ _ _) (by simp [Value.oneCell']) hm1 hm2 hm3 ?_); intro v' w1 hown1 hgrow1 _)
          have HG : Hid (Grow .i64 3 w1 w.heap.size v' (out ++ [(c + y) % 10000])) := Grow.snoc HLEN.out E1.out hown1
          have HB1 : Hid (Below w.heap.size w w1) := (HB.out.alloc hsz _).grown hgrow1 hm3 (fun z hz => (World.ownsRow.lt hownA z hz).1)
          clear hown hownA hown1 hgrow1
          go_roundw
          case rel => exact ⟨k + 1, _, _, by go_num, by rw [E2.out], HQ.out, HMS.out, HS, HG, by show _ = _; rw [List.length_append, HLEN.out]; rfl, HB1⟩
          case measure => rw [E2.out]; have := HMS.out; have := HQ.out; simp [intOf]; omega
        · have Hy : Hid (ys.getD k 0 = 0) := by show _ = _; simp [List.getD, hlt2]
          have hc0 : (0 : Int) < c := by omega
          clear hgo
          have HS := Lib.hid (HST.out (c) (by first | (rw [Hx.out, Hy.out]; done) | (rw [Hx.out, Hy.out]; omega)))
          have e1 : ((c : Int)) % 10000 = (((c) % 10000 : Nat) : Int) := by omega
          have e2 : ((c : Int)) / 10000 = (((c) / 10000 : Nat) : Int) := by omega
          have hq1 : (c) / 10000 ≤ 1 := by omega
          have E1 := Lib.hid e1
          have E2 := Lib.hid e2
          have HQ : Hid (k + 1 ≤ 1000001) := by
            have h1 := HS.out
            obtain ⟨e1, e2⟩ := HXS.out
            rw [← e1, ← e2] at h1
            exact h1.bound (by rw [e1]; exact hl1) (by rw [e2]; exact hl2)
          have HMS : Hid ((c) / 10000 ≤ 1) := hq1
          clear e1 e2 hq1
          have hown : wr.ownsRow w.heap.size 3 1 (.slice po no co) k ((out).map fun x => Value.int .i64 (x : Nat)) := by
            have := HO.out; unfold Grow at this; rwa [HLEN.out] at this
          have hsz := HB.out.size
          have hownA := hown.alloc (.cells #[.int .i64 (((c : Int)) % 10000)] 3)
          have hm3 : w.heap.size ≤ (wr.alloc (.cells #[.int .i64 (((c : Int)) % 10000)] 3)).heap.size := by simp; omega
          go_wp2_with (at_builtin; go_loud (refine wpList_append_own _ rfl _ _ 82 rfl w.heap.size 3 i0 (.int .i64 0) 1 8 Tryz.underlying82 hi hz0 hz1 hz2 rfl (by decide) _ k _ rfl hownA ⟨wr.heap.size, 0, none⟩ 1 1 [.int .i64 (((c : Int)) % 10000)] rfl rfl (cell_one_new _ _ _) (by simp [Value.oneCell']) hm1 hm2 hm3 ?_); intro v' w1 hown1 hgrow1 _)
          have HG : Hid (Grow .i64 3 w1 w.heap.size v' (out ++ [(c) % 10000])) := Grow.snoc HLEN.out E1.out hown1
          have HB1 : Hid (Below w.heap.size w w1) := (HB.out.alloc hsz _).grown hgrow1 hm3 (fun z hz => (World.ownsRow.lt hownA z hz).1)
          clear hown hownA hown1 hgrow1
          go_roundw
          case rel => exact ⟨k + 1, _, _, by go_num, by rw [E2.out], HQ.out, HMS.out, HS, HG, by show _ = _; rw [List.length_append, HLEN.out]; rfl, HB1⟩
          case measure => rw [E2.out]; have := HMS.out; have := HQ.out; simp [intOf]; omega
    · have hc0 : c = 0 := by omega
      subst hc0
      have hn1 : ¬ (k : Int) < xs.length := by omega
      have hn2 : ¬ (k : Int) < ys.length := by omega
      have HD : Hid (out = limbs 10000 (n + m)) := by
        have h1 := HI.out
        obtain ⟨e1, e2⟩ := HXS.out
        rw [← e1, ← e2] at h1
        exact h1.done (by omega) (by rw [e1]; omega) (by rw [e2]; omega)
      clear hgo
      go_wp2
      go_ret
      refine ⟨_, rfl, ?_, HB.out⟩
      have := HO.out.nums
      rw [HD.out] at this
      exact ⟨this, HO.out.pform⟩
end Go.Proofs.YthbpadjhlkdpeaaGreatDoor
/- The document's minus: the difference to a number that is not greater. -/
namespace Go.Proofs.YthbpadjhlkdpeaaGreatDoor
open Go.RowKit
set_option maxRecDepth 100000 in
set_option maxHeartbeats 4000000 in
theorem rminus_any {v1 v2 : Value} {n m : Nat} {w : World} (h1 : PNum w v1 n) (h2 : PNum w v2 m) (hmn : m ≤ n) (hl1 : (limbs 10000 n).length ≤ 1000000) :
    Calls Tryz.prog 95 #[v1, v2] w (PPost w (n - m)) := by
  obtain ⟨i0, hi, hz0, hz1, hz2⟩ := info_parts info_int
  have hlm := limbs_length_mono (B := 10000) (by omega) hmn
  obtain ⟨p1, c1, rfl, _, _, hp1⟩ := h1.1
  obtain ⟨p2, c2, rfl, _, _, hp2⟩ := h2.1
  obtain ⟨xs, hxs⟩ : ∃ xs, limbs 10000 n = xs := ⟨_, rfl⟩
  obtain ⟨ys, hys⟩ : ∃ ys, limbs 10000 m = ys := ⟨_, rfl⟩
  rw [hxs] at hl1 hp1 hlm ⊢
  rw [hys] at hp2 hlm ⊢
  have HX : Hid (∀ x ∈ xs, x < 10000) := by rw [← hxs]; exact limbs_lt (by omega) n
  have HY : Hid (∀ x ∈ ys, x < 10000) := by rw [← hys]; exact limbs_lt (by omega) m
  have HV : Hid (val 10000 xs = n ∧ val 10000 ys = m) := by rw [← hxs, ← hys]; exact ⟨val_limbs (by omega) n, val_limbs (by omega) m⟩
  have HP1 := Lib.hid hp1
  have HP2 := Lib.hid hp2
  clear hxs hys hp1 hp2
  go_enter Tryz.func95, Tryz.ntmps95
  go_wp2
  go_loopw [5, 6, 7] (fun vo vb vi wr => ∃ (k b : Nat) (out : List Nat), vi = .int .i64 k ∧ vb = .int .i64 b ∧ k ≤ xs.length ∧ b ≤ 1 ∧ Hid (MinusInv 10000 xs ys k out b) ∧ Hid (Grow .i64 3 wr w.heap.size vo out) ∧ Hid (out.length = k) ∧ Hid (Below w.heap.size w wr)) (fun _ _ vi _ => xs.length - (intOf vi).toNat)
  case atStart => exact ⟨0, 0, [], rfl, rfl, by omega, by omega, MinusInv.start _ _ _, Grow.nil, rfl, Below.refl _ _⟩
  case round =>
    obtain ⟨k, b, out, rfl, rfl, hk, hb1, HI, HO, HLEN, HB⟩ := hrel
    obtain ⟨po, no, co, rfl⟩ : ∃ p n c, u5 = .slice p n c := by obtain ⟨q, c, h⟩ := HO.out.form; exact ⟨_, _, _, h⟩
    by_cases hlt1 : k < xs.length
    · have hm1 : k + 1 ≤ maxLen := by unfold maxLen; omega
      have hm2 : (k + 1) * 8 ≤ 140737488355328 := by omega
      obtain ⟨b1, o1, rfl, hb1, a1⟩ := HP1.out (List.ne_nil_of_length_pos (by omega))
      obtain ⟨x, hx⟩ : ∃ x, xs.getD k 0 = x := ⟨_, rfl⟩
      have hxl : x < 10000 := by rw [← hx]; exact getD_lt (by omega) HX.out k
      have cx : wr.cell? ⟨b1, o1 + k, none⟩ = some (.int .i64 (x : Nat)) := (HB.out.cell (p := ⟨b1, o1 + k, none⟩) hb1).trans (a1.getD hlt1 hx)
      have Hx := Lib.hid hx
      clear hx a1
      by_cases hlt2 : k < ys.length
      · obtain ⟨b2, o2, rfl, hb2, a2⟩ := HP2.out (List.ne_nil_of_length_pos (by omega))
        obtain ⟨y, hy⟩ : ∃ y, ys.getD k 0 = y := ⟨_, rfl⟩
        have hyl : y < 10000 := by rw [← hy]; exact getD_lt (by omega) HY.out k
        have cy : wr.cell? ⟨b2, o2 + k, none⟩ = some (.int .i64 (y : Nat)) := (HB.out.cell (p := ⟨b2, o2 + k, none⟩) hb2).trans (a2.getD hlt2 hy)
        have Hy := Lib.hid hy
        clear hy a2
        by_cases hneg : x < b + y
        · have hn : ((x : Int) - b - y) < 0 := by omega
          have E1 : Hid (((x : Int) - b - y) + 10000 = (x + 10000 - (b + y) : Nat)) := by show _ = _; omega
          have HS := HI.out.step_borrow (by omega) HY.out (less := b + y) (by have h := Hy.out; omega) (by rw [Hx.out]; exact hneg)
          rw [Hx.out] at HS
          have HS := Lib.hid HS
          clear hneg
          have hown : wr.ownsRow w.heap.size 3 1 (.slice po no co) k ((out).map fun x => Value.int .i64 (x : Nat)) := by
            have := HO.out; unfold Grow at this; rwa [HLEN.out] at this
          have hsz := HB.out.size
          have hownA := hown.alloc (.cells #[.int .i64 (((x : Int) - b - y) + 10000)] 3)
          have hm3 : w.heap.size ≤ (wr.alloc (.cells #[.int .i64 (((x : Int) - b - y) + 10000)] 3)).heap.size := by simp; omega
          go_wp2_with (at_builtin; go_loud (refine wpList_append_own _ rfl _ _ 82 rfl w.heap.size 3 i0 (.int .i64 0) 1 8 Tryz.underlying82 hi hz0 hz1 hz2 rfl (by decide) _ k _ rfl hownA ⟨wr.heap.size, 0, none⟩ 1 1 [.int .i64 (((x : Int) - b - y) + 10000)] rfl rfl (cell_one_new _ _ _) (by simp [Value.oneCell']) hm1 hm2 hm3 ?_); intro v' w1 hown1 hgrow1 _)
          have HG : Hid (Grow .i64 3 w1 w.heap.size v' (out ++ [x + 10000 - (b + y)])) := Grow.snoc HLEN.out E1.out hown1
          have HB1 : Hid (Below w.heap.size w w1) := (HB.out.alloc hsz _).grown hgrow1 hm3 (fun z hz => (World.ownsRow.lt hownA z hz).1)
          clear hown hownA hown1 hgrow1
          go_roundw
          case rel => exact ⟨k + 1, 1, _, by go_num, rfl, by omega, by omega, HS, HG, by show _ = _; rw [List.length_append, HLEN.out]; rfl, HB1⟩
          case measure => simp [intOf]; omega
        · have hn : ¬ ((x : Int) - b - y) < 0 := by omega
          have E1 : Hid (((x : Int) - b - y) = (x - (b + y) : Nat)) := by show _ = _; omega
          have HS := HI.out.step_plain HX.out (by omega) (less := b + y) (by have h := Hy.out; omega) (by rw [Hx.out]; omega)
          rw [Hx.out] at HS
          have HS := Lib.hid HS
          clear hneg
          have hown : wr.ownsRow w.heap.size 3 1 (.slice po no co) k ((out).map fun x => Value.int .i64 (x : Nat)) := by
            have := HO.out; unfold Grow at this; rwa [HLEN.out] at this
          have hsz := HB.out.size
          have hownA := hown.alloc (.cells #[.int .i64 ((x : Int) - b - y)] 3)
          have hm3 : w.heap.size ≤ (wr.alloc (.cells #[.int .i64 ((x : Int) - b - y)] 3)).heap.size := by simp; omega
          go_wp2_with (at_builtin; go_loud (refine wpList_append_own _ rfl _ _ 82 rfl w.heap.size 3 i0 (.int .i64 0) 1 8 Tryz.underlying82 hi hz0 hz1 hz2 rfl (by decide) _ k _ rfl hownA ⟨wr.heap.size, 0, none⟩ 1 1 [.int .i64 ((x : Int) - b - y)] rfl rfl (cell_one_new _ _ _) (by simp [Value.oneCell']) hm1 hm2 hm3 ?_); intro v' w1 hown1 hgrow1 _)
          have HG : Hid (Grow .i64 3 w1 w.heap.size v' (out ++ [x - (b + y)])) := Grow.snoc HLEN.out E1.out hown1
          have HB1 : Hid (Below w.heap.size w w1) := (HB.out.alloc hsz _).grown hgrow1 hm3 (fun z hz => (World.ownsRow.lt hownA z hz).1)
          clear hown hownA hown1 hgrow1
          go_roundw
          case rel => exact ⟨k + 1, 0, _, by go_num, rfl, by omega, by omega, HS, HG, by show _ = _; rw [List.length_append, HLEN.out]; rfl, HB1⟩
          case measure => simp [intOf]; omega
      · have Hy : Hid (ys.getD k 0 = 0) := by show _ = _; simp [List.getD, hlt2]
        by_cases hneg : x < b
        · have hn : ((x : Int) - b) < 0 := by omega
          have E1 : Hid (((x : Int) - b) + 10000 = (x + 10000 - (b) : Nat)) := by show _ = _; omega
          have HS := HI.out.step_borrow (by omega) HY.out (less := b) (by have h := Hy.out; omega) (by rw [Hx.out]; exact hneg)
          rw [Hx.out] at HS
          have HS := Lib.hid HS
          clear hneg
          have hown : wr.ownsRow w.heap.size 3 1 (.slice po no co) k ((out).map fun x => Value.int .i64 (x : Nat)) := by
            have := HO.out; unfold Grow at this; rwa [HLEN.out] at this
          have hsz := HB.out.size
          have hownA := hown.alloc (.cells #[.int .i64 (((x : Int) - b) + 10000)] 3)
          have hm3 : w.heap.size ≤ (wr.alloc (.cells #[.int .i64 (((x : Int) - b) + 10000)] 3)).heap.size := by simp; omega
          go_wp2_with (at_builtin; go_loud (refine wpList_append_own _ rfl _ _ 82 rfl w.heap.size 3 i0 (.int .i64 0) 1 8 Tryz.underlying82 hi hz0 hz1 hz2 rfl (by decide) _ k _ rfl hownA ⟨wr.heap.size, 0, none⟩ 1 1 [.int .i64 (((x : Int) - b) + 10000)] rfl rfl (cell_one_new _ _ _) (by simp [Value.oneCell']) hm1 hm2 hm3 ?_); intro v' w1 hown1 hgrow1 _)
          have HG : Hid (Grow .i64 3 w1 w.heap.size v' (out ++ [x + 10000 - (b)])) := Grow.snoc HLEN.out E1.out hown1
          have HB1 : Hid (Below w.heap.size w w1) := (HB.out.alloc hsz _).grown hgrow1 hm3 (fun z hz => (World.ownsRow.lt hownA z hz).1)
          clear hown hownA hown1 hgrow1
          go_roundw
          case rel => exact ⟨k + 1, 1, _, by go_num, rfl, by omega, by omega, HS, HG, by show _ = _; rw [List.length_append, HLEN.out]; rfl, HB1⟩
          case measure => simp [intOf]; omega
        · have hn : ¬ ((x : Int) - b) < 0 := by omega
          have E1 : Hid (((x : Int) - b) = (x - (b) : Nat)) := by show _ = _; omega
          have HS := HI.out.step_plain HX.out (by omega) (less := b) (by have h := Hy.out; omega) (by rw [Hx.out]; omega)
          rw [Hx.out] at HS
          have HS := Lib.hid HS
          clear hneg
          have hown : wr.ownsRow w.heap.size 3 1 (.slice po no co) k ((out).map fun x => Value.int .i64 (x : Nat)) := by
            have := HO.out; unfold Grow at this; rwa [HLEN.out] at this
          have hsz := HB.out.size
          have hownA := hown.alloc (.cells #[.int .i64 ((x : Int) - b)] 3)
          have hm3 : w.heap.size ≤ (wr.alloc (.cells #[.int .i64 ((x : Int) - b)] 3)).heap.size := by simp; omega
          go_wp2_with (at_builtin; go_loud (refine wpList_append_own _ rfl _ _ 82 rfl w.heap.size 3 i0 (.int .i64 0) 1 8 Tryz.underlying82 hi hz0 hz1 hz2 rfl (by decide) _ k _ rfl hownA ⟨wr.heap.size, 0, none⟩ 1 1 [.int .i64 ((x : Int) - b)] rfl rfl (cell_one_new _ _ _) (by simp [Value.oneCell']) hm1 hm2 hm3 ?_); intro v' w1 hown1 hgrow1 _)
          have HG : Hid (Grow .i64 3 w1 w.heap.size v' (out ++ [x - (b)])) := Grow.snoc HLEN.out E1.out hown1
          have HB1 : Hid (Below w.heap.size w w1) := (HB.out.alloc hsz _).grown hgrow1 hm3 (fun z hz => (World.ownsRow.lt hownA z hz).1)
          clear hown hownA hown1 hgrow1
          go_roundw
          case rel => exact ⟨k + 1, 0, _, by go_num, rfl, by omega, by omega, HS, HG, by show _ = _; rw [List.length_append, HLEN.out]; rfl, HB1⟩
          case measure => simp [intOf]; omega
    · obtain rfl : k = xs.length := by omega
      have HL : Hid (∀ z ∈ out, z < 10000) := HI.out.lt
      have HD : Hid (val 10000 out = n - m) := by show _ = _; rw [HI.out.done hlm (by rw [HV.out.1, HV.out.2]; exact hmn), HV.out.1, HV.out.2]
      have ht := rtrim_any HO.out.nums HO.out.pform HL.out _ HD.out
      go_wp2_with fail
      refine ht.mono ?_
      rintro e' w' ⟨v', rfl, rfl, hv, _⟩
      obtain ⟨p', m', c', rfl⟩ := hv.form
      have HVV := Lib.hid hv
      clear ht hv
      go_wp2
      go_ret
      exact ⟨_, rfl, HVV.out, HB.out⟩
end Go.Proofs.YthbpadjhlkdpeaaGreatDoor
/- The document's times: the product of two numbers. -/
namespace Go.Proofs.YthbpadjhlkdpeaaGreatDoor
open Go.RowKit

set_option maxRecDepth 100000 in
set_option maxHeartbeats 4000000 in
theorem rtimes_any {v1 v2 : Value} {n m : Nat} {w : World} (h1 : PNum w v1 n) (h2 : PNum w v2 m) (hl1 : (limbs 10000 n).length ≤ 1000000) (hl2 : (limbs 10000 m).length ≤ 1000000) :
    Calls Tryz.prog 68 #[v1, v2] w (PPost w (n * m)) := by
  obtain ⟨p1, c1, rfl, _, _, hp1⟩ := h1.1
  obtain ⟨p2, c2, rfl, _, _, hp2⟩ := h2.1
  obtain ⟨xs, hxs⟩ : ∃ xs, limbs 10000 n = xs := ⟨_, rfl⟩
  obtain ⟨ys, hys⟩ : ∃ ys, limbs 10000 m = ys := ⟨_, rfl⟩
  rw [hxs] at hl1 hp1 ⊢
  rw [hys] at hl2 hp2 ⊢
  have HX : Hid (∀ x ∈ xs, x < 10000) := by rw [← hxs]; exact limbs_lt (by omega) n
  have HY : Hid (∀ x ∈ ys, x < 10000) := by rw [← hys]; exact limbs_lt (by omega) m
  have HV : Hid (val 10000 xs = n ∧ val 10000 ys = m) := by rw [← hxs, ← hys]; exact ⟨val_limbs (by omega) n, val_limbs (by omega) m⟩
  have HP1 := Lib.hid hp1
  have HP2 := Lib.hid hp2
  clear hxs hys hp1 hp2
  obtain ⟨i0, hi, hz0, hz1, hz2⟩ := info_parts info_int
  go_enter Tryz.func68, Tryz.ntmps68
  go_wp2_with (at_make; refine wpList_make_full _ rfl _ _ 82 rfl w.heap.size 3 i0 (.int .i64 0) 1 Tryz.underlying82 hi hz0 hz1 _ _ _ _ (xs.length + ys.length) rfl rfl (by omega) (by omega) ?b2 ?b3 (Nat.le_refl _) ?_)
  case b2 => rw [hz2]; omega
  case b3 => unfold maxLen; omega
  intro w0 hown0 hgrow0
  have HB0 := Lib.hid ((Below.refl w.heap.size w).grown hgrow0 (Nat.le_refl _) (fun k h => by cases h))
  have HR0 := Lib.hid (Row.full (k := .i64) hown0)
  clear hgrow0 hown0
  go_wp2
  go_loopw [6] (fun i wr => ∃ (k : Nat) (o : List Nat), k ≤ xs.length ∧ i = .int .i64 k ∧ Hid (Row .i64 3 wr w.heap.size w.heap.size (xs.length + ys.length) o) ∧
      Hid (RowsInv 10000 (xs.length + ys.length) xs ys k o) ∧ Hid (Below w.heap.size w wr)) (fun i _ => xs.length - (intOf i).toNat)
  case atStart => exact ⟨0, _, Nat.zero_le _, rfl, HR0, RowsInv.start (by omega) _ _ _, HB0⟩
  case round =>
    obtain ⟨i, o, hk, rfl, HR, HI, HB⟩ := hrel
    by_cases hlt : i < xs.length
    · obtain ⟨b1, off1, rfl, hb1, ha1⟩ := HP1.out (List.ne_nil_of_length_pos (by omega))
      obtain ⟨x, hx⟩ : ∃ x, xs.getD i 0 = x := ⟨_, rfl⟩
      have hxl : x < 10000 := by rw [← hx]; exact getD_lt (by omega) HX.out i
      have Hx := Lib.hid hx
      have HT := Lib.hid (HI.out.inner (by omega) x)
      have HA1 := Lib.hid ha1
      clear hx ha1 HI
      go_wp2
      obtain ⟨wo, hwo⟩ : ∃ wo : World, wo = wr := ⟨_, rfl⟩
      go_loopw [7, 8] (fun c kk wr => ∃ (k : Nat) (o : List Nat) (cr : Nat), k ≤ ys.length ∧ kk = .int .i64 k ∧ c = .int .i64 cr ∧ Hid (Row .i64 3 wr w.heap.size w.heap.size (xs.length + ys.length) o) ∧
          Hid (TimesInv 10000 (xs.length + ys.length) i (val 10000 (xs.take i) * val 10000 ys) x ys k o cr) ∧ Hid (Below w.heap.size w wr)) (fun _ kk _ => ys.length - (intOf kk).toNat)
      case atStart => exact ⟨0, _, 0, Nat.zero_le _, rfl, rfl, HR, HT, HB⟩
      case round =>
        clear HT HR HB hwo
        obtain ⟨k, o, cr, hk2, rfl, rfl, HR, HT, HB⟩ := hrel
        have hcr := HT.out.carry
        by_cases hlt2 : k < ys.length
        · have cx : wr.cell? ⟨b1, off1 + i, none⟩ = some (.int .i64 (x : Nat)) := (HB.out.cell (p := ⟨b1, off1 + i, none⟩) hb1).trans (HA1.out.getD hlt Hx.out)
          obtain ⟨b2, off2, rfl, hb2, ha2⟩ := HP2.out (List.ne_nil_of_length_pos (by omega))
          obtain ⟨y, hy⟩ : ∃ y, ys.getD k 0 = y := ⟨_, rfl⟩
          have hyl : y < 10000 := by rw [← hy]; exact getD_lt (by omega) HY.out k
          have cy : wr.cell? ⟨b2, off2 + k, none⟩ = some (.int .i64 (y : Nat)) := (HB.out.cell (p := ⟨b2, off2 + k, none⟩) hb2).trans (ha2.getD hlt2 hy)
          obtain ⟨z, hz⟩ : ∃ z, o.getD (i + k) 0 = z := ⟨_, rfl⟩
          have hzl : z < 10000 := by rw [← hz]; exact getD_lt (by omega) HT.out.lt _
          have hlen := HT.out.len
          have cz : wr.cell? ⟨w.heap.size, i + k, none⟩ = some (.int .i64 (z : Nat)) := HR.out.cell (by omega) hz
          have fz : wr.frozen? ⟨w.heap.size, i + k, none⟩ = false := HR.out.frozen _
          have Hlen := Lib.hid hlen
          have Hy := Lib.hid hy
          have Hz := Lib.hid hz
          have hmul : x * y ≤ 9999 * 9999 := Nat.mul_le_mul (by omega) (by omega)
          have hmul' : ((x * y : Nat) : Int) = (x : Int) * y := by simp
          have hm0 : 0 ≤ (x : Int) * y := by omega
          have hm1 : (x : Int) * y ≤ 99980001 := by omega
          have e3 : ((cr + z + x * y : Nat) : Int) = (cr : Int) + z + x * y := by simp
          have E1 : Hid (((cr : Int) + z + x * y) % 10000 = ((cr + z + x * y) % 10000 : Nat)) := by show _ = _; omega
          have E2 : Hid (((cr : Int) + z + x * y) / 10000 = ((cr + z + x * y) / 10000 : Nat)) := by show _ = _; omega
          have HS := Lib.hid (HT.out.step (by omega) HY.out hxl hlt2 (by omega) (show cr + z + x * y = cr + o.getD (i + k) 0 + x * ys.getD k 0 by rw [Hy.out, Hz.out]))
          clear hy hz hlen ha2 hmul hmul' e3
          have i1 : (0 : Int) ≤ (i : Int) + k := by omega
          have i2 : (i : Int) + k < (xs.length : Int) + ys.length := by omega
          have i3 : ((i : Int) + k).toNat = i + k := by omega
          go_wp2_with fail
          go_region
          clear cx cy cz
          obtain ⟨w8, hw8⟩ : ∃ w8, wr.drew = w8 := ⟨_, rfl⟩
          have HR8 : Hid (Row .i64 3 w8 w.heap.size w.heap.size (xs.length + ys.length) o) := by rw [← hw8]; exact HR
          have HB8 : Hid (Below w.heap.size w w8) := by rw [← hw8]; exact HB.out.drew
          have cz : w8.cell? ⟨w.heap.size, i + k, none⟩ = some (.int .i64 (z : Nat)) := HR8.out.cell (by rw [Hlen.out]; omega) Hz.out
          have fz8 : w8.frozen? ⟨w.heap.size, i + k, none⟩ = false := HR8.out.frozen _
          rw [hw8]
          clear fz hw8
          go_wp2
          go_roundw
          case rel => exact ⟨k + 1, _, _, by omega, by go_num, by rw [E2.out], by rw [E1.out]; exact HR8.out.set _ _, HS, HB8.out.setCell (Nat.le_refl _) _⟩
          case measure => simp [intOf]; omega
        · obtain rfl : k = ys.length := by omega
          have hlen := HT.out.len
          have hz : o.getD (i + ys.length) 0 = 0 := HT.out.zero _ (Nat.le_refl _)
          have cz : wr.cell? ⟨w.heap.size, i + ys.length, none⟩ = some (.int .i64 (0 : Nat)) := HR.out.cell (by omega) hz
          have fz : wr.frozen? ⟨w.heap.size, i + ys.length, none⟩ = false := HR.out.frozen _
          have HS := Lib.hid (HT.out |> RowsInv.step (x := x) (n := xs) (by omega) Hx.out.symm)
          have Hlen := Lib.hid hlen
          clear hz hlen
          go_wp2
          go_roundw
          case rel => exact ⟨i + 1, _, by omega, by go_num, HR.out.set _ _, HS, HB.out.setCell (Nat.le_refl _) _⟩
          case measure => simp [intOf]; omega
    · obtain rfl : i = xs.length := by omega
      have HL : Hid (∀ z ∈ o, z < 10000) := HI.out.lt
      have HD : Hid (val 10000 o = n * m) := by show _ = _; rw [HI.out.done, HV.out.1, HV.out.2]
      have HNL : Hid (o.length = xs.length + ys.length) := HI.out.len
      have ht := rtrim_any HR.out.nums (.inr ⟨_, _, _, rfl⟩) HL.out _ HD.out
      rw [HNL.out] at ht
      go_wp2_with fail
      refine ht.mono ?_
      rintro e' w' ⟨v', rfl, rfl, hv, _⟩
      obtain ⟨p', m', c', rfl⟩ := hv.form
      have HVV := Lib.hid hv
      clear ht hv
      go_wp2
      go_ret
      exact ⟨_, rfl, HVV.out, HB.out⟩
end Go.Proofs.YthbpadjhlkdpeaaGreatDoor
/- The document's over: quotient and rest; gcd. -/
namespace Go.Proofs.YthbpadjhlkdpeaaGreatDoor
open Go.RowKit

/-- What over answers. -/
def ROverPost (w : World) (n m : Nat) (e : Ending) (w' : World) : Prop := ∃ q r, e = .returned (.tuple #[q, r]) ∧ PNum w' q (n / m) ∧ PNum w' r (n % m) ∧ Below w.heap.size w w'

theorem one_part (w : World) (x : Nat) (h0 : 0 < x) (h1 : x < 10000) : PNum (w.alloc (.cells #[.int .i64 (x : Nat)] 3)) (.slice (some ⟨w.heap.size, 0, none⟩) 1 1) x := by
  unfold PNum
  rw [limbs_one' h0 h1]
  refine ⟨⟨_, 1, rfl, Nat.le_refl _, by simp [maxLen], fun _ => ⟨_, 0, rfl, by simp, fun j hj => ?_⟩⟩, .inr ⟨_, _, _, rfl⟩⟩
  match j, hj with
  | 0, _ => exact cell_new _ _ _ 0 rfl
  | j + 1, h => simp at h

theorem limbs_cons (x r : Nat) (hx : x < 10000) : val 10000 (x :: limbs 10000 r) = r * 10000 + x := by
  rw [val_cons, val_limbs (by omega)]; omega
theorem cons_lt {x r : Nat} (hx : x < 10000) : ∀ y ∈ x :: limbs 10000 r, y < 10000 := by
  intro y hy
  rcases List.mem_cons.1 hy with rfl | hy
  · exact hx
  · exact limbs_lt (by omega) r y hy
/-- The search has found the digit. -/
theorem found {s d l h : Nat} (h1 : l * d ≤ s) (h2 : s < h * d) (h3 : h ≤ l + 1) (h4 : l < h) : l = s / d := by
  obtain rfl : h = l + 1 := by omega
  have hd : 0 < d := by
    rcases Nat.eq_zero_or_pos d with h0 | h0
    · subst h0; omega
    · exact h0
  exact (Nat.div_eq_of_lt_le h1 h2).symm

theorem rmul_lims {n m k l : Nat} (h1 : (limbs 10000 n).length ≤ k) (h2 : (limbs 10000 m).length ≤ l) : (limbs 10000 (n * m)).length ≤ k + l := by
  refine limbs_length_le (by omega) ?_
  have a1 := val_lt (limbs_lt (B := 10000) (by omega) n)
  have a2 := val_lt (limbs_lt (B := 10000) (by omega) m)
  rw [val_limbs (by omega)] at a1 a2
  rw [Nat.pow_add]
  refine Nat.mul_lt_mul'' (Nat.lt_of_lt_of_le a1 (Nat.pow_le_pow_right (by omega) h1)) (Nat.lt_of_lt_of_le a2 (Nat.pow_le_pow_right (by omega) h2))
theorem one_lim {x : Nat} (h0 : 0 < x) (h1 : x < 10000) : (limbs 10000 x).length ≤ 1 := by rw [limbs_one' h0 h1]; exact Nat.le_refl _

set_option maxRecDepth 100000 in
set_option maxHeartbeats 8000000 in
theorem rover_any {v1 v2 : Value} {n d : Nat} {w : World} (h1 : PNum w v1 n) (h2 : PNum w v2 d) (hl1 : (limbs 10000 n).length ≤ 100000) (hl2 : (limbs 10000 d).length ≤ 100000) (hd : 0 < d) :
    Calls Tryz.prog 115 #[v1, v2] w (ROverPost w n d) := by
  obtain ⟨i0, hi, hz0, hz1, hz2⟩ := info_parts info_int
  obtain ⟨p2, m2, c2, rfl⟩ := h2.form
  obtain ⟨p1, c1, rfl, _, _, hp1⟩ := h1.1
  obtain ⟨xs, hxs⟩ : ∃ xs, limbs 10000 n = xs := ⟨_, rfl⟩
  rw [hxs] at hl1 hp1 ⊢
  have HX : Hid (∀ x ∈ xs, x < 10000) := by rw [← hxs]; exact limbs_lt (by omega) n
  have HV : Hid (val 10000 xs = n) := by rw [← hxs]; exact val_limbs (by omega) n
  have HP1 := Lib.hid hp1
  have H2 := Lib.hid h2
  have HD0 := Lib.hid hd
  have HL2 := Lib.hid hl2
  clear hxs hp1 h1 h2 hd hl2
  go_enter Tryz.func115, Tryz.ntmps115
  go_wp2_with (at_make; refine wpList_make_full _ rfl _ _ 82 rfl w.heap.size 3 i0 (.int .i64 0) 1 Tryz.underlying82 hi hz0 hz1 _ _ _ _ (xs.length) rfl rfl (by omega) (by omega) ?b2 ?b3 (Nat.le_refl _) ?_)
  case b2 => rw [hz2]; omega
  case b3 => unfold maxLen; omega
  intro w0 hown0 hgrow0
  have HB0 := Lib.hid ((Below.refl w.heap.size w).grown hgrow0 (Nat.le_refl _) (fun k h => by cases h))
  have HR0 := Lib.hid (Row.full (k := .i64) hown0)
  clear hgrow0 hown0
  go_wp2
  go_loopw [7, 8] (fun vr vi wr => ∃ (k r : Nat) (o : List Nat), k ≤ xs.length ∧ vi = .int .i64 ((k : Int) - 1) ∧ Hid (Row .i64 3 wr w.heap.size w.heap.size xs.length o) ∧ Hid (OverInv 10000 xs d k o r) ∧ Hid (PNum wr vr r) ∧ Hid (Below w.heap.size w wr)) (fun _ vi _ => (intOf vi + 1).toNat)
  case atStart => exact ⟨xs.length, 0, _, Nat.le_refl _, rfl, HR0, OverInv.start (by omega) _ HD0.out, pnum_nil _, HB0⟩
  case round =>
    obtain ⟨k, r, o, hk, rfl, HR, HI, HRest, HB⟩ := hrel
    obtain ⟨pr, mr, cr, rfl⟩ := HRest.out.form
    have HLO : Hid (o.length = xs.length) := HI.out.inv.len
    rcases Nat.eq_zero_or_pos k with h0 | h0
    · subst h0
      have HD := HI.out.done
      have ht := rtrim_any HR.out.nums (.inr ⟨_, _, _, rfl⟩) HI.out.inv.lt (n / d) (by rw [HD.1, HV.out])
      rw [HLO.out] at ht
      have HE : Hid (r = n % d) := by show _ = _; rw [HD.2, HV.out]
      clear HD
      go_wp2_with fail
      refine ht.mono ?_
      rintro e' w' ⟨v', rfl, rfl, hv, _⟩
      obtain ⟨p', m', c', rfl⟩ := hv.form
      have HVV := Lib.hid hv
      clear ht hv
      go_wp2
      refine bodyPost_ret (v := .tuple #[.slice p' m' c', .slice pr mr cr]) (by simp [results, Tryz.f115, go_sem]) rfl ⟨_, _, rfl, HVV.out, ?_, HB.out⟩
      rw [← HE.out]; exact HRest.out
    · obtain ⟨j, rfl⟩ : ∃ j, k = j + 1 := ⟨k - 1, by omega⟩
      have hj : j < xs.length := by omega
      have ej : ((j + 1 : Nat) : Int) - 1 = (j : Nat) := by omega
      rw [ej]
      obtain ⟨b1, o1, rfl, hb1, a1⟩ := HP1.out (List.ne_nil_of_length_pos (by omega))
      obtain ⟨x, hx⟩ : ∃ x, xs.getD j 0 = x := ⟨_, rfl⟩
      have hxl : x < 10000 := by rw [← hx]; exact getD_lt (by omega) HX.out j
      have cx : wr.cell? ⟨b1, o1 + j, none⟩ = some (.int .i64 (x : Nat)) := (HB.out.cell (p := ⟨b1, o1 + j, none⟩) hb1).trans (a1.getD hj hx)
      have Hx := Lib.hid hx
      have hrd : r < d := HI.out.inv.rest
      have hlr : (limbs 10000 r).length ≤ 100000 := Nat.le_trans (limbs_length_mono (by omega) (Nat.le_of_lt hrd)) HL2.out
      have hmr : mr = (limbs 10000 r).length := by
        obtain ⟨_, _, h, _⟩ := HRest.out.1
        injection h
      have HMR := Lib.hid hmr
      obtain ⟨s, hs⟩ : ∃ s, r * 10000 + x = s := ⟨_, rfl⟩
      have HS : Hid (s = r * 10000 + xs.getD j 0) := by show _ = _; rw [Hx.out, hs]
      have HSV : Hid (val 10000 (x :: limbs 10000 r) = s) := by show _ = _; rw [limbs_cons x r hxl, hs]
      have HSL : Hid (∀ y ∈ x :: limbs 10000 r, y < 10000) := cons_lt hxl
      have hls : (limbs 10000 s).length ≤ 100001 := by
        rw [← HSV.out]
        refine Nat.le_trans (limbs_val_le (by omega) HSL.out) ?_
        simp; omega
      have hsz := HB.out.size
      have al := (Below.refl wr.heap.size wr).alloc (Nat.le_refl _) (.cells #[.int .i64 (x : Nat)] 3)
      have hown : (wr.alloc (.cells #[.int .i64 (x : Nat)] 3)).ownsRow wr.heap.size 3 1 (.slice (some ⟨wr.heap.size, 0, none⟩) 1 1) 1 [.int .i64 (x : Nat)] := World.ownsRow_lit wr #[.int .i64 (x : Nat)] 1 (Nat.le_refl _) (by simp [maxLen]) rfl
      have hrA := HRest.out.after al (Nat.le_refl _)
      have hm1 : 1 + (limbs 10000 r).length ≤ maxLen := by unfold maxLen; omega
      have hm2 : (1 + (limbs 10000 r).length) * 8 ≤ 140737488355328 := by omega
      have hm3 : wr.heap.size ≤ (wr.alloc (.cells #[.int .i64 (x : Nat)] 3)).heap.size := by simp
      clear hx a1 hs ej hmr
      go_wp2_with (at_builtin; go_loud (refine wpList_append_nums rfl _ _ 82 rfl wr.heap.size 3 i0 .i64 8 Tryz.underlying82 hi hz0 hz1 hz2 _ 1 _ rfl hown _ (limbs 10000 r) rfl hrA.1 hrA.2 hm1 hm2 hm3 ?_); intro v' w1 hown1 hgrow1)
      have hG : Grow .i64 3 w1 wr.heap.size v' (x :: limbs 10000 r) := by
        unfold Grow
        rw [List.length_cons, Nat.add_comm (limbs 10000 r).length 1]
        exact hown1
      have HWB := Lib.hid (fun g (hg : v'.ownBlock = some g) => World.ownsRow.lt hown1 g hg)
      have hlw : w.heap.size < wr.heap.size := HR.out.lt.2
      have hB1 : Below w.heap.size w w1 := (HB.out.alloc hsz _).grown hgrow1 (by simp; omega) (fun z hz => by have : wr.heap.size = z := Option.some.inj hz; omega)
      have hR1 : Row .i64 3 w1 w.heap.size w.heap.size xs.length o := (HR.out.alloc _).grown hgrow1 (by intro h; have : wr.heap.size = w.heap.size := Option.some.inj h; omega)
      have ht := rtrim_any hG.nums hG.pform HSL.out s HSV.out
      have HB1 := Lib.hid hB1
      have HR1 := Lib.hid hR1
      have HLW := Lib.hid hlw
      have HI1 := HI
      clear hown hrA hm1 hm2 hm3 al hown1 hgrow1 hG hB1 hR1 hlw cx HR HB HRest
      refine ht.mono ?_
      rintro e w1' ⟨vs, rfl, rfl, hvs, hvb⟩
      obtain ⟨ps, ms, cs, rfl⟩ := hvs.form
      have HVS := Lib.hid hvs
      have HVB : Hid (∀ g, (Value.slice ps ms cs).ownBlock = some g → w.heap.size < g) := fun g hg => by
        have := (HWB.out g (by rw [← hvb]; exact hg)).1
        have := HLW.out
        omega
      have ho := order_any hvs (H2.out.after HB1.out (Nat.le_refl _)) (by omega) (by have := HL2.out; omega)
      clear ht hvs hvb HWB
      go_wp2_with fail
      refine ho.mono ?_
      rintro e w2 ⟨rfl, hb2⟩
      have HB2 := Lib.hid (HB1.out.trans (hb2.mono HB1.out.size))
      have HR2 := Lib.hid (HR1.out.below hb2 (by have := HR1.out.lt.2; omega))
      have HVS2 := Lib.hid (HVS.out.after hb2 (Nat.le_refl _))
      clear ho hb2 HB1 HR1 HVS
      rcases Nat.lt_or_ge s d with hlt | hge
      · have hsg : sgnN s d < 0 := sgnN_neg.2 hlt
        have HS2 := Lib.hid (HI1.out.skip HX.out hj HS.out hlt)
        clear hlt
        go_wp2
        go_roundw
        case rel => exact ⟨j, s, o, by omega, by go_num, HR2, HS2, HVS2, HB2⟩
        case measure => simp [intOf] <;> omega
      · have hsg : ¬ sgnN s d < 0 := fun h => by have := sgnN_neg.1 h; omega
        have HDG : Hid (s / d < 10000) := HI1.out.digit HX.out hj HS.out
        have HUP : Hid (s < 10000 * d) := by
          have h1 := HDG.out
          have h2 := HD0.out
          have h3 := Nat.lt_mul_div_succ s h2
          have h4 : d * (s / d + 1) ≤ d * 10000 := Nat.mul_le_mul_left _ h1
          show _ < _
          rw [Nat.mul_comm 10000 d]; omega
        have HLO1 : Hid (1 * d ≤ s) := by show _ ≤ _; omega
        clear hge
        go_wp2
        obtain ⟨wo, hwo⟩ : ∃ wo : World, wo = w2 := ⟨_, rfl⟩
        go_loopw [9, 10] (fun vl vh wz => ∃ (l h : Nat), vl = .int .i64 l ∧ vh = .int .i64 h ∧ 1 ≤ l ∧ l < h ∧ h ≤ 10000 ∧ Hid (l * d ≤ s) ∧ Hid (s < h * d) ∧ Hid (Below w2.heap.size w2 wz)) (fun vl vh _ => (intOf vh - intOf vl).toNat)
        case atStart => exact ⟨1, 10000, rfl, rfl, Nat.le_refl _, by omega, Nat.le_refl _, HLO1, HUP, Below.refl _ _⟩
        case round =>
          obtain ⟨l, h, rfl, rfl, hl1', hlh, hh, HL, HH, HZ⟩ := hrel
          obtain ⟨wz, hwz⟩ : ∃ wz : World, wr = wz := ⟨_, rfl⟩
          subst hwz
          have HBZ := Lib.hid (HB2.out.trans (HZ.out.mono HB2.out.size))
          have HVZ := Lib.hid (HVS2.out.after HZ.out (Nat.le_refl _))
          by_cases hgo : 1 < h - l
          · have hgo' : (1 : Int) < (h : Int) - l := by omega
            obtain ⟨m, hm⟩ : ∃ m, (l + h) / 2 = m := ⟨_, rfl⟩
            have em : ((l : Int) + h) / 2 = (m : Nat) := by omega
            have em' : ((l : Int) + h).tdiv 2 = (m : Nat) := by rw [← em]; exact Int.tdiv_eq_ediv_of_nonneg (by omega)
            have hm0 : l < m ∧ m < h := by omega
            have al := (Below.refl wr.heap.size wr).alloc (Nat.le_refl _) (.cells #[.int .i64 (m : Nat)] 3)
            have ht := rtimes_any ((H2.out.after HBZ.out (Nat.le_refl _)).after al (Nat.le_refl _)) (one_part wr m (by omega) (by omega)) (by have := HL2.out; omega) (by have := one_lim (x := m) (by omega) (by omega); omega)
            have HAL := Lib.hid al
            clear hgo hm al
            go_wp2_with fail
            refine ht.mono ?_
            rintro e w4 ⟨vp, rfl, hvp, hb4⟩
            obtain ⟨pp, mp, cp, rfl⟩ := hvp.form
            have hb4' := HAL.out.trans (hb4.mono HAL.out.size)
            have HZ4 := Lib.hid (HZ.out.trans (hb4'.mono HZ.out.size))
            have ho := order_any hvp (HVZ.out.after hb4' (Nat.le_refl _)) (by have := rmul_lims HL2.out (one_lim (x := m) (by omega) (by omega)); omega) (by omega)
            clear ht hvp hb4 hb4'
            go_wp2_with fail
            refine ho.mono ?_
            rintro e w5 ⟨rfl, hb5⟩
            have HZ5 := Lib.hid (HZ4.out.trans (hb5.mono HZ4.out.size))
            clear ho hb5
            by_cases hle : d * m ≤ s
            · have hs : sgnN (d * m) s ≤ 0 := sgnN_le.2 hle
              have HL5 : Hid (m * d ≤ s) := by show _ ≤ _; rw [Nat.mul_comm]; exact hle
              clear hle
              go_wp2
              go_roundw
              case rel => exact ⟨m, h, rfl, rfl, by omega, by omega, by omega, HL5, HH, HZ5⟩
              case measure => simp [intOf] <;> omega
            · have hs : ¬ sgnN (d * m) s ≤ 0 := fun h => hle (sgnN_le.1 h)
              have HH5 : Hid (s < m * d) := by show _ < _; rw [Nat.mul_comm]; omega
              clear hle
              go_wp2
              go_roundw
              case rel => exact ⟨l, m, rfl, rfl, by omega, by omega, by omega, HL, HH5, HZ5⟩
              case measure => simp [intOf] <;> omega
          · have hgo' : ¬ (1 : Int) < (h : Int) - l := by omega
            have HQ : Hid (l = s / d) := found HL.out HH.out (by omega) hlh
            have HRZ := Lib.hid (HR2.out.below HZ.out (by have := HR2.out.lt.2; omega))
            have cz : wr.cell? ⟨w.heap.size, j, none⟩ = some (.int .i64 ((o.getD j 0 : Nat) : Int)) := HRZ.out.cell (by rw [HLO.out]; exact hj) rfl
            have fz : wr.frozen? ⟨w.heap.size, j, none⟩ = false := HRZ.out.frozen _
            have hjl : (j : Int) < xs.length := by omega
            have hj0 : (0 : Int) ≤ (j : Int) := by omega
            have hR3 := HRZ.out.set j l
            have hB3 := HBZ.out.setCell (p := ⟨w.heap.size, j, none⟩) (Nat.le_refl _) (.int .i64 (l : Nat))
            have hV3 : PNum (wr.setCell ⟨w.heap.size, j, none⟩ (.int .i64 (l : Nat))) (.slice ps ms cs) s := HVZ.out.kept (by simp) (fun b hb _ => Below.heap_setCell wr ⟨w.heap.size, j, none⟩ _ b (by have := HVB.out b hb; simp; omega))
            obtain ⟨w3, hw3⟩ : ∃ w3, wr.setCell ⟨w.heap.size, j, none⟩ (.int .i64 (l : Nat)) = w3 := ⟨_, rfl⟩
            rw [hw3] at hR3 hB3 hV3
            have HR3 := Lib.hid hR3
            have HB3 := Lib.hid hB3
            have HV3 := Lib.hid hV3
            have al := (Below.refl w3.heap.size w3).alloc (Nat.le_refl _) (.cells #[.int .i64 (l : Nat)] 3)
            have ht := rtimes_any ((H2.out.after HB3.out (Nat.le_refl _)).after al (Nat.le_refl _)) (one_part w3 l (by omega) (by omega)) (by have := HL2.out; omega) (by have := one_lim (x := l) (by omega) (by omega); omega)
            have HAL := Lib.hid al
            clear hgo hR3 hB3 hV3 al
            go_wp2_with fail
            refine ht.mono ?_
            rintro e w4 ⟨vp, rfl, hvp, hb4⟩
            obtain ⟨pp, mp, cp, rfl⟩ := hvp.form
            have hb4' := HAL.out.trans (hb4.mono HAL.out.size)
            have HB4 := Lib.hid (HB3.out.trans (hb4'.mono HB3.out.size))
            have HR4 := Lib.hid (HR3.out.below hb4' (by have := HR3.out.lt.2; omega))
            have hmin := rminus_any (HV3.out.after hb4' (Nat.le_refl _)) hvp (by rw [HQ.out]; exact Nat.mul_div_le s d) (by omega)
            have HE : Hid (s - d * l = s % d) := by show _ = _; rw [HQ.out]; exact (Nat.mod_eq_sub ..).symm
            rw [HE.out] at hmin
            clear ht hvp hb4 hb4' hw3 cz fz
            go_wp2_with fail
            refine hmin.mono ?_
            rintro e w5 ⟨vr, rfl, hvr, hb5⟩
            obtain ⟨pr, mr', cr', rfl⟩ := hvr.form
            have HVR := Lib.hid hvr
            have HB5 := Lib.hid (HB4.out.trans (hb5.mono HB4.out.size))
            have HR5 := Lib.hid (HR4.out.below hb5 (by have := HR4.out.lt.2; omega))
            have HI5 := Lib.hid (HI1.out.step HX.out hj HS.out HQ.out rfl)
            clear hmin hvr hb5
            go_wp2
            go_roundw
            case rel => exact ⟨j, s % d, _, by omega, by go_num, HR5, HI5, HVR, HB5⟩
            case measure => simp [intOf] <;> omega

theorem at_only {k : IntKind} {w : World} {b off : Nat} {xs ys : List Nat} (h1 : At k w b off xs) (h2 : At k w b off ys) (hl : xs.length = ys.length) : xs = ys := by
  refine List.ext_getElem hl fun j h3 h4 => ?_
  have h5 := (h1 j h3).symm.trans (h2 j h4)
  injection h5 with h5
  injection h5 with _ h5
  omega
/-- What one number is. -/
theorem PNum.unique {w : World} {v : Value} {n m : Nat} (h10 : PNum w v n) (h20 : PNum w v m) : n = m := by
  obtain ⟨p1, c1, rfl, _, _, h1⟩ := h10.1
  obtain ⟨p2, c2, hv, _, _, h2⟩ := h20.1
  injection hv with e1 e2 e3
  have : limbs 10000 n = limbs 10000 m := by
    by_cases hn : limbs 10000 n = []
    · rw [hn] at e2 ⊢
      exact (List.eq_nil_of_length_eq_zero e2.symm).symm
    · have hm : limbs 10000 m ≠ [] := fun h => by rw [h] at e2; exact hn (List.eq_nil_of_length_eq_zero e2)
      obtain ⟨b1, o1, rfl, _, a1⟩ := h1 hn
      obtain ⟨b2, o2, hb, _, a2⟩ := h2 hm
      rw [← e1] at hb
      injection hb with hb
      injection hb with hb1 hb2
      subst hb1; subst hb2
      exact at_only a1 a2 e2
  have h3 := congrArg (val 10000) this
  rwa [val_limbs (by omega), val_limbs (by omega)] at h3
open Classical in
/-- The number that lies there: for a loop's measure. -/
noncomputable def pnumV (w : World) (v : Value) : Nat := if h : ∃ n, PNum w v n then h.choose else 0
theorem pnumV_eq {w : World} {v : Value} {n : Nat} (h : PNum w v n) : pnumV w v = n := by
  unfold pnumV
  rw [dif_pos ⟨n, h⟩]
  exact PNum.unique (Exists.choose_spec (⟨n, h⟩ : ∃ n, PNum w v n)) h

set_option maxRecDepth 100000 in
set_option maxHeartbeats 4000000 in
theorem rgcd_any {v1 v2 : Value} {n m : Nat} {w : World} (h1 : PNum w v1 n) (h2 : PNum w v2 m) (hl1 : (limbs 10000 n).length ≤ 100000) (hl2 : (limbs 10000 m).length ≤ 100000) :
    Calls Tryz.prog 117 #[v1, v2] w (PPost w (Nat.gcd n m)) := by
  have H1 := Lib.hid h1
  have H2 := Lib.hid h2
  clear h1 h2
  go_enter Tryz.func117, Tryz.ntmps117
  go_wp2
  go_loopw [0, 1] (fun va vb wr => ∃ (a b : Nat), Hid (PNum wr va a) ∧ Hid (PNum wr vb b) ∧ Hid (Nat.gcd a b = Nat.gcd n m) ∧ Hid ((limbs 10000 a).length ≤ 100000 ∧ (limbs 10000 b).length ≤ 100000) ∧ Hid (Below w.heap.size w wr)) (fun _ vb wr => pnumV wr vb)
  case atStart => exact ⟨n, m, H1, H2, rfl, ⟨hl1, hl2⟩, Below.refl _ _⟩
  case round =>
    obtain ⟨a, b, HA, HB, HG, HL, HW⟩ := hrel
    obtain ⟨pa, ma, ca, rfl⟩ := HA.out.form
    rcases Nat.eq_zero_or_pos b with h0 | h0
    · subst h0
      obtain ⟨p, c, rfl, _, _, _⟩ := id HB.out.1
      have e0 : (limbs 10000 0).length = 0 := by rw [limbs_zero]; rfl
      rw [e0]
      have HN : Hid (PNum wr (.slice pa ma ca) (Nat.gcd n m)) := by
        have h := HG.out
        rw [Nat.gcd_zero_right] at h
        rw [← h]; exact HA
      clear HB HA HG HL e0
      go_wp2
      go_ret
      exact ⟨_, rfl, HN.out, HW.out⟩
    · obtain ⟨p, c, rfl, _, _, _⟩ := id HB.out.1
      have hp : 0 < (limbs 10000 b).length := (limbs_length_pos (by omega)).2 h0
      have HNB : Hid (pnumV wr (.slice p (limbs 10000 b).length c) = b) := pnumV_eq HB.out
      have hov := rover_any HA.out HB.out HL.out.1 HL.out.2 h0
      obtain ⟨l, hl⟩ : ∃ l, (limbs 10000 b).length = l := ⟨_, rfl⟩
      rw [hl] at hov hp HB HNB ⊢
      have Hl := Lib.hid hl
      clear hl
      go_wp2_with fail
      refine hov.mono ?_
      rintro e w9 ⟨q, r, rfl, hq, hr, hb9⟩
      have HR := Lib.hid hr
      have HB9 : Hid (PNum w9 (.slice p l c) b) := HB.out.after hb9 (Nat.le_refl _)
      have HW9 := Lib.hid (HW.out.trans (hb9.mono HW.out.size))
      have HM : Hid (pnumV w9 r < b) := by show _ < _; rw [pnumV_eq hr]; exact Nat.mod_lt _ h0
      clear hov hq hr hb9
      go_wp2
      go_roundw
      case rel => exact ⟨b, a % b, HB9, HR, by rw [← HG.out, Nat.gcd_comm a b]; exact (Nat.gcd_rec b a).symm ▸ (Nat.gcd_comm _ _), ⟨HL.out.2, Nat.le_trans (limbs_length_mono (by omega) (Nat.mod_le _ _)) HL.out.1⟩, HW9⟩
      case measure => rw [HNB.out]; exact HM.out
end Go.Proofs.YthbpadjhlkdpeaaGreatDoor
/- The document's Digits: a number as digits. -/
namespace Go.Proofs.YthbpadjhlkdpeaaGreatDoor
open Go.RowKit

/-- A string of digits whose zeros ahead do not count. -/
def Shown (n : Nat) (s : ByteArray) : Prop := (∀ c ∈ s.data.toList, isDig c = true) ∧ decVal s.data.toList = n
theorem Shown.tail {n : Nat} {s : ByteArray} (h : Shown n s) (hs : 1 < s.size) (h0 : (s[0]'(by omega)).toNat = 48) : Shown n (s.extract 1 s.size) := by
  have e := ext_drop s 1
  rcases hl : s.data.toList with _ | ⟨c, t⟩
  · have := size_len s; rw [hl] at this; simp at this; omega
  · rw [hl] at e
    have hc : s[0]'(by omega) = c := by
      have h1 : s.data.toList[0]'(by rw [size_len]; omega) = c := by simp [hl]
      exact h1
    rw [hc] at h0
    have hc48 : c = 48 := UInt8.toNat_inj.1 h0
    refine ⟨fun x hx => ?_, ?_⟩
    · rw [e] at hx
      exact h.1 x (by rw [hl]; exact List.mem_cons_of_mem _ (by simpa using hx))
    · rw [e]
      have := h.2
      rw [hl, hc48, decVal_strip] at this
      simpa using this
theorem Shown.done {n : Nat} {s : ByteArray} (h : Shown n s) (h0 : 0 < s.size) (hh : ¬ (1 < s.size ∧ (s[0]'h0).toNat = 48)) : s = str (Lib.decDigits n) := by
  rw [← h.2, strip_done h.1 (List.ne_nil_of_length_pos (by rw [size_len]; exact h0)), str_eq]
  rintro ⟨h1, h2⟩
  refine hh ⟨by rw [size_len] at h1; exact h1, ?_⟩
  have := (head48 s h0).1 h2
  omega
theorem shown_append {xs : List Nat} {i k : Nat} {s : ByteArray} (h : DigInv xs i k s.data.toList) {p : Nat} (hp : p = xs.getD i 0 / 10 ^ k) : DigInv xs i (k + 1) ((⟨#[UInt8.ofNat (48 + p % 10)]⟩ : ByteArray) ++ s).data.toList := by
  have := h.step hp
  simpa using this

theorem convert_one (w : World) (q : Nat) (hq : q < 10) :
    (convert 161 9 (.slice (some ⟨w.heap.size, 0, none⟩) 1 1)).run Tryz.prog (w.alloc (.cells #[.int .u8 (48 + (q : Nat))] 5)) = .ok (.string ⟨#[UInt8.ofNat (48 + q)]⟩) (w.alloc (.cells #[.int .u8 (48 + (q : Nat))] 5)) := by
  have h := run_convert_bytes_back (P := Tryz.prog) (w.alloc (.cells #[.int .u8 (48 + (q : Nat))] 5)) 161 9 5 ⟨w.heap.size, 0, none⟩ 1 [UInt8.ofNat (48 + q)] Tryz.underlying161 Tryz.underlying5 Tryz.underlying9 ?_
  · exact h
  · intro j hj
    match j, hj with
    | 0, _ =>
      have h2 : (w.alloc (.cells #[.int .u8 (48 + (q : Nat))] 5)).cell? ⟨w.heap.size, 0, none⟩ = some (.int .u8 (48 + (q : Nat))) := cell_new _ _ _ 0 rfl
      have h3 : ((UInt8.ofNat (48 + q)).toNat : Int) = 48 + (q : Nat) := by rw [UInt8.toNat_ofNat']; omega
      have h4 : (⟨w.heap.size, 0, none⟩ : Addr).add 0 = ⟨w.heap.size, 0, none⟩ := by unfold Addr.add; split <;> simp_all
      rw [h4]
      show _ = some (Value.int .u8 ((UInt8.ofNat (48 + q)).toNat : Int))
      rw [h3]; exact h2
    | j + 1, h => simp at h

/-- What a string answers. -/
def StrPost (s : ByteArray) (w : World) (e : Ending) (w' : World) : Prop := e = .returned (.string s) ∧ Below w.heap.size w w'

set_option maxRecDepth 100000 in
set_option maxHeartbeats 4000000 in
theorem rdigits_any {v : Value} {n : Nat} {w : World} (h1 : PNum w v n) (hl1 : (limbs 10000 n).length ≤ 1000000) :
    Calls Tryz.prog 111 #[v] w (StrPost (str (Lib.decDigits n)) w) := by
  obtain ⟨p1, c1, rfl, _, _, hp1⟩ := h1.1
  obtain ⟨xs, hxs⟩ : ∃ xs, limbs 10000 n = xs := ⟨_, rfl⟩
  rw [hxs] at hl1 hp1 ⊢
  have HX : Hid (∀ x ∈ xs, x < 10000) := by rw [← hxs]; exact limbs_lt (by omega) n
  have HV : Hid (val 10000 xs = n) := by rw [← hxs]; exact val_limbs (by omega) n
  have HP1 := Lib.hid hp1
  clear hxs hp1 h1
  go_enter Tryz.func111, Tryz.ntmps111
  go_wp2
  go_loopw [3, 4] (fun vs vi wr => ∃ (i : Nat) (s : ByteArray), vi = .int .i64 i ∧ i ≤ xs.length ∧ vs = .string s ∧ Hid (DigInv xs i 0 s.data.toList) ∧ Hid (Below w.heap.size w wr)) (fun _ vi _ => xs.length - (intOf vi).toNat)
  case atStart => exact ⟨0, _, rfl, Nat.zero_le _, rfl, DigInv.start _, Below.refl _ _⟩
  case round =>
    obtain ⟨i, s, rfl, hi, rfl, HI, HB⟩ := hrel
    by_cases hlt : i < xs.length
    · obtain ⟨b1, o1, rfl, hb1, a1⟩ := HP1.out (List.ne_nil_of_length_pos (by omega))
      obtain ⟨x, hx⟩ : ∃ x, xs.getD i 0 = x := ⟨_, rfl⟩
      have hxl : x < 10000 := by rw [← hx]; exact getD_lt (by omega) HX.out i
      have cx : wr.cell? ⟨b1, o1 + i, none⟩ = some (.int .i64 (x : Nat)) := (HB.out.cell (p := ⟨b1, o1 + i, none⟩) hb1).trans (a1.getD hlt hx)
      have Hx := Lib.hid hx
      clear hx a1
      go_wp2
      obtain ⟨w0, hw0⟩ : ∃ w0 : World, w0 = wr := ⟨_, rfl⟩
      go_loopw [3, 5, 6] (fun vs vp vk wz => ∃ (k p : Nat) (s : ByteArray), vk = .int .i64 k ∧ k ≤ 4 ∧ vp = .int .i64 p ∧ p < 10000 ∧ vs = .string s ∧ Hid (p = x / 10 ^ k) ∧ Hid (DigInv xs i k s.data.toList) ∧ Hid (Below w.heap.size w wz)) (fun _ _ vk _ => 4 - (intOf vk).toNat)
      case atStart => exact ⟨0, x, s, rfl, by omega, rfl, hxl, rfl, by show _ = _; simp, HI, HB⟩
      case round =>
        clear HI HB cx hw0
        obtain ⟨k, p, s, rfl, hk, rfl, hp4, rfl, HP, HI, HB⟩ := hrel
        by_cases hk4 : k < 4
        · obtain ⟨q, hq⟩ : ∃ q, p % 10 = q := ⟨_, rfl⟩
          obtain ⟨r, hr⟩ : ∃ r, p / 10 = r := ⟨_, rfl⟩
          have e1 : (p : Int) % 10 = (q : Nat) := by omega
          have e2 : (p : Int) / 10 = (r : Nat) := by omega
          have e3 : (p : Int).tmod 10 = (q : Nat) := by rw [← e1]; exact Int.tmod_eq_emod_of_nonneg (by omega)
          have e4 : (p : Int).tdiv 10 = (r : Nat) := by rw [← e2]; exact Int.tdiv_eq_ediv_of_nonneg (by omega)
          have hq10 : q < 10 := by omega
          have HS := shown_append HI.out (p := p) (by rw [HP.out, Hx.out])
          rw [hq] at HS
          have HS := Lib.hid HS
          have HQR : Hid (p / 10 = r ∧ p % 10 = q) := ⟨hr, hq⟩
          clear hq hr
          have HP2 : Hid (p / 10 = x / 10 ^ (k + 1)) := by show _ = _; rw [HP.out, Nat.pow_succ, Nat.div_div_eq_div_mul]
          have hcv := convert_one wr q hq10
          obtain ⟨z, hz⟩ : ∃ z, (⟨#[UInt8.ofNat (48 + q)]⟩ : ByteArray) = z := ⟨_, rfl⟩
          rw [hz] at hcv HS
          have hz1 : z.size = 1 := by rw [← hz]; rfl
          have hsl : s.size ≤ 5000000 := by rw [← size_len, HI.out.len]; omega
          have HB2 := Lib.hid (HB.out.alloc HB.out.size (.cells #[.int .u8 (48 + (q : Nat))] 5))
          clear hz
          go_wp2
          go_roundw
          case rel => exact ⟨k + 1, r, z ++ s, by go_num, by omega, rfl, by omega, rfl, by rw [← HQR.out.1]; exact HP2.out, HS, HB2⟩
          case measure => simp [intOf]; omega
        · obtain rfl : k = 4 := by omega
          have HN := Lib.hid (HI.out.next (by rw [Hx.out]; exact hxl))
          go_wp2
          go_roundw
          case rel => exact ⟨i + 1, s, by go_num, by omega, rfl, HN, HB⟩
          case measure => simp [intOf]; omega
    · obtain rfl : i = xs.length := by omega
      have HD := Lib.hid HI.out.done
      have HSH : Hid (Shown n s) := ⟨HD.out.1, by rw [HD.out.2.1, HV.out]⟩
      have HSZ : Hid (s.size ≤ 4000000 ∧ (s.size = 0 → n = 0)) := ⟨by rw [← size_len, HD.out.2.2]; omega, fun h => by
        have h1 := HD.out.2.2
        rw [size_len, h] at h1
        have h2 : xs = [] := List.eq_nil_of_length_eq_zero (by omega)
        rw [← HV.out, h2]; rfl⟩
      go_wp2
      obtain ⟨w0, rfl⟩ : ∃ w0 : World, w0 = wr := ⟨_, rfl⟩
      go_loopw [3] (fun vs wz => ∃ (s : ByteArray), vs = .string s ∧ Hid (Shown n s) ∧ Hid (s.size ≤ 4000000 ∧ (s.size = 0 → n = 0)) ∧ wz = w0) (fun vs _ => match vs with | .string s => s.size | _ => 0)
      case atStart => exact ⟨s, rfl, HSH, HSZ, rfl⟩
      case round =>
        clear HSH HSZ HD HI
        obtain ⟨s, rfl, HSH, HSZ, rfl⟩ := hrel
        have hsm := HSZ.out.1
        rcases Nat.eq_zero_or_pos s.size with h0 | h0
        · have HE : Hid (str (Lib.decDigits n) = (⟨#[48]⟩ : ByteArray)) := by show _ = _; rw [HSZ.out.2 h0, decDigits_zero]; rfl
          have hl0 : s.toList = [] := by rw [ByteArray.toList_eq]; exact List.eq_nil_of_length_eq_zero (by rw [size_len]; exact h0)
          go_wp2
          go_ret
          exact ⟨by rw [HE.out]; rfl, HB.out⟩
        · obtain ⟨c, hc⟩ : ∃ c, s[0]'h0 = c := ⟨_, rfl⟩
          have hne : s.toList.isEmpty = false := by rw [ByteArray.toList_eq, List.isEmpty_eq_false_iff]; exact List.ne_nil_of_length_pos (by rw [size_len]; exact h0)
          by_cases h1 : 1 < s.size
          · have h1' : (1 : Int) < s.size := by omega
            by_cases h48 : (c.toNat : Int) = 48
            · have hb : ((c.toNat : Int) == 48) = true := by simp [h48]
              have HS2 : Hid (Shown n (s.extract 1 s.size)) := HSH.out.tail h1 (by rw [hc]; omega)
              have hx : (s.extract 1 s.size).size = s.size - 1 := by rw [← size_len, ext_drop, List.length_drop, size_len]
              have HSZ2 : Hid ((s.extract 1 s.size).size ≤ 4000000 ∧ ((s.extract 1 s.size).size = 0 → n = 0)) := ⟨by omega, fun h => by omega⟩
              have HXS : Hid ((s.extract 1 s.size).size < s.size) := by show _ < _; omega
              clear hx hne h48
              go_wp2
              go_roundw
              case rel => exact ⟨s.extract 1 s.size, rfl, HS2, HSZ2, by first | rfl | trivial⟩
              case measure => exact HXS.out
            · have hb : ((c.toNat : Int) == 48) = false := by simp [h48]
              have HE : Hid (s = str (Lib.decDigits n)) := HSH.out.done h0 (fun ⟨_, h⟩ => by rw [hc] at h; omega)
              clear h48
              go_wp2
              go_ret
              exact ⟨by rw [← HE.out]; rfl, HB.out⟩
          · have h1' : ¬ (1 : Int) < s.size := by omega
            have HE : Hid (s = str (Lib.decDigits n)) := HSH.out.done h0 (fun ⟨h, _⟩ => h1 h)
            clear h1
            go_wp2
            go_ret
            exact ⟨by rw [← HE.out]; rfl, HB.out⟩
end Go.Proofs.YthbpadjhlkdpeaaGreatDoor
/- The document's Nat, number, all: what strings are numbers. -/
namespace Go.Proofs.YthbpadjhlkdpeaaGreatDoor
open Go.RowKit

theorem isDig_no {c : UInt8} (h : isDig c = false) : (c.toNat : Int) < 48 ∨ (57 : Int) < c.toNat := by
  unfold isDig at h
  have := of_decide_eq_false h
  omega
theorem all_false {l : List UInt8} {i : Nat} (hi : i < l.length) (h : isDig l[i] = false) : l.all isDig = false := by
  rw [List.all_eq_false]
  exact ⟨l[i], List.getElem_mem hi, by rw [h]; simp⟩
theorem all_true {l : List UInt8} (h : ∀ j (hj : j < l.length), isDig l[j] = true) : l.all isDig = true := by
  rw [List.all_eq_true]
  intro x hx
  obtain ⟨j, hj, rfl⟩ := List.getElem_of_mem hx
  exact h j hj
theorem natOk_no {l : List UInt8} (h : l.all isDig = false) : natOk l = false := by unfold natOk wholeOk plainOk; rw [h]; simp
theorem wholeOk_no {l : List UInt8} (h : l.all isDig = false) : wholeOk l = false := by unfold wholeOk plainOk; rw [h]; simp
theorem plainOk_no {l : List UInt8} (h : l.all isDig = false) : plainOk l = false := by unfold plainOk; rw [h]; simp

/-- The digits up to the k-th. -/
def DigTo (s : ByteArray) (k : Nat) : Prop := ∀ j (h : j < s.data.toList.length), j < k → isDig s.data.toList[j] = true
theorem DigTo.next {s : ByteArray} {k : Nat} (h : DigTo s k) (hk : k < s.size) (hd : isDig s[k] = true) : DigTo s (k + 1) := by
  intro j h1 h2
  rcases Nat.lt_or_ge j k with h3 | h3
  · exact h j h1 h3
  · obtain rfl : j = k := by omega
    exact hd
theorem DigTo.start (s : ByteArray) : DigTo s 0 := by
  intro j _ h
  exact absurd h (by omega)
theorem DigTo.done {s : ByteArray} (h : DigTo s s.size) : s.data.toList.all isDig = true := all_true fun j hj => h j hj (by have h2 := hj; rw [size_len] at h2; exact h2)
theorem dig_stop {s : ByteArray} {k : Nat} (hk : k < s.size) (h : isDig s[k] = false) : s.data.toList.all isDig = false := all_false (i := k) (by rw [size_len]; exact hk) h


set_option maxRecDepth 100000 in
set_option maxHeartbeats 2000000 in
theorem rnat_loop (s : ByteArray) (w : World) (h0 : 0 < s.size) (h6 : s.size ≤ 600) (hh : s.size = 1 ∨ ∃ c, (∃ h, s[0]'h = c) ∧ ((c.toNat : Int) == 48) = false) :
    Calls Tryz.prog 100 #[.string s] w fun e w' => e = .returned (.bool (natOk s.data.toList)) ∧ w = w' := by
  have e0 : ¬ (s.size : Int) = 0 := by omega
  have e0' : ((s.size : Int) == 0) = false := by rw [beq_eq_false_iff_ne]; omega
  have e6 : ¬ (600 : Int) < s.size := by omega
  have HH := Lib.hid hh
  have HQ : Hid (s.data.toList.all isDig = true → natOk s.data.toList = true) := fun ha => by
    unfold natOk wholeOk plainOk
    have hne : s.data.toList ≠ [] := List.ne_nil_of_length_pos (by rw [size_len]; exact h0)
    have hl : s.data.toList.length ≤ 600 := by rw [size_len]; exact h6
    have hx : 1 < s.data.toList.length → s.data.toList.head? ≠ some 48 := fun h1 => by
      rw [size_len] at h1
      rcases hh with h | ⟨c, ⟨h2, hc⟩, h3⟩
      · omega
      · intro h4
        have := (head48 s h2).1 h4
        rw [hc] at this
        rw [beq_eq_false_iff_ne] at h3
        exact h3 this
    simp [ha, hne]
    refine ⟨?_, h6⟩
    rcases Nat.lt_or_ge 1 s.size with h | h
    · exact .inr (hx (by rw [size_len]; exact h))
    · exact .inl h
  clear hh
  rcases HH.out with h1 | ⟨c0, ⟨h2, hc⟩, h3⟩
  · have e1 : ¬ (1 : Int) < s.size := by omega
    clear h1
    go_enter Tryz.func100, Tryz.ntmps100
    go_wp2
    go_loop [3] (fun vi => ∃ (k : Nat), vi = .int .i64 k ∧ k ≤ s.size ∧ Hid (DigTo s k)) (fun vi => s.size - (intOf vi).toNat)
    case atStart => exact ⟨0, rfl, Nat.zero_le _, DigTo.start s⟩
    case round =>
      obtain ⟨k, rfl, hk, HK⟩ := hrel
      by_cases hlt : k < s.size
      · have hlt' : (k : Int) < s.size := by omega
        obtain ⟨c, hc⟩ : ∃ c, s[k] = c := ⟨_, rfl⟩
        cases hd : isDig c
        · have HS : Hid (s.data.toList.all isDig = false) := dig_stop hlt (by rw [hc]; exact hd)
          rcases isDig_no hd with h1 | h1
          · clear hd
            go_wp2
            go_ret
            exact ⟨by rw [natOk_no HS.out]; rfl, rfl⟩
          · have h2 : ¬ (c.toNat : Int) < 48 := by omega
            clear hd
            go_wp2
            go_ret
            exact ⟨by rw [natOk_no HS.out]; rfl, rfl⟩
        · have hd2 := of_decide_eq_true hd
          have h1 : ¬ (c.toNat : Int) < 48 := by omega
          have h2 : ¬ (57 : Int) < c.toNat := by omega
          have HK2 : Hid (DigTo s (k + 1)) := HK.out.next hlt (by rw [hc]; exact hd)
          clear hd hd2
          go_wp2
          go_round
          case rel => exact ⟨k + 1, by go_num, by omega, HK2⟩
          case measure => simp [intOf]; omega
      · have hlt' : ¬ (k : Int) < s.size := by omega
        have HA : Hid (s.data.toList.all isDig = true) := by
          obtain rfl : k = s.size := by omega
          exact HK.out.done
        clear hlt
        go_wp2
        go_ret
        exact ⟨by rw [HQ.out HA.out]; rfl, rfl⟩
  · by_cases h1 : 1 < s.size
    · have e1 : (1 : Int) < s.size := by omega
      clear h1
      go_enter Tryz.func100, Tryz.ntmps100
      go_wp2
      clear hc h3
      go_loop [3] (fun vi => ∃ (k : Nat), vi = .int .i64 k ∧ k ≤ s.size ∧ Hid (DigTo s k)) (fun vi => s.size - (intOf vi).toNat)
      case atStart => exact ⟨0, rfl, Nat.zero_le _, DigTo.start s⟩
      case round =>
        obtain ⟨k, rfl, hk, HK⟩ := hrel
        by_cases hlt : k < s.size
        · have hlt' : (k : Int) < s.size := by omega
          obtain ⟨c, hc⟩ : ∃ c, s[k] = c := ⟨_, rfl⟩
          cases hd : isDig c
          · have HS : Hid (s.data.toList.all isDig = false) := dig_stop hlt (by rw [hc]; exact hd)
            rcases isDig_no hd with h1 | h1
            · clear hd
              go_wp2
              go_ret
              exact ⟨by rw [natOk_no HS.out]; rfl, rfl⟩
            · have h2 : ¬ (c.toNat : Int) < 48 := by omega
              clear hd
              go_wp2
              go_ret
              exact ⟨by rw [natOk_no HS.out]; rfl, rfl⟩
          · have hd2 := of_decide_eq_true hd
            have h1 : ¬ (c.toNat : Int) < 48 := by omega
            have h2 : ¬ (57 : Int) < c.toNat := by omega
            have HK2 : Hid (DigTo s (k + 1)) := HK.out.next hlt (by rw [hc]; exact hd)
            clear hd hd2
            go_wp2
            go_round
            case rel => exact ⟨k + 1, by go_num, by omega, HK2⟩
            case measure => simp [intOf]; omega
        · have hlt' : ¬ (k : Int) < s.size := by omega
          have HA : Hid (s.data.toList.all isDig = true) := by
            obtain rfl : k = s.size := by omega
            exact HK.out.done
          clear hlt
          go_wp2
          go_ret
          exact ⟨by rw [HQ.out HA.out]; rfl, rfl⟩
    · have e1 : ¬ (1 : Int) < s.size := by omega
      clear h1 hc h3
      go_enter Tryz.func100, Tryz.ntmps100
      go_wp2
      go_loop [3] (fun vi => ∃ (k : Nat), vi = .int .i64 k ∧ k ≤ s.size ∧ Hid (DigTo s k)) (fun vi => s.size - (intOf vi).toNat)
      case atStart => exact ⟨0, rfl, Nat.zero_le _, DigTo.start s⟩
      case round =>
        obtain ⟨k, rfl, hk, HK⟩ := hrel
        by_cases hlt : k < s.size
        · have hlt' : (k : Int) < s.size := by omega
          obtain ⟨c, hc⟩ : ∃ c, s[k] = c := ⟨_, rfl⟩
          cases hd : isDig c
          · have HS : Hid (s.data.toList.all isDig = false) := dig_stop hlt (by rw [hc]; exact hd)
            rcases isDig_no hd with h1 | h1
            · clear hd
              go_wp2
              go_ret
              exact ⟨by rw [natOk_no HS.out]; rfl, rfl⟩
            · have h2 : ¬ (c.toNat : Int) < 48 := by omega
              clear hd
              go_wp2
              go_ret
              exact ⟨by rw [natOk_no HS.out]; rfl, rfl⟩
          · have hd2 := of_decide_eq_true hd
            have h1 : ¬ (c.toNat : Int) < 48 := by omega
            have h2 : ¬ (57 : Int) < c.toNat := by omega
            have HK2 : Hid (DigTo s (k + 1)) := HK.out.next hlt (by rw [hc]; exact hd)
            clear hd hd2
            go_wp2
            go_round
            case rel => exact ⟨k + 1, by go_num, by omega, HK2⟩
            case measure => simp [intOf]; omega
        · have hlt' : ¬ (k : Int) < s.size := by omega
          have HA : Hid (s.data.toList.all isDig = true) := by
            obtain rfl : k = s.size := by omega
            exact HK.out.done
          clear hlt
          go_wp2
          go_ret
          exact ⟨by rw [HQ.out HA.out]; rfl, rfl⟩

set_option maxRecDepth 100000 in
set_option maxHeartbeats 2000000 in
theorem rnat_any (s : ByteArray) (w : World) (hs : s.size ≤ 1000000) :
    Calls Tryz.prog 100 #[.string s] w fun e w' => e = .returned (.bool (natOk s.data.toList)) ∧ w = w' := by
  rcases Nat.eq_zero_or_pos s.size with h0 | h0
  · have HQ : Hid (natOk s.data.toList = false) := by
      have : s.data.toList = [] := List.eq_nil_of_length_eq_zero (by rw [size_len]; exact h0)
      show _ = _
      rw [this]; rfl
    have e0 : (s.size : Int) = 0 := by omega
    clear h0
    go_enter Tryz.func100, Tryz.ntmps100
    go_wp2
    go_ret
    exact ⟨by rw [HQ.out]; rfl, rfl⟩
  · have e0 : ¬ (s.size : Int) = 0 := by omega
    have e0' : ((s.size : Int) == 0) = false := by rw [beq_eq_false_iff_ne]; omega
    rcases Nat.lt_or_ge 600 s.size with h6 | h6
    · have HQ : Hid (natOk s.data.toList = false) := by
        show _ = _
        unfold natOk
        rw [size_len]
        simp; omega
      have e6 : (600 : Int) < s.size := by omega
      clear h6 h0
      go_enter Tryz.func100, Tryz.ntmps100
      go_wp2
      go_ret
      exact ⟨by rw [HQ.out]; rfl, rfl⟩
    · obtain ⟨c, hc⟩ : ∃ c, s[0]'h0 = c := ⟨_, rfl⟩
      cases h3 : ((c.toNat : Int) == 48)
      · exact rnat_loop s w h0 h6 (.inr ⟨c, ⟨h0, hc⟩, h3⟩)
      · by_cases h1 : s.size = 1
        · exact rnat_loop s w h0 h6 (.inl h1)
        · have e1 : (1 : Int) < s.size := by omega
          have HQ : Hid (natOk s.data.toList = false) := by
            have h4 := (head48 s h0).2 (by rw [hc]; simpa using h3)
            show _ = _
            unfold natOk wholeOk
            rw [size_len, h4]
            simp; omega
          have e6 : ¬ (600 : Int) < s.size := by omega
          clear h6 h1
          go_enter Tryz.func100, Tryz.ntmps100
          go_wp2
          go_ret
          exact ⟨by rw [HQ.out]; rfl, rfl⟩

set_option maxRecDepth 100000 in
set_option maxHeartbeats 2000000 in
theorem rall_any (s : ByteArray) (w : World) (hs : s.size ≤ 1000000) :
    Calls Tryz.prog 109 #[.string s] w fun e w' => e = .returned (.bool (plainOk s.data.toList)) ∧ w = w' := by
  go_enter Tryz.func109, Tryz.ntmps109
  go_wp2
  go_loop [3] (fun vi => ∃ (k : Nat), vi = .int .i64 k ∧ k ≤ s.size ∧ Hid (DigTo s k)) (fun vi => s.size - (intOf vi).toNat)
  case atStart => exact ⟨0, rfl, Nat.zero_le _, DigTo.start s⟩
  case round =>
    obtain ⟨k, rfl, hk, HK⟩ := hrel
    by_cases hlt : k < s.size
    · have hlt' : (k : Int) < s.size := by omega
      obtain ⟨c, hc⟩ : ∃ c, s[k] = c := ⟨_, rfl⟩
      cases hd : isDig c
      · have HS : Hid (s.data.toList.all isDig = false) := dig_stop hlt (by rw [hc]; exact hd)
        rcases isDig_no hd with h1 | h1
        · clear hd
          go_wp2
          go_ret
          exact ⟨by rw [plainOk_no HS.out]; rfl, rfl⟩
        · have h2 : ¬ (c.toNat : Int) < 48 := by omega
          clear hd
          go_wp2
          go_ret
          exact ⟨by rw [plainOk_no HS.out]; rfl, rfl⟩
      · have hd2 := of_decide_eq_true hd
        have h1 : ¬ (c.toNat : Int) < 48 := by omega
        have h2 : ¬ (57 : Int) < c.toNat := by omega
        have HK2 : Hid (DigTo s (k + 1)) := HK.out.next hlt (by rw [hc]; exact hd)
        clear hd hd2
        go_wp2
        go_round
        case rel => exact ⟨k + 1, by go_num, by omega, HK2⟩
        case measure => simp [intOf]; omega
    · have hlt' : ¬ (k : Int) < s.size := by omega
      have HA : Hid (s.data.toList.all isDig = true) := by
        obtain rfl : k = s.size := by omega
        exact HK.out.done
      clear hlt
      go_wp2
      go_ret
      refine ⟨?_, rfl⟩
      have h1 : plainOk s.data.toList = decide (0 < s.size) := by
        unfold plainOk
        rw [HA.out, Bool.and_true]
        rcases Nat.eq_zero_or_pos s.size with h | h
        · have h2 : s.data.toList = [] := List.eq_nil_of_length_eq_zero (by rw [size_len]; exact h)
          rw [h2, h]; rfl
        · have h2 : s.data.toList ≠ [] := List.ne_nil_of_length_pos (by rw [size_len]; exact h)
          have h3 : (0 : Int) < s.size := by omega
          rw [decide_eq_true h2, decide_eq_true h]
      rw [h1]; rfl

set_option maxRecDepth 100000 in
set_option maxHeartbeats 2000000 in
theorem rnumber_any (s : ByteArray) (w : World) (hs : s.size ≤ 1000000) :
    Calls Tryz.prog 108 #[.string s] w fun e w' => e = .returned (.bool (wholeOk s.data.toList)) ∧ w = w' := by
  go_enter Tryz.func108, Tryz.ntmps108
  go_wp2
  go_loop [3] (fun vi => ∃ (k : Nat), vi = .int .i64 k ∧ k ≤ s.size ∧ Hid (DigTo s k)) (fun vi => s.size - (intOf vi).toNat)
  case atStart => exact ⟨0, rfl, Nat.zero_le _, DigTo.start s⟩
  case round =>
    obtain ⟨k, rfl, hk, HK⟩ := hrel
    by_cases hlt : k < s.size
    · have hlt' : (k : Int) < s.size := by omega
      obtain ⟨c, hc⟩ : ∃ c, s[k] = c := ⟨_, rfl⟩
      cases hd : isDig c
      · have HS : Hid (s.data.toList.all isDig = false) := dig_stop hlt (by rw [hc]; exact hd)
        rcases isDig_no hd with h1 | h1
        · clear hd
          go_wp2
          go_ret
          exact ⟨by rw [wholeOk_no HS.out]; rfl, rfl⟩
        · have h2 : ¬ (c.toNat : Int) < 48 := by omega
          clear hd
          go_wp2
          go_ret
          exact ⟨by rw [wholeOk_no HS.out]; rfl, rfl⟩
      · have hd2 := of_decide_eq_true hd
        have h1 : ¬ (c.toNat : Int) < 48 := by omega
        have h2 : ¬ (57 : Int) < c.toNat := by omega
        have HK2 : Hid (DigTo s (k + 1)) := HK.out.next hlt (by rw [hc]; exact hd)
        clear hd hd2
        go_wp2
        go_round
        case rel => exact ⟨k + 1, by go_num, by omega, HK2⟩
        case measure => simp [intOf]; omega
    · have hlt' : ¬ (k : Int) < s.size := by omega
      have HA : Hid (s.data.toList.all isDig = true) := by
        obtain rfl : k = s.size := by omega
        exact HK.out.done
      clear hlt
      rcases Nat.eq_zero_or_pos s.size with h0 | h0
      · have HQ : Hid (wholeOk s.data.toList = false) := by
          have : s.data.toList = [] := List.eq_nil_of_length_eq_zero (by rw [size_len]; exact h0)
          show _ = _
          rw [this]; rfl
        have e1 : ((s.size : Int) == 1) = false := by rw [beq_eq_false_iff_ne]; omega
        have e2 : ¬ (1 : Int) < s.size := by omega
        clear h0
        go_wp2
        go_ret
        exact ⟨by rw [HQ.out]; rfl, rfl⟩
      · have hne : s.data.toList ≠ [] := List.ne_nil_of_length_pos (by rw [size_len]; exact h0)
        by_cases h1 : s.size = 1
        · have e1 : ((s.size : Int) == 1) = true := by rw [beq_iff_eq]; omega
          have HQ : Hid (wholeOk s.data.toList = true) := by
            have h2 : s.data.toList.length = 1 := by rw [size_len]; exact h1
            show _ = _
            unfold wholeOk plainOk
            simp [HA.out, hne, h1]
          clear h0 hne h1
          go_wp2
          go_ret
          exact ⟨by rw [HQ.out]; rfl, rfl⟩
        · have e1 : ((s.size : Int) == 1) = false := by rw [beq_eq_false_iff_ne]; omega
          have e2 : (1 : Int) < s.size := by omega
          have h1' : 1 < s.size := by omega
          obtain ⟨c, hc⟩ : ∃ c, s[0]'h0 = c := ⟨_, rfl⟩
          have HQ : Hid (wholeOk s.data.toList = !((c.toNat : Int) == 48)) := by
            show _ = _
            have h4 := head48 s h0
            rw [hc] at h4
            unfold wholeOk plainOk
            cases h5 : ((c.toNat : Int) == 48)
            · have h6 : ¬ s.data.toList.head? = some 48 := fun h => by have := h4.1 h; rw [this] at h5; exact absurd h5 (by decide)
              simp [HA.out, hne, h6]
            · have h6 : s.data.toList.head? = some 48 := h4.2 (by simpa using h5)
              simp [HA.out, hne, h6, h1']
          clear hne h1
          go_wp2
          go_ret
          exact ⟨by rw [HQ.out]; rfl, rfl⟩
end Go.Proofs.YthbpadjhlkdpeaaGreatDoor
