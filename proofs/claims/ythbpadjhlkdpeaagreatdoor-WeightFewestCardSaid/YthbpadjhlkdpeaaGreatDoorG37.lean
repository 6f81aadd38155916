/- The parts RText, RCut, WPower, Pointed, RDecimal, WDecimal, RRead, RRead2, WRead, LawTexts of a proof, put together by program (merge.py). -/
import Derived.Test.YthbpadjhlkdpeaaGreatDoorG36
import Derived.Test.YthbpadjhlkdpeaaGreatDoorG08
import Derived.Deep.RegionHeld3
import Derived.Test.YthbpadjhlkdpeaaGreatDoorG01
import Derived.Test.YthbpadjhlkdpeaaGreatDoorG06
import Derived.Test.YthbpadjhlkdpeaaGreatDoorG24
import Derived.Test.YthbpadjhlkdpeaaGreatDoorG04
import Derived.Test.YthbpadjhlkdpeaaGreatDoorG28
import Derived.Test.YthbpadjhlkdpeaaGreatDoorG07
/- Text of both sides; the document's cut and power. -/
namespace Go.Proofs.YthbpadjhlkdpeaaGreatDoor
open Go.RowKit Go.Shelf



/-- What Text answers. -/
def textOf (s t : ByteArray) : ByteArray := if okP s t = true then (if (t.toList == [49]) = true then s else s ++ ⟨#[47]⟩ ++ t) else ⟨#[]⟩
theorem text_no {s t : ByteArray} (h : okP s t = false) : textOf s t = ⟨#[]⟩ := by unfold textOf; rw [h]; rfl
theorem text_one {s t : ByteArray} (h : okP s t = true) (h1 : (t.toList == [49]) = true) : textOf s t = s := by unfold textOf; rw [if_pos h, if_pos h1]
theorem text_two {s t : ByteArray} (h : okP s t = true) (h1 : (t.toList == [49]) = false) : textOf s t = s ++ ⟨#[47]⟩ ++ t := by unfold textOf; rw [if_pos h, if_neg (by rw [h1]; decide)]

set_option maxRecDepth 100000 in
set_option maxHeartbeats 2000000 in
theorem rtext_any (s t : ByteArray) (w : World) (hs : s.size ≤ 1000000) (ht : t.size ≤ 1000000) : Calls Tryz.prog 59 #[.agg #[.string s, .string t]] w (StrPost (textOf s t) w) := by
  skip
  have HX1 := Lib.hid (Boxes.one w (.cells #[.string s, .string t] 24))
  have HB1 := Lib.hid ((Below.refl _ w).alloc (Nat.le_refl _) (.cells #[.string s, .string t] 24))
  have c0 := HX1.out.cell 0 0 (b := w.heap.size) rfl rfl rfl
  have c1 := HX1.out.cell 0 1 (b := w.heap.size) rfl rfl rfl
  cases h : okP s t
  · have HO := Lib.hid (okE_no h)
    have HQ := Lib.hid (text_no h)
    clear h
    skip
    go_enter Tryz.func59, Tryz.ntmps59
    go_wp2_with fail
    refine (rcheck_any s t _ hs ht).mono ?_
    rintro e w2 ⟨rfl, hb2⟩
    rw [HO.out]
    have HB2 := Lib.hid (HB1.out.trans (hb2.mono HB1.out.size))
    have HX2 := Lib.hid (HX1.out.below hb2 HX1.out.lt)
    clear hb2
    have q0 := HX2.out.cell 0 0 (b := w.heap.size) rfl rfl rfl
    have q1 := HX2.out.cell 0 1 (b := w.heap.size) rfl rfl rfl
    go_wp2
    go_ret
    exact ⟨by rw [HQ.out]; rfl, HB2.out⟩
  have HO := Lib.hid (okE_yes h)
  cases h1 : (t.toList == [49])
  · have HQ := Lib.hid (text_two h h1)
    clear h
    skip
    go_enter Tryz.func59, Tryz.ntmps59
    go_wp2_with fail
    refine (rcheck_any s t _ hs ht).mono ?_
    rintro e w2 ⟨rfl, hb2⟩
    rw [HO.out]
    have HB2 := Lib.hid (HB1.out.trans (hb2.mono HB1.out.size))
    have HX2 := Lib.hid (HX1.out.below hb2 HX1.out.lt)
    clear hb2
    have q0 := HX2.out.cell 0 0 (b := w.heap.size) rfl rfl rfl
    have q1 := HX2.out.cell 0 1 (b := w.heap.size) rfl rfl rfl
    go_wp2
    go_ret
    exact ⟨by rw [HQ.out]; rfl, HB2.out⟩
  · have HQ := Lib.hid (text_one h h1)
    clear h
    skip
    go_enter Tryz.func59, Tryz.ntmps59
    go_wp2_with fail
    refine (rcheck_any s t _ hs ht).mono ?_
    rintro e w2 ⟨rfl, hb2⟩
    rw [HO.out]
    have HB2 := Lib.hid (HB1.out.trans (hb2.mono HB1.out.size))
    have HX2 := Lib.hid (HX1.out.below hb2 HX1.out.lt)
    clear hb2
    have q0 := HX2.out.cell 0 0 (b := w.heap.size) rfl rfl rfl
    have q1 := HX2.out.cell 0 1 (b := w.heap.size) rfl rfl rfl
    go_wp2
    go_ret
    exact ⟨by rw [HQ.out]; rfl, HB2.out⟩
end Go.Proofs.YthbpadjhlkdpeaaGreatDoor
/- The document's cut and power; weight's Text. -/
namespace Go.Proofs.YthbpadjhlkdpeaaGreatDoor
open Go.RowKit Go.Shelf



theorem indexByte_at : ∀ {l : List UInt8} {k : Nat} {c : UInt8} (hk : k < l.length), l[k] = c → (∀ j (h : j < l.length), j < k → l[j] ≠ c) → Lib.indexByte l c = (k : Int)
  | [], _, _, hk, _, _ => by simp at hk
  | b :: l, 0, c, _, h, _ => by
    have h' : b = c := by simpa using h
    rw [Lib.indexByte, if_pos (by simp [h'])]; rfl
  | b :: l, k + 1, c, hk, h, hb => by
    have h0 : ¬ (b == c) = true := by
      have := hb 0 (by simp) (by omega)
      simpa using this
    have ih := indexByte_at (l := l) (k := k) (c := c) (by simpa using hk) (by simpa using h) fun j hj hjk => by
      have := hb (j + 1) (by simpa using hj) (by omega)
      simpa using this
    rw [Lib.indexByte, if_neg h0, ih, if_neg (by first | (simp; done) | (simp; omega))]
    first | (simp; done) | omega
theorem indexByte_none : ∀ {l : List UInt8} {c : UInt8}, (∀ j (h : j < l.length), l[j] ≠ c) → Lib.indexByte l c = -1
  | [], _, _ => rfl
  | b :: l, c, hb => by
    have h0 : ¬ (b == c) = true := by
      have := hb 0 (by simp)
      simpa using this
    have ih := indexByte_none (l := l) (c := c) fun j hj => by
      have := hb (j + 1) (by simpa using hj)
      simpa using this
    rw [Lib.indexByte, if_neg h0, ih]; rfl
/-- A text, cut at the first byte of a kind. -/
def cutB (l : List UInt8) (c : UInt8) : List UInt8 × List UInt8 × Bool := if 0 ≤ Lib.indexByte l c then (l.take (Lib.indexByte l c).toNat, l.drop ((Lib.indexByte l c).toNat + 1), true) else (l, [], false)
theorem cutB_at {l : List UInt8} {k : Nat} {c : UInt8} (hk : k < l.length) (h : l[k] = c) (hb : ∀ j (h : j < l.length), j < k → l[j] ≠ c) : cutB l c = (l.take k, l.drop (k + 1), true) := by
  unfold cutB
  rw [indexByte_at hk h hb, if_pos (by omega)]; rfl
theorem cutB_none {l : List UInt8} {c : UInt8} (hb : ∀ j (h : j < l.length), l[j] ≠ c) : cutB l c = (l, [], false) := by
  unfold cutB
  rw [indexByte_none hb, if_neg (by omega)]
/-- No such byte up to the k-th. -/
def NoTo (s : ByteArray) (c : UInt8) (k : Nat) : Prop := ∀ j (h : j < s.data.toList.length), j < k → s.data.toList[j] ≠ c
theorem NoTo.next {s : ByteArray} {c : UInt8} {k : Nat} (h : NoTo s c k) (hk : k < s.size) (hd : s[k] ≠ c) : NoTo s c (k + 1) := by
  intro j h1 h2
  rcases Nat.lt_or_ge j k with h3 | h3
  · exact h j h1 h3
  · obtain rfl : j = k := by omega
    exact hd
theorem extract_list (s : ByteArray) (i j : Nat) : (s.extract i j).data.toList = (s.data.toList.take j).drop i := by
  rw [ByteArray.data_extract]
  simp [Array.toList_extract, List.extract, List.drop_take]
theorem decVal_zeros : ∀ k : Nat, decVal (List.replicate k 48) = 0
  | 0 => rfl
  | k + 1 => by rw [List.replicate_succ, decVal_cons, decVal_zeros k]; simp [dg1]
theorem cut_head (s : ByteArray) (k : Nat) : s.extract 0 k = str (s.data.toList.take k) := by
  rw [← str_eq (s.extract 0 k), extract_list]; rfl
theorem cut_tail (s : ByteArray) (k : Nat) : s.extract k s.size = str (s.data.toList.drop k) := by
  rw [← str_eq (s.extract k s.size), extract_list, List.take_of_length_le (by rw [size_len]; exact Nat.le_refl _)]

set_option maxRecDepth 100000 in
set_option maxHeartbeats 2000000 in
theorem cut_any (s : ByteArray) (c : UInt8) (w : World) (hs : s.size ≤ 1000000) :
    Calls Tryz.prog 107 #[.string s, .int .u8 (c.toNat : Int)] w fun e w' => e = .returned (.tuple #[.string (str (cutB s.data.toList c).1), .string (str (cutB s.data.toList c).2.1), .bool (cutB s.data.toList c).2.2]) ∧ Below w.heap.size w w' := by
  go_enter Tryz.func107, Tryz.ntmps107
  go_wp2
  go_loop [7] (fun vi => ∃ (k : Nat), vi = .int .i64 k ∧ k ≤ s.size ∧ Hid (NoTo s c k)) (fun vi => s.size - (intOf vi).toNat)
  case atStart => exact ⟨0, rfl, Nat.zero_le _, fun j _ h => absurd h (by omega)⟩
  case round =>
    obtain ⟨k, rfl, hk, HK⟩ := hrel
    by_cases hlt : k < s.size
    · have hlt' : (k : Int) < s.size := by omega
      obtain ⟨d, hd⟩ : ∃ d, s[k] = d := ⟨_, rfl⟩
      by_cases he : d = c
      · have HQ : Hid (cutB s.data.toList c = (s.data.toList.take k, s.data.toList.drop (k + 1), true)) := cutB_at (by rw [size_len]; exact hlt) (hd.trans he) HK.out
        have he2 : ((d.toNat : Int) == (c.toNat : Int)) = true := by rw [he]; simp
        have i0 : (0 : Int) ≤ k := by omega
        have i1 : (k : Int) ≤ s.size := by omega
        have i2 : (0 : Int) ≤ (k : Int) + 1 := by omega
        have i3 : (k : Int) + 1 ≤ s.size := by omega
        clear he
        go_wp2_with fail
        go_region
        go_wp2
        refine bodyPost_ret (v := .tuple #[.string (s.extract 0 k), .string (s.extract (k + 1) s.size), .bool true]) (by simp [results, Tryz.f107, go_sem]) rfl ⟨?_, (Below.refl _ w).drew⟩
        rw [HQ.out, cut_head, cut_tail]
      · have he2 : ((d.toNat : Int) == (c.toNat : Int)) = false := by
          rw [beq_eq_false_iff_ne]
          exact fun h => he (UInt8.toNat_inj.1 (by omega))
        have HK2 : Hid (NoTo s c (k + 1)) := HK.out.next hlt (by rw [hd]; exact he)
        clear he
        go_wp2
        go_round
        case rel => exact ⟨k + 1, by go_num, by omega, HK2⟩
        case measure => simp [intOf]; omega
    · have hlt' : ¬ (k : Int) < s.size := by omega
      have HQ : Hid (cutB s.data.toList c = (s.data.toList, [], false)) := cutB_none fun j h => HK.out j h (by rw [size_len] at h; omega)
      clear hlt
      go_wp2
      refine bodyPost_ret (v := .tuple #[.string s, .string ⟨#[]⟩, .bool false]) (by simp [results, Tryz.f107, go_sem]) rfl ⟨?_, Below.refl _ _⟩
      rw [HQ.out]
      show _ = Ending.returned (.tuple #[.string (str s.data.toList), .string (str []), .bool false])
      rw [str_eq]; rfl

set_option maxRecDepth 100000 in
set_option maxHeartbeats 2000000 in
theorem rpower_any (n : Nat) (hn : n ≤ 100000) (w : World) : Calls Tryz.prog 112 #[.int .i64 n] w (PPost w (10 ^ n)) := by
  go_enter Tryz.func112, Tryz.ntmps112
  go_wp2
  go_loop [3, 4] (fun vs vi => ∃ (k : Nat), vi = .int .i64 k ∧ k ≤ n ∧ vs = .string (str (49 :: List.replicate k 48))) (fun _ vi => n - (intOf vi).toNat)
  case atStart => exact ⟨0, rfl, Nat.zero_le _, rfl⟩
  case round =>
    obtain ⟨k, rfl, hk, rfl⟩ := hrel
    by_cases hlt : k < n
    · have hlt' : (k : Int) < n := by omega
      obtain ⟨x, hx⟩ : ∃ x, str (49 :: List.replicate k 48) = x := ⟨_, rfl⟩
      have HX : Hid (x ++ ⟨#[48]⟩ = str (49 :: List.replicate (k + 1) 48) ∧ x.size = k + 1) := by
        rw [← hx]
        refine ⟨?_, by rw [str_size]; simp⟩
        rw [← str_eq (str (49 :: List.replicate k 48) ++ ⟨#[48]⟩)]
        congr 1
        rw [ByteArray.data_append, Array.toList_append, str_data, List.replicate_succ']
        rfl
      have hxs : x.size = k + 1 := HX.out.2
      rw [hx]
      clear hx
      go_wp2
      go_round
      case rel => exact ⟨k + 1, by go_num, by omega, by rw [HX.out.1]⟩
      case measure => simp [intOf]; omega
    · obtain rfl : k = n := by omega
      have hd : ∀ c ∈ (str (49 :: List.replicate k 48)).data.toList, isDig c = true := by
        rw [str_data]
        intro c hc
        rcases List.mem_cons.1 hc with rfl | hc
        · decide
        · rw [(List.mem_replicate.1 hc).2]; decide
      have hv : decVal (str (49 :: List.replicate k 48)).data.toList = 10 ^ k := by
        rw [str_data, decVal_cons, List.length_replicate]
        rw [decVal_zeros]; simp [dg1]
      have hp := parts_any _ (by rw [str_size]; simp; omega) hd w
      rw [hv] at hp
      obtain ⟨x, hx⟩ : ∃ x, str (49 :: List.replicate k 48) = x := ⟨_, rfl⟩
      rw [hx] at hp ⊢
      have HP := Lib.hid hp
      clear hd hv hx hp hlt
      go_wp2_with fail
      refine HP.out.mono ?_
      rintro e w1 ⟨v, rfl, hv, hb⟩
      obtain ⟨p, m, c, rfl⟩ := hv.form
      have HV := Lib.hid hv
      have HB := Lib.hid hb
      clear hv hb
      go_wp2
      go_ret
      exact ⟨_, rfl, HV.out, HB.out⟩
end Go.Proofs.YthbpadjhlkdpeaaGreatDoor
/- weight's Text and power. -/
namespace Go.Proofs.YthbpadjhlkdpeaaGreatDoor
open Go.RowKit Go.Shelf



set_option maxRecDepth 100000 in
set_option maxHeartbeats 2000000 in
theorem wtext_any (s t : ByteArray) (w : World) (hs : s.size ≤ 1000000) (ht : t.size ≤ 1000000) : Calls Tryz.prog 58 #[.agg #[.string s, .string t]] w (StrPost (textOf s t) w) := by
  have HX1 := Lib.hid (Boxes.one w (.cells #[.string s, .string t] 24))
  have HB1 := Lib.hid ((Below.refl _ w).alloc (Nat.le_refl _) (.cells #[.string s, .string t] 24))
  have c0 := HX1.out.cell 0 0 (b := w.heap.size) rfl rfl rfl
  have c1 := HX1.out.cell 0 1 (b := w.heap.size) rfl rfl rfl
  cases h : okP s t
  · have HO := Lib.hid (okE_no h)
    have HQ := Lib.hid (text_no h)
    clear h
    skip
    go_enter Tryz.func58, Tryz.ntmps58
    go_wp2_with fail
    refine (check_any s t _ hs ht).mono ?_
    rintro e w2 ⟨rfl, hb2⟩
    rw [HO.out]
    have HB2 := Lib.hid (HB1.out.trans (hb2.mono HB1.out.size))
    have HX2 := Lib.hid (HX1.out.below hb2 HX1.out.lt)
    clear hb2
    have q0 := HX2.out.cell 0 0 (b := w.heap.size) rfl rfl rfl
    have q1 := HX2.out.cell 0 1 (b := w.heap.size) rfl rfl rfl
    go_wp2
    go_ret
    exact ⟨by rw [HQ.out]; rfl, HB2.out⟩
  have HO := Lib.hid (okE_yes h)
  cases h1 : (t.toList == [49])
  · have HQ := Lib.hid (text_two h h1)
    clear h
    skip
    go_enter Tryz.func58, Tryz.ntmps58
    go_wp2_with fail
    refine (check_any s t _ hs ht).mono ?_
    rintro e w2 ⟨rfl, hb2⟩
    rw [HO.out]
    have HB2 := Lib.hid (HB1.out.trans (hb2.mono HB1.out.size))
    have HX2 := Lib.hid (HX1.out.below hb2 HX1.out.lt)
    clear hb2
    have q0 := HX2.out.cell 0 0 (b := w.heap.size) rfl rfl rfl
    have q1 := HX2.out.cell 0 1 (b := w.heap.size) rfl rfl rfl
    go_wp2
    go_ret
    exact ⟨by rw [HQ.out]; rfl, HB2.out⟩
  · have HQ := Lib.hid (text_one h h1)
    clear h
    skip
    go_enter Tryz.func58, Tryz.ntmps58
    go_wp2_with fail
    refine (check_any s t _ hs ht).mono ?_
    rintro e w2 ⟨rfl, hb2⟩
    rw [HO.out]
    have HB2 := Lib.hid (HB1.out.trans (hb2.mono HB1.out.size))
    have HX2 := Lib.hid (HX1.out.below hb2 HX1.out.lt)
    clear hb2
    have q0 := HX2.out.cell 0 0 (b := w.heap.size) rfl rfl rfl
    have q1 := HX2.out.cell 0 1 (b := w.heap.size) rfl rfl rfl
    go_wp2
    go_ret
    exact ⟨by rw [HQ.out]; rfl, HB2.out⟩

/-- make with room to spare: a full row of zeros, of which the first are seen. -/
theorem make_part {P : Program} (w : World) {ops : Array Oper} {rest : List Oper} {o : Oper} {a : Act} {Q : Exit → Act → World → Prop}
    (hg : o.guard = none) (l c : Operand) (t : TypeId) (hop : o.op = Op.makeSlice t l c)
    (base : Nat) (e : TypeId) (i : TypeInfo) (z : Value) (size : Nat) (h1 : P.underlying t = some (.slice e)) (h2 : P.info? e = some i) (h3 : i.zero = some z) (h4 : i.size = size)
    (kl kc : IntKind) (L C : Int) (m n : Nat) (hl : a.eval l = .int kl L) (hc : a.eval c = .int kc C) (hL : L = (m : Int)) (hC : C = (n : Int)) (hmn : m ≤ n) (b2 : i.bytes * n ≤ 281474976710656) (b3 : n ≤ maxLen) (b4 : base ≤ w.heap.size)
    (hK : ∀ w', w'.ownsRow base e size (.slice (some ⟨w.heap.size, 0, none⟩) n n) n (madeCells z.cells (n * size)).toList → w.grownBy w' none →
      wpList P ops Q rest (a.put o.dst (.slice (some ⟨w.heap.size, 0, none⟩) m n)) w') :
    wpList P ops Q (o :: rest) a w := by
  refine wpList_plain hg fun K hK' => ?_
  subst h4
  have hm63 : (n : Int) ≤ 9223372036854775807 := by simp [maxLen] at b3; omega
  have hb' : (i.bytes : Int) * (n : Int) ≤ 281474976710656 := by
    have h : ((i.bytes * n : Nat) : Int) ≤ 281474976710656 := by omega
    rwa [Int.natCast_mul] at h
  have hrun := run_make (P := P) w t e i z h1 h2 h3 kl kc m n (by omega) (by omega) hb' hm63
  simp only [Int.toNat_natCast] at hrun
  subst hL
  subst hC
  unfold Oper.wp
  simp [execOp, hop, hl, hc, hrun, Result.andThen]
  exact hK' _ _ (hK _ (World.ownsRow_lit w _ n b4 b3 (size_madeCells _ _)) (World.grownBy_alloc w _ none))

/-- The table of powers of ten. -/
def TensV (w : World) : Prop := ∀ r, r < 10 → w.cell? ⟨0, r, none⟩ = some (.int .u64 ((10 ^ r : Nat) : Int))
theorem TensV.lt {w : World} (h : TensV w) : 0 < w.heap.size := World.block_lt_of_cell? _ _ (h 0 (by decide))
theorem TensV.below {w w' : World} {B : Nat} (h : TensV w) (hb : Below B w w') (hB : w.heap.size ≤ B) : TensV w' := fun r hr => by
  have h0 := h.lt
  rw [hb.cell (p := ⟨0, r, none⟩) (by show 0 < B; omega)]
  exact h r hr
theorem limbs_pow (n : Nat) : limbs 1000000000 (10 ^ n) = List.replicate (n / 9) 0 ++ [10 ^ (n % 9)] := by
  have hv : val 1000000000 (List.replicate (n / 9) 0 ++ [10 ^ (n % 9)]) = 10 ^ n := by
    rw [val_snoc, val_replicate, List.length_replicate, Nat.zero_add, show (1000000000 : Nat) = 10 ^ 9 from rfl, ← Nat.pow_mul, ← Nat.pow_add]
    congr 1
    omega
  have hr : 10 ^ (n % 9) ≤ 10 ^ 8 := Nat.pow_le_pow_right (by omega) (by omega)
  have hp : 0 < 10 ^ (n % 9) := Nat.pow_pos (by omega)
  rw [← hv]
  refine limbs_val (by omega) (fun x hx => ?_) ?_
  · rcases List.mem_append.1 hx with hx | hx
    · rw [(List.mem_replicate.1 hx).2]; omega
    · obtain rfl : x = 10 ^ (n % 9) := by simpa using hx
      omega
  · rw [List.getLast?_append]
    simp

set_option maxRecDepth 100000 in
set_option maxHeartbeats 2000000 in
theorem power_any (n : Nat) (hn : n ≤ 100000) (w : World) (hT : TensV w) : Calls Tryz.prog 106 #[.int .i64 n] w (NumPost w (10 ^ n)) := by
  obtain ⟨i0, hi, hz0, hz1, hz2⟩ := info_parts info_u64
  obtain ⟨q, hq⟩ : ∃ q, n / 9 = q := ⟨_, rfl⟩
  obtain ⟨r, hr⟩ : ∃ r, n % 9 = r := ⟨_, rfl⟩
  have HL : Hid (limbs 1000000000 (10 ^ n) = List.replicate q 0 ++ [10 ^ r]) := by show _ = _; rw [← hq, ← hr]; exact limbs_pow n
  have e1 : (n : Int) / 9 = (q : Nat) := by omega
  have e2 : (n : Int) % 9 = (r : Nat) := by omega
  have hr9 : r < 9 := by omega
  have hq1 : q ≤ 100000 := by omega
  have HT := Lib.hid hT
  clear hT hq hr
  go_enter Tryz.func106, Tryz.ntmps106
  go_wp2_with (at_make; refine make_part _ rfl _ _ 92 rfl w.heap.size 113 i0 (.int .u64 0) 1 Tryz.underlying92 hi hz0 hz1 _ _ _ _ q (q + 1) rfl rfl (by first | rfl | omega) (by first | rfl | omega) (by omega) ?b2 ?b3 (Nat.le_refl _) ?_)
  case b2 => rw [hz2]; omega
  case b3 => unfold maxLen; omega
  intro w1 hown hgrow
  have HB1 := Lib.hid ((Below.refl w.heap.size w).grown hgrow (Nat.le_refl _) (fun k h => by cases h))
  have hrow : Row .u64 113 w1 w.heap.size w.heap.size (q + 1) (List.replicate (q + 1) 0) := Row.full hown
  have hrow2 := hrow.take q
  rw [List.take_replicate, Nat.min_eq_left (by omega)] at hrow2
  have HR := Lib.hid hrow2
  clear hown hgrow hrow hrow2
  have ht : w1.cell? ⟨0, r, none⟩ = some (.int .u64 ((10 ^ r : Nat) : Int)) := (HT.out.below HB1.out (Nat.le_refl _)) r (by omega)
  obtain ⟨p, hp⟩ : ∃ p, 10 ^ r = p := ⟨_, rfl⟩
  rw [hp] at ht
  have HP := Lib.hid hp
  have i1 : (0 : Int) ≤ r := by omega
  have i2 : (r : Int) < 10 := by omega
  have hown := HR.out.own (n := q) (by simp)
  clear hp
  go_wp2_with (at_builtin; refine wpList_append_fits _ rfl (.tmp 10) (.tmp 15) 92 rfl w.heap.size 113 i0 1 Tryz.underlying92 hi hz1 w.heap.size q (q + 1) _ rfl (hown.alloc _) ⟨w1.heap.size, 0, none⟩ 1 1 [.int .u64 (p : Nat)] rfl rfl (cell_one_new _ _ _) (by simp [Value.oneCell']) (by omega) ?_; intro w2 hown1 hgrow1)
  have hr1 := Row.snoc (k := .u64) (xs := List.replicate q 0) (x := p) (by simp) rfl hown1
  have HB2 := Lib.hid ((HB1.out.alloc HB1.out.size _).grown hgrow1 (by have := HB1.out.size; simp; omega) (fun k h => by cases h; exact Nat.le_refl _))
  rw [← HP.out, ← HL.out] at hr1
  have hn1 := hr1.nums
  have hll : (limbs 1000000000 (10 ^ n)).length = q + 1 := by rw [HL.out]; simp
  rw [hll] at hn1
  have HNN : Hid (Num w2 (.slice (some ⟨w.heap.size, 0, none⟩) (q + 1) (q + 1)) (10 ^ n)) := hn1
  clear hown1 hgrow1 hown hr1 hn1 hll ht
  go_wp2
  go_ret
  exact ⟨_, rfl, HNN.out, HB2.out⟩
end Go.Proofs.YthbpadjhlkdpeaaGreatDoor
/- Decimal numbers: weight's pointed, the document's shown. -/
namespace Go.Proofs.YthbpadjhlkdpeaaGreatDoor
open Go.RowKit Go.Shelf

/-- At least one digit before so many places. -/
def padL (l : List UInt8) (n : Nat) : List UInt8 := List.replicate (n + 1 - l.length) 48 ++ l
def pointX (x : ByteArray) (n : Nat) : ByteArray := x.extract 0 (x.size - n) ++ ⟨#[46]⟩ ++ x.extract (x.size - n) x.size
def pointB (l : List UInt8) (n : Nat) : ByteArray := if n = 0 then str l else pointX (str (padL l n)) n
theorem point_zero (l : List UInt8) : pointB l 0 = str l := by unfold pointB; rw [if_pos rfl]
theorem point_pos {l : List UInt8} {n : Nat} (h : n ≠ 0) : pointB l n = pointX (str (padL l n)) n := by unfold pointB; rw [if_neg h]
def strV : Value → Nat
  | .string s => s.size
  | _ => 0
theorem repL_one (c : UInt8) : ∀ n : Nat, Lib.repeatL [c] n = List.replicate n c
  | 0 => rfl
  | n + 1 => by rw [Lib.repeatL, repL_one c n, List.replicate_succ]; rfl
theorem repeat_any (c : Nat) (hc : c ≤ 1000000) (w : World) : Calls Tryz.prog 142 #[.string ⟨#[48]⟩, .int .i64 c] w (StrPost (str (List.replicate c 48)) w) := by
  rcases Nat.lt_or_ge c 2 with h | h
  · rcases (show c = 0 ∨ c = 1 by omega) with rfl | rfl
    · refine (Tryz.strings_Repeat_zero ⟨#[48]⟩ w).mono fun e w' ⟨he, hw⟩ => ⟨he, by rw [hw]; exact Below.refl _ _⟩
    · refine (Tryz.strings_Repeat_one ⟨#[48]⟩ w).mono fun e w' ⟨he, hw⟩ => ⟨he, by rw [hw]; exact Below.refl _ _⟩
  · refine (Tryz.strings_Repeat_main ⟨#[48]⟩ c w h (by omega) (by show 1 * c ≤ _; omega) (by decide)).mono fun e w' ⟨he, hb⟩ => ⟨?_, hb⟩
    rw [he]
    show Ending.returned (.string ⟨(Lib.repeatL [48] c).toArray⟩) = _
    rw [repL_one]; rfl
theorem decDigits_le_limbs (m : Nat) : (Lib.decDigits m).length ≤ 4 * (limbs 10000 m).length + 1 := by
  have h := val_lt (limbs_lt (B := 10000) (by omega) m)
  have e : ∀ k, (10000 : Nat) ^ k = 10 ^ (4 * k) := fun k => by rw [Nat.pow_mul]
  rw [val_limbs (by omega), e] at h
  exact decDigits_length_le (by omega) (Nat.lt_of_lt_of_le h (Nat.pow_le_pow_right (by omega) (by omega)))
theorem decDigits_le_limbs9 (m : Nat) : (Lib.decDigits m).length ≤ 9 * (limbs 1000000000 m).length + 1 := by
  have h := val_lt (limbs_lt (B := 1000000000) (by omega) m)
  have e : ∀ k, (1000000000 : Nat) ^ k = 10 ^ (9 * k) := fun k => by rw [Nat.pow_mul]
  rw [val_limbs (by omega), e] at h
  exact decDigits_length_le (by omega) (Nat.lt_of_lt_of_le h (Nat.pow_le_pow_right (by omega) (by omega)))
theorem decDigits_some (m : Nat) : 0 < (Lib.decDigits m).length := List.length_pos_iff.2 (canon_decDigits m).ne
theorem str_append (a b : List UInt8) : str a ++ str b = str (a ++ b) := by
  have h : (str a ++ str b).data.toList = a ++ b := by rw [ByteArray.data_append, Array.toList_append, str_data, str_data]
  rw [← str_eq (str a ++ str b), h]

set_option maxRecDepth 100000 in
set_option maxHeartbeats 4000000 in
theorem shown_any {v : Value} {m n : Nat} {w : World} (h : PNum w v m) (hl : (limbs 10000 m).length ≤ 100000) (hn : n ≤ 100000) : Calls Tryz.prog 116 #[v, .int .i64 n] w (StrPost (pointB (Lib.decDigits m) n) w) := by
  have hd := rdigits_any h (by omega)
  have hdl : (Lib.decDigits m).length ≤ 1000000 := by have := decDigits_le_limbs m; omega
  have hl0 := decDigits_some m
  clear h
  obtain ⟨l, hl2⟩ : ∃ l, Lib.decDigits m = l := ⟨_, rfl⟩
  rw [hl2] at hd hdl hl0 ⊢
  have HD := Lib.hid hd
  clear hd hl2
  go_enter Tryz.func116, Tryz.ntmps116
  go_wp2_with fail
  refine HD.out.mono ?_
  rintro e w2 ⟨rfl, hb2⟩
  have HB2 := Lib.hid hb2
  clear hb2
  go_wp2
  go_loop [5] (fun vs => ∃ (k : Nat), vs = .string (str (List.replicate k 48 ++ l)) ∧ k ≤ n + 1 - l.length) (fun vs => n + 1 - strV vs)
  case atStart => exact ⟨0, by simp, Nat.zero_le _⟩
  case round =>
    obtain ⟨k, rfl, hk⟩ := hrel
    obtain ⟨x, hx⟩ : ∃ x, str (List.replicate k 48 ++ l) = x := ⟨_, rfl⟩
    have hxs : x.size = k + l.length := by rw [← hx, str_size]; simp
    have hxb : x.size ≤ 2000000 := by omega
    have HX := Lib.hid hx
    rw [hx]
    clear hx
    by_cases hlt : x.size ≤ n
    · have hlt' : (x.size : Int) ≤ n := by omega
      have HY : Hid ((⟨#[48]⟩ : ByteArray) ++ x = str (List.replicate (k + 1) 48 ++ l)) := by
        rw [← HX.out, show (⟨#[48]⟩ : ByteArray) = str [48] from rfl]
        show _ = _
        rw [str_append, List.replicate_succ]; rfl
      have HXS := Lib.hid hxs
      clear hxs
      go_wp2
      go_round
      case rel => exact ⟨k + 1, by rw [HY.out], by have := HXS.out; omega⟩
      case measure =>
        have hxs := HXS.out
        rw [HY.out]
        simp only [strV, str_size, List.length_append, List.length_replicate]
        show n + 1 - (k + 1 + l.length) < n + 1 - x.size
        omega
    · have hlt' : ¬ (x.size : Int) ≤ n := by omega
      have HP : Hid (str (padL l n) = x) := by
        have e : n + 1 - l.length = k := by omega
        show _ = _
        unfold padL
        rw [e]; exact HX.out
      by_cases h0 : n = 0
      · have h0' : ((n : Int) == 0) = true := by rw [h0]; rfl
        have HQ : Hid (pointB l n = x) := by
          show _ = _
          rw [h0, point_zero, ← HX.out]
          obtain rfl : k = 0 := by omega
          rfl
        clear hlt hxs h0
        go_wp2
        go_ret
        exact ⟨by rw [HQ.out]; rfl, HB2.out⟩
      · have h0' : ((n : Int) == 0) = false := by rw [beq_eq_false_iff_ne]; omega
        have HQ : Hid (pointB l n = pointX x n) := by
          show _ = _
          rw [point_pos h0, HP.out]
        clear hlt
        skip
        have i0 : (0 : Int) ≤ (x.size : Int) - n := by omega
        have i1 : (x.size : Int) - n ≤ x.size := by omega
        have H2 : Hid (((x.size : Int) - n).toNat = x.size - n) := by show _ = _; omega
        clear hxs
        go_wp2_with fail
        go_region
        go_wp2
        go_ret
        refine ⟨?_, HB2.out.drew⟩
        rw [HQ.out]
        unfold pointX
        first | rfl | (rw [← H2.out]; rfl)

set_option maxRecDepth 100000 in
set_option maxHeartbeats 4000000 in
theorem pointed_any {v : Value} {m n : Nat} {w : World} (h : Num w v m) (hl : (limbs 1000000000 m).length ≤ 10000) (hn : n ≤ 100000) (hT : Tabs w) : Calls Tryz.prog 114 #[v, .int .i64 n] w (StrPost (pointB (Lib.decDigits m) n) w) := by
  have hd := text_any h (by omega) hT
  have hdl : (Lib.decDigits m).length ≤ 1000000 := by have := decDigits_le_limbs9 m; omega
  have hl0 := decDigits_some m
  clear h hT
  obtain ⟨l, hl2⟩ : ∃ l, Lib.decDigits m = l := ⟨_, rfl⟩
  rw [hl2] at hd hdl hl0 ⊢
  have HD := Lib.hid hd
  clear hd hl2
  by_cases h0 : n = 0
  · have h0' : ((n : Int) == 0) = true := by rw [h0]; rfl
    have HQ : Hid (pointB l n = str l) := by show _ = _; rw [h0]; exact point_zero l
    clear h0
    go_enter Tryz.func114, Tryz.ntmps114
    go_wp2_with fail
    refine HD.out.mono ?_
    rintro e w2 ⟨x, rfl, hx, hb2⟩
    have HB2 := Lib.hid hb2
    have HX := Lib.hid hx
    clear hb2 hx
    go_wp2
    go_ret
    exact ⟨by rw [HQ.out, ← HX.out]; rfl, HB2.out⟩
  have h0' : ((n : Int) == 0) = false := by rw [beq_eq_false_iff_ne]; omega
  obtain ⟨c, hc⟩ : ∃ c, n + 1 - l.length = c := ⟨_, rfl⟩
  have HQ0 : Hid (pointB l n = pointX (str (List.replicate c 48 ++ l)) n) := by
    show _ = _
    rw [point_pos h0]; unfold padL; rw [hc]
  have HC : Hid (c + l.length = n + 1 ∨ (c = 0 ∧ n + 1 ≤ l.length)) := by
    show _ ∨ _
    omega
  have hcm : c ≤ 1000000 := by omega
  have HR := Lib.hid (repeat_any c hcm)
  clear hc hcm h0
  rcases HC.out with hcc | ⟨hc0, hcc⟩
  all_goals
    have HCC := Lib.hid hcc
    go_enter Tryz.func114, Tryz.ntmps114
    go_wp2_with fail
    refine HD.out.mono ?_
    rintro e w2 ⟨y, rfl, hy, hb2⟩
    have HB := Lib.hid hb2
    have hys : (y.size : Int) = l.length := by rw [hy, str_size]
    have HY := Lib.hid hy
    have HYS := Lib.hid hys
    clear hb2 hy
  · have g1 : ((n : Int) + 1 - y.size) = (c : Nat) := by omega
    have g2 : (0 : Int) ≤ (c : Nat) := by omega
    clear hcc hys
    go_wp2_with fail
    refine (HR.out _).mono ?_
    rintro e w3 ⟨rfl, hb3⟩
    have HB2 := Lib.hid (HB.out.trans (hb3.mono HB.out.size))
    obtain ⟨z, hz⟩ : ∃ z, str (List.replicate c 48) = z := ⟨_, rfl⟩
    rw [hz]
    have HZ := Lib.hid hz
    have hzs : z.size = c := by rw [← hz, str_size]; simp
    have hys2 : y.size = l.length := by rw [HY.out, str_size]
    have hcc2 := HC.out
    have hzy : z.size + y.size ≤ 2000000 := by omega
    have hzy2 : ¬ 9223372036854775807 < z.size + y.size := by omega
    clear hb3 hz hzs hys2 hcc2
    go_wp2_with fail
    obtain ⟨x, hx⟩ : ∃ x, z ++ y = x := ⟨_, rfl⟩
    rw [hx]
    have HX : Hid (str (List.replicate c 48 ++ l) = x) := by show _ = _; rw [← hx, ← HZ.out, HY.out, str_append]
    have HQ : Hid (pointB l n = pointX x n) := by show _ = _; rw [HQ0.out, HX.out]
    have hxs : x.size = c + l.length := by rw [← HX.out, str_size]; simp
    have hxb : x.size ≤ 2000000 := by have := HC.out; omega
    have hcc := HCC.out
    clear hx
    have i0 : (0 : Int) ≤ (x.size : Int) - n := by omega
    have i1 : (x.size : Int) - n ≤ x.size := by omega
    have H2 : Hid (((x.size : Int) - n).toNat = x.size - n) := by show _ = _; omega
    clear hxs hcc hzy hzy2 g1
    go_region
    go_wp2
    go_ret
    refine ⟨?_, HB2.out.drew⟩
    rw [HQ.out]
    unfold pointX
    first | rfl | (rw [← H2.out]; rfl)
  · obtain ⟨d, g1⟩ : ∃ d : Int, ((n : Int) + 1 - y.size) = d := ⟨_, rfl⟩
    have g2 : d ≤ 0 := by omega
    have g3 : -2000000 ≤ d := by omega
    have g4 : max 0 d = 0 := by omega
    have HR0 : Hid (∀ W, Calls Tryz.prog 142 #[.string ⟨#[48]⟩, .int .i64 0] W (StrPost (str (List.replicate c 48)) W)) := fun W => by
      have := HR.out W
      rw [hc0] at this ⊢
      exact this
    clear hcc hys hc0
    go_wp2_with fail
    refine (HR0.out _).mono ?_
    rintro e w3 ⟨rfl, hb3⟩
    have HB2 := Lib.hid (HB.out.trans (hb3.mono HB.out.size))
    obtain ⟨z, hz⟩ : ∃ z, str (List.replicate c 48) = z := ⟨_, rfl⟩
    rw [hz]
    have HZ := Lib.hid hz
    have hzs : z.size = c := by rw [← hz, str_size]; simp
    have hys2 : y.size = l.length := by rw [HY.out, str_size]
    have hcc2 := HC.out
    have hzy : z.size + y.size ≤ 2000000 := by omega
    have hzy2 : ¬ 9223372036854775807 < z.size + y.size := by omega
    clear hb3 hz hzs hys2 hcc2
    go_wp2_with fail
    obtain ⟨x, hx⟩ : ∃ x, z ++ y = x := ⟨_, rfl⟩
    rw [hx]
    have HX : Hid (str (List.replicate c 48 ++ l) = x) := by show _ = _; rw [← hx, ← HZ.out, HY.out, str_append]
    have HQ : Hid (pointB l n = pointX x n) := by show _ = _; rw [HQ0.out, HX.out]
    have hxs : x.size = c + l.length := by rw [← HX.out, str_size]; simp
    have hxb : x.size ≤ 2000000 := by have := HC.out; omega
    have hcc := HCC.out
    clear hx
    have i0 : (0 : Int) ≤ (x.size : Int) - n := by omega
    have i1 : (x.size : Int) - n ≤ x.size := by omega
    have H2 : Hid (((x.size : Int) - n).toNat = x.size - n) := by show _ = _; omega
    clear hxs hcc hzy hzy2 g1
    go_region
    go_wp2
    go_ret
    refine ⟨?_, HB2.out.drew⟩
    rw [HQ.out]
    unfold pointX
    first | rfl | (rw [← H2.out]; rfl)
end Go.Proofs.YthbpadjhlkdpeaaGreatDoor
/- The document's Decimal. -/
namespace Go.Proofs.YthbpadjhlkdpeaaGreatDoor
open Go.RowKit Go.Shelf



theorem lim_lt {B a i : Nat} (hB : 1 < B) (h : (limbs B a).length ≤ i) : a < B ^ i := by
  have h1 := val_lt (limbs_lt hB a)
  rw [val_limbs hB] at h1
  exact Nat.lt_of_lt_of_le h1 (Nat.pow_le_pow_right (by omega) h)
theorem lim_mul {B a b i j : Nat} (hB : 1 < B) (h1 : (limbs B a).length ≤ i) (h2 : (limbs B b).length ≤ j) : (limbs B (a * b)).length ≤ i + j := by
  refine limbs_length_le hB ?_
  rw [Nat.pow_add]
  exact Nat.mul_lt_mul'' (lim_lt hB h1) (lim_lt hB h2)
theorem lim_ten {n : Nat} (hn : n ≤ 100) : (limbs 10000 (10 ^ n)).length ≤ 26 ∧ (limbs 1000000000 (10 ^ n)).length ≤ 12 :=
  ⟨limbs_length_le (by omega) (Nat.lt_of_le_of_lt (Nat.pow_le_pow_right (by omega) hn) (by decide)), limbs_length_le (by omega) (Nat.lt_of_le_of_lt (Nat.pow_le_pow_right (by omega) hn) (by decide))⟩

/-- What Decimal answers. -/
def decQ (a d n : Nat) : Nat := a * 10 ^ n / d
def decU (a d n : Nat) : Nat := if a * 10 ^ n % d = 0 then a * 10 ^ n / d else a * 10 ^ n / d + 1
def DecR (s t : ByteArray) (n : Int) (x y : ByteArray) (e : Int) : Prop :=
  ((okP s t = false ∨ n < 0 ∨ 100 < n) ∧ x = str [] ∧ y = str [] ∧ e = 2) ∨
  (okP s t = true ∧ 0 ≤ n ∧ n ≤ 100 ∧ x = pointB (Lib.decDigits (decQ (decVal s.data.toList) (decVal t.data.toList) n.toNat)) n.toNat ∧ y = pointB (Lib.decDigits (decU (decVal s.data.toList) (decVal t.data.toList) n.toNat)) n.toNat ∧ e = 0)
def DecPost (s t : ByteArray) (n : Int) (w : World) (e : Ending) (w' : World) : Prop :=
  ∃ x y k, e = .returned (.tuple #[.string x, .string y, .int .i64 k]) ∧ DecR s t n x y k ∧ Below w.heap.size w w'
theorem det_dec {s t x y x' y' : ByteArray} {n e e' : Int} (h : DecR s t n x y e) (k : DecR s t n x' y' e') : x' = x ∧ y' = y ∧ e' = e := by
  rcases h with ⟨h, rfl, rfl, rfl⟩ | ⟨h1, h2, h3, rfl, rfl, rfl⟩
  · rcases k with ⟨_, rfl, rfl, rfl⟩ | ⟨k1, k2, k3, _⟩
    · exact ⟨rfl, rfl, rfl⟩
    · rcases h with h | h | h
      · rw [h] at k1; cases k1
      · omega
      · omega
  · rcases k with ⟨k, _⟩ | ⟨_, _, _, rfl, rfl, rfl⟩
    · rcases k with k | k | k
      · rw [k] at h1; cases h1
      · omega
      · omega
    · exact ⟨rfl, rfl, rfl⟩

theorem pone (w : World) : PNum (w.alloc (.cells #[.int .i64 1] 3)) (.slice (some ⟨w.heap.size, 0, none⟩) 1 1) 1 := by
  refine ⟨?_, .inr ⟨_, _, _, rfl⟩⟩
  rw [limbs_one' (by decide) (by decide)]
  refine ⟨_, 1, rfl, Nat.le_refl _, by decide, fun _ => ⟨w.heap.size, 0, rfl, by simp, fun j hj => ?_⟩⟩
  obtain rfl : j = 0 := by simpa using hj
  exact cell_new _ _ _ 0 rfl
theorem pone_lim : (limbs 10000 1).length ≤ 1000000 := by rw [limbs_one' (by decide) (by decide)]; decide

set_option maxRecDepth 100000 in
set_option maxHeartbeats 4000000 in
theorem rdecimal_any (s t : ByteArray) (n : Int) (w : World) (hs : s.size ≤ 1000000) (ht : t.size ≤ 1000000) (hn0 : -9223372036854775808 ≤ n) (hn1 : n ≤ 9223372036854775807) :
    Calls Tryz.prog 56 #[.agg #[.string s, .string t], .int .i64 n] w (DecPost s t n w) := by
  skip
  have HX1 := Lib.hid (Boxes.one w (.cells #[.string s, .string t] 24))
  have HB1 := Lib.hid ((Below.refl _ w).alloc (Nat.le_refl _) (.cells #[.string s, .string t] 24))
  have c0 := HX1.out.cell 0 0 (b := w.heap.size) rfl rfl rfl
  have c1 := HX1.out.cell 0 1 (b := w.heap.size) rfl rfl rfl
  cases h : okP s t
  · have HO := Lib.hid (okE_no h)
    have HQ : Hid (okP s t = false ∨ n < 0 ∨ 100 < n) := .inl h
    clear h
    skip
    go_enter Tryz.func56, Tryz.ntmps56
    go_wp2_with fail
    refine (rcheck_any s t _ hs ht).mono ?_
    rintro e w2 ⟨rfl, hb2⟩
    rw [HO.out]
    have HB2 := Lib.hid (HB1.out.trans (hb2.mono HB1.out.size))
    have HX2 := Lib.hid (HX1.out.below hb2 HX1.out.lt)
    clear hb2
    go_wp2
    refine bodyPost_ret (v := .tuple #[.string ⟨#[]⟩, .string ⟨#[]⟩, .int .i64 2]) (by simp [results, Tryz.f56, go_sem]) rfl ⟨_, _, _, rfl, .inl ⟨HQ.out, rfl, rfl, rfl⟩, HB2.out⟩
  have HO := Lib.hid (okE_yes h)
  by_cases g1 : n < 0
  · have HQ : Hid (okP s t = false ∨ n < 0 ∨ 100 < n) := .inr (.inl g1)
    clear h
    skip
    go_enter Tryz.func56, Tryz.ntmps56
    go_wp2_with fail
    refine (rcheck_any s t _ hs ht).mono ?_
    rintro e w2 ⟨rfl, hb2⟩
    rw [HO.out]
    have HB2 := Lib.hid (HB1.out.trans (hb2.mono HB1.out.size))
    have HX2 := Lib.hid (HX1.out.below hb2 HX1.out.lt)
    clear hb2
    go_wp2
    refine bodyPost_ret (v := .tuple #[.string ⟨#[]⟩, .string ⟨#[]⟩, .int .i64 2]) (by simp [results, Tryz.f56, go_sem]) rfl ⟨_, _, _, rfl, .inl ⟨HQ.out, rfl, rfl, rfl⟩, HB2.out⟩
  by_cases g2 : 100 < n
  · have HQ : Hid (okP s t = false ∨ n < 0 ∨ 100 < n) := .inr (.inr g2)
    have g1d : decide (n < 0) = false := decide_eq_false g1
    clear h
    skip
    go_enter Tryz.func56, Tryz.ntmps56
    go_wp2_with fail
    refine (rcheck_any s t _ hs ht).mono ?_
    rintro e w2 ⟨rfl, hb2⟩
    rw [HO.out]
    have HB2 := Lib.hid (HB1.out.trans (hb2.mono HB1.out.size))
    have HX2 := Lib.hid (HX1.out.below hb2 HX1.out.lt)
    clear hb2
    go_wp2
    refine bodyPost_ret (v := .tuple #[.string ⟨#[]⟩, .string ⟨#[]⟩, .int .i64 2]) (by simp [results, Tryz.f56, go_sem]) rfl ⟨_, _, _, rfl, .inl ⟨HQ.out, rfl, rfl, rfl⟩, HB2.out⟩
  obtain ⟨n, rfl⟩ : ∃ m : Nat, n = m := ⟨n.toNat, by omega⟩
  have HOK := Lib.hid h
  have hn100 : n ≤ 100 := by omega
  have HN := Lib.hid hn100
  have hr := rok h
  obtain ⟨a, ha⟩ : ∃ a, decVal s.data.toList = a := ⟨_, rfl⟩
  obtain ⟨d, hd⟩ : ∃ d, decVal t.data.toList = d := ⟨_, rfl⟩
  have HPS : Hid (∀ W, Calls Tryz.prog 69 #[.string s] W (PPost W a)) := fun W => by rw [← ha]; exact rparts_any s hs hr.ds W
  have HPT : Hid (∀ W, Calls Tryz.prog 69 #[.string t] W (PPost W d)) := fun W => by rw [← hd]; exact rparts_any t ht hr.dt W
  have HQ : Hid (∀ x y, x = pointB (Lib.decDigits (decQ a d n)) n → y = pointB (Lib.decDigits (decU a d n)) n → DecR s t (n : Nat) x y 0) := fun x y hx hy => .inr ⟨HOK.out, by omega, by omega, by rw [ha, hd]; exact hx, by rw [ha, hd]; exact hy, rfl⟩
  have hls := hr.ls
  have hlt := hr.lt
  have hpos := hr.pos
  rw [ha] at hls
  rw [hd] at hlt hpos
  have hm := lim_mul (by omega) hls (lim_ten hn100).1
  have hlq : (limbs 10000 (a * 10 ^ n / d)).length ≤ 176 := Nat.le_trans (limbs_length_mono (by omega) (Nat.div_le_self _ _)) hm
  have hlu : (limbs 10000 (a * 10 ^ n / d + 1)).length ≤ 177 := limbs_length_le (by omega) (by
    have h1 := lim_lt (by omega) hlq
    have h2 : (10000 : Nat) ^ 176 * 10000 = 10000 ^ 177 := (Nat.pow_succ ..).symm
    omega)
  have HL : Hid ((limbs 10000 a).length ≤ 1000000 ∧ (limbs 10000 (10 ^ n)).length ≤ 1000000 ∧ (limbs 10000 (a * 10 ^ n)).length ≤ 100000 ∧ (limbs 10000 d).length ≤ 100000 ∧ 0 < d ∧ (limbs 10000 (a * 10 ^ n / d)).length ≤ 100000 ∧ (limbs 10000 (a * 10 ^ n / d + 1)).length ≤ 100000) :=
    ⟨by omega, by have := (lim_ten hn100).1; omega, by omega, by omega, hpos, by omega, by omega⟩
  have HPW := Lib.hid (fun W => rpower_any n (by omega) W)
  clear h ha hd hr hls hlt hpos hm hlq hlu hn0 hn1
  go_enter Tryz.func56, Tryz.ntmps56
  go_wp2_with fail
  refine (rcheck_any s t _ hs ht).mono ?_
  rintro e w2 ⟨rfl, hb2⟩
  rw [HO.out]
  have HB2 := Lib.hid (HB1.out.trans (hb2.mono HB1.out.size))
  have HX2 := Lib.hid (HX1.out.below hb2 HX1.out.lt)
  clear hb2
  have ka2 := HX2.out.cell 0 0 (b := w.heap.size) rfl rfl rfl
  have kb2 := HX2.out.cell 0 1 (b := w.heap.size) rfl rfl rfl
  go_wp2_with fail
  go_region_held3
    (fun w' => w'.cell? ⟨w.heap.size, 0, none⟩ = some (.string s) ∧ w'.cell? ⟨w.heap.size, 1, none⟩ = some (.string t))
    (first | exact ⟨ka2, kb2⟩ | exact ⟨ka3, kb3⟩ | exact ⟨ka4, kb4⟩ | exact ⟨ka5, kb5⟩ | exact ⟨ka6, kb6⟩ | exact ⟨ka7, kb7⟩)
    (first
      | (go_at_call_of 69 (Value.string s); refine (HPS.out _).mono ?_; rintro e w3 ⟨va, rfl, hv, hb⟩; obtain ⟨pa, ma, ca, rfl⟩ := hv.form; have HA3 := Lib.hid hv; have HX3 := Lib.hid (HX2.out.drew.below hb HX2.out.lt); have HB3 : Hid (Below w.heap.size w w3) := HB2.out.drew.trans (hb.mono HB2.out.size); have ka3 := HX3.out.cell 0 0 (b := w.heap.size) rfl rfl rfl; have kb3 := HX3.out.cell 0 1 (b := w.heap.size) rfl rfl rfl; clear hv hb)
      | (go_at_call 112; refine (HPW.out _).mono ?_; rintro e w4 ⟨vb, rfl, hv, hb⟩; obtain ⟨pb, mb, cb, rfl⟩ := hv.form; have HP4 := Lib.hid hv; have HA4 := Lib.hid (HA3.out.after hb (Nat.le_refl _)); have HX4 := Lib.hid (HX3.out.below hb HX3.out.lt); have HB4 : Hid (Below w.heap.size w w4) := HB3.out.trans (hb.mono HB3.out.size); have ka4 := HX4.out.cell 0 0 (b := w.heap.size) rfl rfl rfl; have kb4 := HX4.out.cell 0 1 (b := w.heap.size) rfl rfl rfl; clear hv hb)
      | (go_at_call 68; refine (rtimes_any HA4.out HP4.out HL.out.1 HL.out.2.1).mono ?_; rintro e w5 ⟨vc, rfl, hv, hb⟩; obtain ⟨pc, mc, cc, rfl⟩ := hv.form; have HM5 := Lib.hid hv; have HX5 := Lib.hid (HX4.out.below hb HX4.out.lt); have HB5 : Hid (Below w.heap.size w w5) := HB4.out.trans (hb.mono HB4.out.size); have ka5 := HX5.out.cell 0 0 (b := w.heap.size) rfl rfl rfl; have kb5 := HX5.out.cell 0 1 (b := w.heap.size) rfl rfl rfl; clear hv hb)
      | (go_at_call_of 69 (Value.string t); refine (HPT.out _).mono ?_; rintro e w6 ⟨vd, rfl, hv, hb⟩; obtain ⟨pd, md, cd, rfl⟩ := hv.form; have HD6 := Lib.hid hv; have HM6 := Lib.hid (HM5.out.after hb (Nat.le_refl _)); have HX6 := Lib.hid (HX5.out.below hb HX5.out.lt); have HB6 : Hid (Below w.heap.size w w6) := HB5.out.trans (hb.mono HB5.out.size); have ka6 := HX6.out.cell 0 0 (b := w.heap.size) rfl rfl rfl; have kb6 := HX6.out.cell 0 1 (b := w.heap.size) rfl rfl rfl; clear hv hb)
      | (go_at_call 115; refine (rover_any HM6.out HD6.out HL.out.2.2.1 HL.out.2.2.2.1 HL.out.2.2.2.2.1).mono ?_; rintro e w7 ⟨vq, vr, rfl, hv, hv2, hb⟩; obtain ⟨pq, mq, cq, rfl⟩ := hv.form; obtain ⟨pr, cr, rfl, _⟩ := id hv2.1; have HQ7 := Lib.hid hv; have HR7 := Lib.hid hv2; have HX7 := Lib.hid (HX6.out.below hb HX6.out.lt); have HB7 : Hid (Below w.heap.size w w7) := HB6.out.trans (hb.mono HB6.out.size); have ka7 := HX7.out.cell 0 0 (b := w.heap.size) rfl rfl rfl; have kb7 := HX7.out.cell 0 1 (b := w.heap.size) rfl rfl rfl; clear hv hv2 hb))
  clear ka2 kb2
  obtain ⟨mr, hmr⟩ : ∃ m, (limbs 10000 (a * 10 ^ n % d)).length = m := ⟨_, rfl⟩
  rw [hmr]
  by_cases hz : a * 10 ^ n % d = 0
  · obtain rfl : mr = 0 := by rw [← hmr, hz, limbs_zero]; rfl
    have HU : Hid (decU a d n = a * 10 ^ n / d) := by show _ = _; unfold decU; rw [if_pos hz]
    clear hmr hz
    go_wp2_with fail
    refine (shown_any HQ7.out HL.out.2.2.2.2.2.1 (Nat.le_trans HN.out (by decide))).mono ?_
    rintro e w8 ⟨rfl, hb⟩
    have HB8 := Lib.hid (HB7.out.trans (hb.mono HB7.out.size))
    have HQB8 := Lib.hid hb
    obtain ⟨x, hx⟩ : ∃ z, z = pointB (Lib.decDigits (a * 10 ^ n / d)) n := ⟨_, rfl⟩
    rw [← hx]
    have HX8 := Lib.hid hx
    clear hb hx
    go_wp2_with fail
    have HQ8 := Lib.hid (HQ7.out.after HQB8.out (Nat.le_refl _))
    refine (shown_any HQ8.out HL.out.2.2.2.2.2.1 (Nat.le_trans HN.out (by decide))).mono ?_
    rintro e w9 ⟨rfl, hb⟩
    have HB9 := Lib.hid (HB8.out.trans (hb.mono HB8.out.size))
    have HQB9 := Lib.hid hb
    obtain ⟨y, hx⟩ : ∃ z, z = pointB (Lib.decDigits (a * 10 ^ n / d)) n := ⟨_, rfl⟩
    rw [← hx]
    have HX9 := Lib.hid hx
    clear hb hx
    go_wp2_with fail
    go_wp2
    refine bodyPost_ret (v := .tuple #[.string x, .string y, .int .i64 0]) (by simp [results, Tryz.f56, go_sem]) rfl ⟨_, _, _, rfl, HQ.out x y HX8.out ?_, HB9.out⟩
    rw [HU.out]; exact HX9.out
  · have hm0 : (0 : Int) < (mr : Nat) := by
      have h1 := limbs_length_pos (B := 10000) (by omega) (n := a * 10 ^ n % d)
      omega
    have HU : Hid (decU a d n = a * 10 ^ n / d + 1) := by show _ = _; unfold decU; rw [if_neg hz]
    have HO1 := Lib.hid (pone w7)
    have al := (Below.refl w7.heap.size w7).alloc (Nat.le_refl _) (.cells #[.int .i64 1] 3)
    have HQ7a := Lib.hid (HQ7.out.after al (Nat.le_refl _))
    have HB7a := Lib.hid (HB7.out.trans (al.mono HB7.out.size))
    clear hmr hz al
    go_wp2_with fail
    refine (rplus_any HQ7a.out HO1.out (Nat.le_trans HL.out.2.2.2.2.2.1 (by decide)) pone_lim).mono ?_
    rintro e w10 ⟨vu, rfl, hv, hb⟩
    obtain ⟨pu, mu, cu, rfl⟩ := hv.form
    have HU10 := Lib.hid hv
    have HQ10 := Lib.hid (HQ7a.out.after hb (Nat.le_refl _))
    have HB10 := Lib.hid (HB7a.out.trans (hb.mono HB7a.out.size))
    clear hv hb
    go_wp2_with fail
    refine (shown_any HQ10.out HL.out.2.2.2.2.2.1 (Nat.le_trans HN.out (by decide))).mono ?_
    rintro e w8 ⟨rfl, hb⟩
    have HB8 := Lib.hid (HB10.out.trans (hb.mono HB10.out.size))
    have HQB8 := Lib.hid hb
    obtain ⟨x, hx⟩ : ∃ z, z = pointB (Lib.decDigits (a * 10 ^ n / d)) n := ⟨_, rfl⟩
    rw [← hx]
    have HX8 := Lib.hid hx
    clear hb hx
    go_wp2_with fail
    have HU8 := Lib.hid (HU10.out.after HQB8.out (Nat.le_refl _))
    refine (shown_any HU8.out HL.out.2.2.2.2.2.2 (Nat.le_trans HN.out (by decide))).mono ?_
    rintro e w9 ⟨rfl, hb⟩
    have HB9 := Lib.hid (HB8.out.trans (hb.mono HB8.out.size))
    have HQB9 := Lib.hid hb
    obtain ⟨y, hx⟩ : ∃ z, z = pointB (Lib.decDigits (a * 10 ^ n / d + 1)) n := ⟨_, rfl⟩
    rw [← hx]
    have HX9 := Lib.hid hx
    clear hb hx
    go_wp2_with fail
    go_wp2
    refine bodyPost_ret (v := .tuple #[.string x, .string y, .int .i64 0]) (by simp [results, Tryz.f56, go_sem]) rfl ⟨_, _, _, rfl, HQ.out x y HX8.out ?_, HB9.out⟩
    rw [HU.out]; exact HX9.out
end Go.Proofs.YthbpadjhlkdpeaaGreatDoor
/- weight's Decimal. -/
namespace Go.Proofs.YthbpadjhlkdpeaaGreatDoor
open Go.RowKit Go.Shelf



theorem wone (w : World) : Num (w.alloc (.cells #[.int .u64 1] 113)) (.slice (some ⟨w.heap.size, 0, none⟩) 1 1) 1 := by
  show Nums _ _ _ _
  rw [limbs_one' (by decide) (by decide)]
  refine ⟨_, 1, rfl, Nat.le_refl _, by decide, fun _ => ⟨w.heap.size, 0, rfl, by simp, fun j hj => ?_⟩⟩
  obtain rfl : j = 0 := by simpa using hj
  exact cell_new _ _ _ 0 rfl
theorem wone_lim : (limbs 1000000000 1).length ≤ 1000000 := by rw [limbs_one' (by decide) (by decide)]; decide
theorem Num.form2 {w : World} {v : Value} {n : Nat} (h : Num w v n) : ∃ p m c, v = .slice p m c := by
  obtain ⟨p, c, rfl, _⟩ := h
  exact ⟨_, _, _, rfl⟩

set_option maxRecDepth 100000 in
set_option maxHeartbeats 4000000 in
theorem wdecimal_any (s t : ByteArray) (n : Int) (w : World) (hs : s.size ≤ 1000000) (ht : t.size ≤ 1000000) (hn0 : -9223372036854775808 ≤ n) (hn1 : n ≤ 9223372036854775807) (hT : Tabs w) (hV : TensV w) :
    Calls Tryz.prog 55 #[.agg #[.string s, .string t], .int .i64 n] w (DecPost s t n w) := by
  have HT := Lib.hid hT
  have HV := Lib.hid hV
  clear hT hV
  have HX1 := Lib.hid (Boxes.one w (.cells #[.string s, .string t] 24))
  have HB1 := Lib.hid ((Below.refl _ w).alloc (Nat.le_refl _) (.cells #[.string s, .string t] 24))
  have c0 := HX1.out.cell 0 0 (b := w.heap.size) rfl rfl rfl
  have c1 := HX1.out.cell 0 1 (b := w.heap.size) rfl rfl rfl
  cases h : okP s t
  · have HO := Lib.hid (okE_no h)
    have HQ : Hid (okP s t = false ∨ n < 0 ∨ 100 < n) := .inl h
    clear h
    skip
    go_enter Tryz.func55, Tryz.ntmps55
    go_wp2_with fail
    refine (check_any s t _ hs ht).mono ?_
    rintro e w2 ⟨rfl, hb2⟩
    rw [HO.out]
    have HB2 := Lib.hid (HB1.out.trans (hb2.mono HB1.out.size))
    have HX2 := Lib.hid (HX1.out.below hb2 HX1.out.lt)
    clear hb2
    go_wp2
    refine bodyPost_ret (v := .tuple #[.string ⟨#[]⟩, .string ⟨#[]⟩, .int .i64 2]) (by simp [results, Tryz.f55, go_sem]) rfl ⟨_, _, _, rfl, .inl ⟨HQ.out, rfl, rfl, rfl⟩, HB2.out⟩
  have HO := Lib.hid (okE_yes h)
  by_cases g1 : n < 0
  · have HQ : Hid (okP s t = false ∨ n < 0 ∨ 100 < n) := .inr (.inl g1)
    clear h
    skip
    go_enter Tryz.func55, Tryz.ntmps55
    go_wp2_with fail
    refine (check_any s t _ hs ht).mono ?_
    rintro e w2 ⟨rfl, hb2⟩
    rw [HO.out]
    have HB2 := Lib.hid (HB1.out.trans (hb2.mono HB1.out.size))
    have HX2 := Lib.hid (HX1.out.below hb2 HX1.out.lt)
    clear hb2
    go_wp2
    refine bodyPost_ret (v := .tuple #[.string ⟨#[]⟩, .string ⟨#[]⟩, .int .i64 2]) (by simp [results, Tryz.f55, go_sem]) rfl ⟨_, _, _, rfl, .inl ⟨HQ.out, rfl, rfl, rfl⟩, HB2.out⟩
  by_cases g2 : 100 < n
  · have HQ : Hid (okP s t = false ∨ n < 0 ∨ 100 < n) := .inr (.inr g2)
    have g1d : decide (n < 0) = false := decide_eq_false g1
    clear h
    skip
    go_enter Tryz.func55, Tryz.ntmps55
    go_wp2_with fail
    refine (check_any s t _ hs ht).mono ?_
    rintro e w2 ⟨rfl, hb2⟩
    rw [HO.out]
    have HB2 := Lib.hid (HB1.out.trans (hb2.mono HB1.out.size))
    have HX2 := Lib.hid (HX1.out.below hb2 HX1.out.lt)
    clear hb2
    go_wp2
    refine bodyPost_ret (v := .tuple #[.string ⟨#[]⟩, .string ⟨#[]⟩, .int .i64 2]) (by simp [results, Tryz.f55, go_sem]) rfl ⟨_, _, _, rfl, .inl ⟨HQ.out, rfl, rfl, rfl⟩, HB2.out⟩
  obtain ⟨n, rfl⟩ : ∃ m : Nat, n = m := ⟨n.toNat, by omega⟩
  have HOK := Lib.hid h
  have hn100 : n ≤ 100 := by omega
  have HN := Lib.hid hn100
  obtain ⟨hk1, hk2, hpos, _⟩ := okP_iff.1 h
  obtain ⟨cs1, cs2⟩ := canon_of_nat hk1
  obtain ⟨ct1, ct2⟩ := canon_of_nat hk2
  have hls := decVal_lim cs1.dig (j := 70) (by rw [← size_len]; omega)
  have hlt := decVal_lim ct1.dig (j := 70) (by rw [← size_len]; omega)
  obtain ⟨a, ha⟩ : ∃ a, decVal s.data.toList = a := ⟨_, rfl⟩
  obtain ⟨d, hd⟩ : ∃ d, decVal t.data.toList = d := ⟨_, rfl⟩
  have HTK : Hid (∀ W, Calls Tryz.prog 86 #[.agg #[.string s, .string t]] W (FracPost W a d)) := fun W => by rw [← ha, ← hd]; exact taken_any s t hs ht cs1.dig ct1.dig W
  have HQ : Hid (∀ x y, x = pointB (Lib.decDigits (decQ a d n)) n → y = pointB (Lib.decDigits (decU a d n)) n → DecR s t (n : Nat) x y 0) := fun x y hx hy => .inr ⟨HOK.out, by omega, by omega, by rw [ha, hd]; exact hx, by rw [ha, hd]; exact hy, rfl⟩
  rw [ha] at hls
  rw [hd] at hlt hpos
  have hm := lim_mul (by omega) hls (lim_ten hn100).2
  have hlq : (limbs 1000000000 (a * 10 ^ n / d)).length ≤ 82 := Nat.le_trans (limbs_length_mono (by omega) (Nat.div_le_self _ _)) hm
  have hlu : (limbs 1000000000 (a * 10 ^ n / d + 1)).length ≤ 83 := limbs_length_le (by omega) (by
    have h1 := lim_lt (by omega) hlq
    have h2 : (1000000000 : Nat) ^ 82 * 1000000000 = 1000000000 ^ 83 := (Nat.pow_succ ..).symm
    omega)
  have HL : Hid ((limbs 1000000000 a).length ≤ 1000000 ∧ (limbs 1000000000 (10 ^ n)).length ≤ 1000000 ∧ (limbs 1000000000 (a * 10 ^ n)).length ≤ 100000 ∧ (limbs 1000000000 d).length ≤ 100000 ∧ 0 < d ∧ (limbs 1000000000 (a * 10 ^ n / d)).length ≤ 10000 ∧ (limbs 1000000000 (a * 10 ^ n / d + 1)).length ≤ 10000) :=
    ⟨by omega, by have := (lim_ten hn100).2; omega, by omega, by omega, hpos, by omega, by omega⟩
  have HPW : Hid (∀ W, TensV W → Calls Tryz.prog 106 #[.int .i64 n] W (NumPost W (10 ^ n))) := fun W hv => power_any n (by omega) W hv
  clear h ha hd hls hlt hpos hm hlq hlu hn0 hn1 hk1 hk2 cs1 cs2 ct1 ct2
  go_enter Tryz.func55, Tryz.ntmps55
  go_wp2_with fail
  refine (check_any s t _ hs ht).mono ?_
  rintro e w2 ⟨rfl, hb2⟩
  rw [HO.out]
  have HB2 := Lib.hid (HB1.out.trans (hb2.mono HB1.out.size))
  have HX2 := Lib.hid (HX1.out.below hb2 HX1.out.lt)
  clear hb2
  have ka2 := HX2.out.cell 0 0 (b := w.heap.size) rfl rfl rfl
  have kb2 := HX2.out.cell 0 1 (b := w.heap.size) rfl rfl rfl
  go_wp2_with fail
  refine (HTK.out _).mono ?_
  rintro e w3 ⟨vn, vd, rfl, hN, hD, hb⟩
  obtain ⟨pn, ln, cn, rfl⟩ := hN.form2
  obtain ⟨pd, ld, cd, rfl⟩ := hD.form2
  have al := (Below.refl w3.heap.size w3).alloc (Nat.le_refl _) (.cells #[.slice pn ln cn, .slice pd ld cd] 94)
  have HN3 := Lib.hid (hN.after al (Nat.le_refl _))
  have HD3 := Lib.hid (hD.after al (Nat.le_refl _))
  have HX3 := Lib.hid (Boxes.one w3 (.cells #[.slice pn ln cn, .slice pd ld cd] 94))
  have HB3 := Lib.hid ((HB2.out.trans (hb.mono HB2.out.size)).trans (al.mono (HB2.out.trans (hb.mono HB2.out.size)).size))
  clear hN hD hb al ka2 kb2
  have ka3 := HX3.out.cell 0 0 (b := w3.heap.size) rfl rfl rfl
  have kb3 := HX3.out.cell 0 1 (b := w3.heap.size) rfl rfl rfl
  go_wp2_with fail
  go_region_held3
    (fun w' => w'.cell? ⟨w3.heap.size, 0, none⟩ = some (.slice pn ln cn) ∧ w'.cell? ⟨w3.heap.size, 1, none⟩ = some (.slice pd ld cd))
    (first | exact ⟨ka3, kb3⟩ | exact ⟨ka4, kb4⟩ | exact ⟨ka5, kb5⟩ | exact ⟨ka7, kb7⟩)
    (first
      | (go_at_call 106; refine (HPW.out _ (HV.out.below HB3.out.drew (Nat.le_refl _))).mono ?_; rintro e w4 ⟨vb, rfl, hv, hb⟩; obtain ⟨pb, mb, cb, rfl⟩ := hv.form2; have HP4 := Lib.hid hv; have HN4 := Lib.hid (HN3.out.after ((Below.refl _ _).drew.trans hb) (Nat.le_refl _)); have HD4 := Lib.hid (HD3.out.after ((Below.refl _ _).drew.trans hb) (Nat.le_refl _)); have HX4 := Lib.hid (HX3.out.drew.below hb HX3.out.lt); have HB4 : Hid (Below w.heap.size w w4) := HB3.out.drew.trans (hb.mono HB3.out.size); have ka4 := HX4.out.cell 0 0 (b := w3.heap.size) rfl rfl rfl; have kb4 := HX4.out.cell 0 1 (b := w3.heap.size) rfl rfl rfl; clear hv hb)
      | (go_at_call 64; refine (times_any HN4.out HP4.out HL.out.1 HL.out.2.1).mono ?_; rintro e w5 ⟨vc, rfl, hv, hb⟩; obtain ⟨pc, mc, cc, rfl⟩ := hv.num.form2; have HM5 := Lib.hid hv.num; have HD5 := Lib.hid (HD4.out.after hb (Nat.le_refl _)); have HX5 := Lib.hid (HX4.out.below hb HX4.out.lt); have HB5 : Hid (Below w.heap.size w w5) := HB4.out.trans (hb.mono HB4.out.size); have ka5 := HX5.out.cell 0 0 (b := w3.heap.size) rfl rfl rfl; have kb5 := HX5.out.cell 0 1 (b := w3.heap.size) rfl rfl rfl; clear hv hb)
      | (go_at_call 113; refine (over_any HM5.out HD5.out HL.out.2.2.1 HL.out.2.2.2.1 HL.out.2.2.2.2.1).mono ?_; rintro e w7 ⟨vq, vr, rfl, hv, hv2, hb⟩; obtain ⟨pq, mq, cq, rfl⟩ := hv.form2; obtain ⟨pr, cr, rfl, _⟩ := id hv2; have HQ7 := Lib.hid hv; have HR7 := Lib.hid hv2; have HX7 := Lib.hid (HX5.out.below hb HX5.out.lt); have HB7 : Hid (Below w.heap.size w w7) := HB5.out.trans (hb.mono HB5.out.size); have ka7 := HX7.out.cell 0 0 (b := w3.heap.size) rfl rfl rfl; have kb7 := HX7.out.cell 0 1 (b := w3.heap.size) rfl rfl rfl; clear hv hv2 hb))
  clear ka3 kb3
  obtain ⟨mr, hmr⟩ : ∃ m, (limbs 1000000000 (a * 10 ^ n % d)).length = m := ⟨_, rfl⟩
  rw [hmr]
  by_cases hz : a * 10 ^ n % d = 0
  · obtain rfl : mr = 0 := by rw [← hmr, hz, limbs_zero]; rfl
    have HU : Hid (decU a d n = a * 10 ^ n / d) := by show _ = _; unfold decU; rw [if_pos hz]
    clear hmr hz
    go_wp2_with fail
    refine (pointed_any HQ7.out HL.out.2.2.2.2.2.1 (Nat.le_trans HN.out (by decide)) (HT.out.below HB7.out (Nat.le_refl _))).mono ?_
    rintro e w8 ⟨rfl, hb⟩
    have HB8 := Lib.hid (HB7.out.trans (hb.mono HB7.out.size))
    have HQB8 := Lib.hid hb
    obtain ⟨x, hx⟩ : ∃ z, z = pointB (Lib.decDigits (a * 10 ^ n / d)) n := ⟨_, rfl⟩
    rw [← hx]
    have HX8 := Lib.hid hx
    clear hb hx
    go_wp2_with fail
    have HQ8 := Lib.hid (HQ7.out.after HQB8.out (Nat.le_refl _))
    refine (pointed_any HQ8.out HL.out.2.2.2.2.2.1 (Nat.le_trans HN.out (by decide)) (HT.out.below HB8.out (Nat.le_refl _))).mono ?_
    rintro e w9 ⟨rfl, hb⟩
    have HB9 := Lib.hid (HB8.out.trans (hb.mono HB8.out.size))
    have HQB9 := Lib.hid hb
    obtain ⟨y, hx⟩ : ∃ z, z = pointB (Lib.decDigits (a * 10 ^ n / d)) n := ⟨_, rfl⟩
    rw [← hx]
    have HX9 := Lib.hid hx
    clear hb hx
    go_wp2_with fail
    go_wp2
    refine bodyPost_ret (v := .tuple #[.string x, .string y, .int .i64 0]) (by simp [results, Tryz.f55, go_sem]) rfl ⟨_, _, _, rfl, HQ.out x y HX8.out ?_, HB9.out⟩
    rw [HU.out]; exact HX9.out
  · have hm0 : (0 : Int) < (mr : Nat) := by
      have h1 := limbs_length_pos (B := 1000000000) (by omega) (n := a * 10 ^ n % d)
      omega
    have HU : Hid (decU a d n = a * 10 ^ n / d + 1) := by show _ = _; unfold decU; rw [if_neg hz]
    have HO1 := Lib.hid (wone w7)
    have al := (Below.refl w7.heap.size w7).alloc (Nat.le_refl _) (.cells #[.int .u64 1] 113)
    have HQ7a := Lib.hid (HQ7.out.after al (Nat.le_refl _))
    have HB7a := Lib.hid (HB7.out.trans (al.mono HB7.out.size))
    clear hmr hz al
    go_wp2_with fail
    refine (plus_any HQ7a.out HO1.out (Nat.le_trans HL.out.2.2.2.2.2.1 (by decide)) wone_lim).mono ?_
    rintro e w10 ⟨vu, rfl, hv, hb⟩
    obtain ⟨pu, mu, cu, rfl⟩ := hv.num.form2
    have HU10 := Lib.hid hv.num
    have HQ10 := Lib.hid (HQ7a.out.after hb (Nat.le_refl _))
    have HB10 := Lib.hid (HB7a.out.trans (hb.mono HB7a.out.size))
    clear hv hb
    go_wp2_with fail
    refine (pointed_any HQ10.out HL.out.2.2.2.2.2.1 (Nat.le_trans HN.out (by decide)) (HT.out.below HB10.out (Nat.le_refl _))).mono ?_
    rintro e w8 ⟨rfl, hb⟩
    have HB8 := Lib.hid (HB10.out.trans (hb.mono HB10.out.size))
    have HQB8 := Lib.hid hb
    obtain ⟨x, hx⟩ : ∃ z, z = pointB (Lib.decDigits (a * 10 ^ n / d)) n := ⟨_, rfl⟩
    rw [← hx]
    have HX8 := Lib.hid hx
    clear hb hx
    go_wp2_with fail
    have HU8 := Lib.hid (HU10.out.after HQB8.out (Nat.le_refl _))
    refine (pointed_any HU8.out HL.out.2.2.2.2.2.2 (Nat.le_trans HN.out (by decide)) (HT.out.below HB8.out (Nat.le_refl _))).mono ?_
    rintro e w9 ⟨rfl, hb⟩
    have HB9 := Lib.hid (HB8.out.trans (hb.mono HB8.out.size))
    have HQB9 := Lib.hid hb
    obtain ⟨y, hx⟩ : ∃ z, z = pointB (Lib.decDigits (a * 10 ^ n / d + 1)) n := ⟨_, rfl⟩
    rw [← hx]
    have HX9 := Lib.hid hx
    clear hb hx
    go_wp2_with fail
    go_wp2
    refine bodyPost_ret (v := .tuple #[.string x, .string y, .int .i64 0]) (by simp [results, Tryz.f55, go_sem]) rfl ⟨_, _, _, rfl, HQ.out x y HX8.out ?_, HB9.out⟩
    rw [HU.out]; exact HX9.out
end Go.Proofs.YthbpadjhlkdpeaaGreatDoor
/- Reading a text: what Read answers; the document's. -/
namespace Go.Proofs.YthbpadjhlkdpeaaGreatDoor
open Go.RowKit Go.Shelf



def cutS (s : ByteArray) (c : UInt8) : ByteArray × ByteArray × Bool := (str (cutB s.data.toList c).1, str (cutB s.data.toList c).2.1, (cutB s.data.toList c).2.2)
theorem cutS_size (s : ByteArray) (c : UInt8) : (cutS s c).1.size ≤ s.size ∧ (cutS s c).2.1.size ≤ s.size := by
  unfold cutS cutB
  simp only [str_size]
  split
  · simp only [List.length_take, List.length_drop]
    rw [size_len]
    omega
  · simp only [List.length_nil]
    rw [size_len]
    omega
/-- What Read answers, by the pieces of the text. -/
def ReadQ (n : Nat) (a b c d : ByteArray) (p q : Bool) (x y : ByteArray) (e : Int) : Prop :=
  if 1300 < n then x = str [] ∧ y = str [] ∧ e = 3
  else if p = true then
    if (wholeOk a.data.toList && wholeOk b.data.toList) = false then x = str [] ∧ y = str [] ∧ e = 5
    else if 600 < a.size ∨ 600 < b.size then x = str [] ∧ y = str [] ∧ e = 4
    else Made a b x y e
  else if (wholeOk c.data.toList && (!q || plainOk d.data.toList)) = false then x = str [] ∧ y = str [] ∧ e = 5
  else if 600 < (Lib.decDigits (decVal (c ++ d).data.toList)).length then x = str [] ∧ y = str [] ∧ e = 4
  else Ans (mkRat (decVal (c ++ d).data.toList : Nat) (10 ^ d.size)) x y e
theorem det_readq (n : Nat) (a b c d : ByteArray) (p q : Bool) {x y x' y' : ByteArray} {e e' : Int} (hm : ∀ x y x' y' : ByteArray, ∀ e e' : Int, Made a b x y e → Made a b x' y' e' → x' = x ∧ y' = y ∧ e' = e) (h : ReadQ n a b c d p q x y e) (k : ReadQ n a b c d p q x' y' e') : x' = x ∧ y' = y ∧ e' = e := by
  have same : ∀ m : Int, (x = str [] ∧ y = str [] ∧ e = m) → (x' = str [] ∧ y' = str [] ∧ e' = m) → x' = x ∧ y' = y ∧ e' = e := fun m ⟨h1, h2, h3⟩ ⟨k1, k2, k3⟩ => ⟨k1.trans h1.symm, k2.trans h2.symm, k3.trans h3.symm⟩
  unfold ReadQ at h k
  by_cases c1 : 1300 < n
  · rw [if_pos c1] at h k; exact same _ h k
  rw [if_neg c1] at h k
  by_cases c2 : p = true
  · rw [if_pos c2] at h k
    by_cases c3 : (wholeOk a.data.toList && wholeOk b.data.toList) = false
    · rw [if_pos c3] at h k; exact same _ h k
    rw [if_neg c3] at h k
    by_cases c4 : 600 < a.size ∨ 600 < b.size
    · rw [if_pos c4] at h k; exact same _ h k
    rw [if_neg c4] at h k
    exact hm _ _ _ _ _ _ h k
  · rw [if_neg c2] at h k
    by_cases c3 : (wholeOk c.data.toList && (!q || plainOk d.data.toList)) = false
    · rw [if_pos c3] at h k; exact same _ h k
    rw [if_neg c3] at h k
    by_cases c4 : 600 < (Lib.decDigits (decVal (c ++ d).data.toList)).length
    · rw [if_pos c4] at h k; exact same _ h k
    rw [if_neg c4] at h k
    exact det_ans _ _ _ _ _ _ _ k h
def ReadR (s x y : ByteArray) (e : Int) : Prop := ReadQ s.size (cutS s 47).1 (cutS s 47).2.1 (cutS s 46).1 (cutS s 46).2.1 (cutS s 47).2.2 (cutS s 46).2.2 x y e

theorem cut_digits {c d : ByteArray} {q : Bool} (h : (wholeOk c.data.toList && (!q || plainOk d.data.toList)) = true) (hq : q = false → d = ⟨#[]⟩) : ∀ x ∈ (c ++ d).data.toList, isDig x = true := by
  intro x hx
  rw [ByteArray.data_append, Array.toList_append] at hx
  obtain ⟨h1, h2⟩ := Bool.and_eq_true_iff.1 h
  rcases List.mem_append.1 hx with hx | hx
  · exact (canon_of_whole h1).dig x hx
  · cases q with
    | false => rw [hq rfl] at hx; simp at hx
    | true =>
      have h3 : plainOk d.data.toList = true := by simpa using h2
      unfold plainOk at h3
      rw [Bool.and_eq_true] at h3
      have h4 : d.data.toList.all isDig = true := by
        rcases h3 with ⟨h4, h5⟩
        first | exact h5 | exact h4
      exact List.all_eq_true.1 h4 x hx
theorem cutS_none {s : ByteArray} {c : UInt8} (h : (cutS s c).2.2 = false) : (cutS s c).2.1 = ⟨#[]⟩ := by
  unfold cutS cutB at h ⊢
  dsimp only at h ⊢
  split at h
  · cases h
  · rename_i h1
    rw [if_neg h1]; rfl
end Go.Proofs.YthbpadjhlkdpeaaGreatDoor
/- The document's Read. -/
namespace Go.Proofs.YthbpadjhlkdpeaaGreatDoor
open Go.RowKit Go.Shelf



section
variable {n : Nat} {a b c d : ByteArray} {p q : Bool} {x y : ByteArray} {e : Int}
theorem rq_long (h : 1300 < n) : ReadQ n a b c d p q (str []) (str []) 3 := by unfold ReadQ; rw [if_pos h]; exact ⟨rfl, rfl, rfl⟩
theorem rq_form (h : ¬ 1300 < n) (hw : (wholeOk a.data.toList && wholeOk b.data.toList) = false) : ReadQ n a b c d true q (str []) (str []) 5 := by
  unfold ReadQ; rw [if_neg h, if_pos rfl, if_pos hw]; exact ⟨rfl, rfl, rfl⟩
theorem rq_range (h : ¬ 1300 < n) (hw : (wholeOk a.data.toList && wholeOk b.data.toList) = true) (hl : 600 < a.size ∨ 600 < b.size) : ReadQ n a b c d true q (str []) (str []) 4 := by
  unfold ReadQ; rw [if_neg h, if_pos rfl, if_neg (by rw [hw]; decide), if_pos hl]; exact ⟨rfl, rfl, rfl⟩
theorem rq_made (h : ¬ 1300 < n) (hw : (wholeOk a.data.toList && wholeOk b.data.toList) = true) (hl : ¬ (600 < a.size ∨ 600 < b.size)) (hm : Made a b x y e) : ReadQ n a b c d true q x y e := by
  unfold ReadQ; rw [if_neg h, if_pos rfl, if_neg (by rw [hw]; decide), if_neg hl]; exact hm
theorem rq_form2 (h : ¬ 1300 < n) (hw : (wholeOk c.data.toList && (!q || plainOk d.data.toList)) = false) : ReadQ n a b c d false q (str []) (str []) 5 := by
  unfold ReadQ; rw [if_neg h, if_neg (by decide), if_pos hw]; exact ⟨rfl, rfl, rfl⟩
theorem rq_range2 (h : ¬ 1300 < n) (hw : (wholeOk c.data.toList && (!q || plainOk d.data.toList)) = true) (hl : 600 < (Lib.decDigits (decVal (c ++ d).data.toList)).length) : ReadQ n a b c d false q (str []) (str []) 4 := by
  unfold ReadQ; rw [if_neg h, if_neg (by decide), if_neg (by rw [hw]; decide), if_pos hl]; exact ⟨rfl, rfl, rfl⟩
theorem rq_ans (h : ¬ 1300 < n) (hw : (wholeOk c.data.toList && (!q || plainOk d.data.toList)) = true) (hl : ¬ 600 < (Lib.decDigits (decVal (c ++ d).data.toList)).length) (hm : Ans (mkRat (decVal (c ++ d).data.toList : Nat) (10 ^ d.size)) x y e) : ReadQ n a b c d false q x y e := by
  unfold ReadQ; rw [if_neg h, if_neg (by decide), if_neg (by rw [hw]; decide), if_neg hl]; exact hm
end
theorem lim_pow10 {k : Nat} (hk : k ≤ 1300) : (limbs 10000 (10 ^ k)).length ≤ 1301 := by
  refine Nat.le_trans (limbs_length_le (k := k + 1) (by omega) ?_) (by omega)
  rw [Nat.pow_succ]
  have h1 : (10 : Nat) ^ k ≤ 10000 ^ k := Nat.pow_le_pow_left (by omega) k
  have h2 : 0 < (10000 : Nat) ^ k := Nat.pow_pos (by omega)
  omega

set_option maxRecDepth 100000 in
set_option maxHeartbeats 8000000 in
theorem rread_any (s : ByteArray) (w : World) (hs : s.size ≤ 1000000) : Calls Tryz.prog 54 #[.string s] w (PartPost (ReadR s) w) := by
  obtain ⟨a, b, p, h1⟩ : ∃ a b p, cutS s 47 = (a, b, p) := ⟨_, _, _, rfl⟩
  obtain ⟨c, d, q, h2⟩ : ∃ a b p, cutS s 46 = (a, b, p) := ⟨_, _, _, rfl⟩
  have hsz1 := cutS_size s 47
  have hsz2 := cutS_size s 46
  have hnone : q = false → d = ⟨#[]⟩ := fun h => by
    have := cutS_none (s := s) (c := 46) (by rw [h2]; exact h)
    rw [h2] at this; exact this
  rw [h1] at hsz1
  rw [h2] at hsz2
  dsimp only at hsz1 hsz2
  have HCA : Hid (∀ W, Calls Tryz.prog 107 #[.string s, .int .u8 47] W fun e w' => e = .returned (.tuple #[.string a, .string b, .bool p]) ∧ Below W.heap.size W w') := fun W => by
    have h : Calls Tryz.prog 107 #[.string s, .int .u8 47] W fun e w' => e = .returned (.tuple #[.string (cutS s 47).1, .string (cutS s 47).2.1, .bool (cutS s 47).2.2]) ∧ Below W.heap.size W w' := cut_any s 47 W hs
    rw [h1] at h; exact h
  have HCB : Hid (∀ W, Calls Tryz.prog 107 #[.string s, .int .u8 46] W fun e w' => e = .returned (.tuple #[.string c, .string d, .bool q]) ∧ Below W.heap.size W w') := fun W => by
    have h : Calls Tryz.prog 107 #[.string s, .int .u8 46] W fun e w' => e = .returned (.tuple #[.string (cutS s 46).1, .string (cutS s 46).2.1, .bool (cutS s 46).2.2]) ∧ Below W.heap.size W w' := cut_any s 46 W hs
    rw [h2] at h; exact h
  have HR : Hid (∀ x y e, ReadQ s.size a b c d p q x y e → ReadR s x y e) := fun x y e h => by unfold ReadR; rw [h1, h2]; exact h
  clear h1 h2
  by_cases hlong : 1300 < s.size
  · have hl' : (1300 : Int) < s.size := by omega
    have HQ : Hid (ReadQ s.size a b c d p q (str []) (str []) 3) := rq_long hlong
    have HB1 : Hid (Below w.heap.size w (w.alloc (.cells #[.string ⟨#[]⟩, .string ⟨#[]⟩] 24))) := (Below.refl _ w).alloc (Nat.le_refl _) _
    have c0 : (w.alloc (.cells #[.string ⟨#[]⟩, .string ⟨#[]⟩] 24)).cell? ⟨w.heap.size, 0, none⟩ = some (.string ⟨#[]⟩) := cell_new _ _ _ 0 rfl
    have c1 : (w.alloc (.cells #[.string ⟨#[]⟩, .string ⟨#[]⟩] 24)).cell? ⟨w.heap.size, 1, none⟩ = some (.string ⟨#[]⟩) := cell_new _ _ _ 1 rfl
    clear hlong hsz1 hsz2 hnone
    go_enter Tryz.func54, Tryz.ntmps54
    go_wp2
    refine bodyPost_ret (v := .tuple #[.agg #[.string ⟨#[]⟩, .string ⟨#[]⟩], .int .i64 3]) (by simp [results, Tryz.f54, go_sem, c0, c1]) rfl ⟨_, _, _, rfl, ?_, HB1.out⟩
    exact HR.out _ _ _ HQ.out
  have hl' : ¬ (1300 : Int) < s.size := by omega
  have hss : s.size ≤ 1300 := by omega
  have HSZ : Hid (a.size ≤ 1300 ∧ b.size ≤ 1300 ∧ c.size ≤ 1300 ∧ d.size ≤ 1300) := ⟨by omega, by omega, by omega, by omega⟩
  have hza : a.size ≤ 1000000 := by omega
  have hzb : b.size ≤ 1000000 := by omega
  have hzc : c.size ≤ 1000000 := by omega
  have hzd : d.size ≤ 1000000 := by omega
  have HLO := Lib.hid hlong
  clear hlong hsz1 hsz2 hss
  obtain ⟨va, hva⟩ : ∃ v, wholeOk a.data.toList = v := ⟨_, rfl⟩
  obtain ⟨vb, hvb⟩ : ∃ v, wholeOk b.data.toList = v := ⟨_, rfl⟩
  obtain ⟨vc, hvc⟩ : ∃ v, wholeOk c.data.toList = v := ⟨_, rfl⟩
  obtain ⟨vd, hvd⟩ : ∃ v, plainOk d.data.toList = v := ⟨_, rfl⟩
  have HVA := Lib.hid hva
  have HVB := Lib.hid hvb
  have HVC := Lib.hid hvc
  have HVD := Lib.hid hvd
  clear hva hvb hvc hvd
  cases p
  rotate_left
  · clear hnone
    by_cases hv : (va && vb) = false
    · have HQ : Hid (ReadQ s.size a b c d true q (str []) (str []) 5) := rq_form HLO.out (by rw [HVA.out, HVB.out]; exact hv)
      cases va
      · clear hv
        skip
        go_enter Tryz.func54, Tryz.ntmps54
        go_wp2_with fail
        obtain ⟨w1, hw1⟩ : ∃ w1, w.alloc (.cells #[.string ⟨#[]⟩, .string ⟨#[]⟩] 24) = w1 := ⟨_, rfl⟩
        rw [hw1]
        have HX1 : Hid (Boxes w.heap.size [.cells #[.string ⟨#[]⟩, .string ⟨#[]⟩] 24] w1) := by rw [← hw1]; exact Boxes.one w _
        have HB1 : Hid (Below w.heap.size w w1) := by rw [← hw1]; exact (Below.refl _ w).alloc (Nat.le_refl _) _
        clear hw1
        refine (HCA.out _).mono ?_
        rintro e w2 ⟨rfl, hb⟩
        have HX2 := Lib.hid (HX1.out.below hb HX1.out.lt)
        have HB2 := Lib.hid (HB1.out.trans (hb.mono HB1.out.size))
        clear hb
        go_wp2_with fail
        refine (HCB.out _).mono ?_
        rintro e w3 ⟨rfl, hb⟩
        have HX3 := Lib.hid (HX2.out.below hb HX2.out.lt)
        have HB3 := Lib.hid (HB2.out.trans (hb.mono HB2.out.size))
        clear hb HX1 HX2 HB1 HB2
        go_wp2_with fail
        refine (rnumber_any a _ hza).mono ?_
        rintro e w4 ⟨rfl, rfl⟩
        rw [HVA.out]
        go_wp2_with fail
        refine (rnumber_any b _ hzb).mono ?_
        rintro e w4 ⟨rfl, rfl⟩
        rw [HVB.out]
        have r0 := HX3.out.cell 0 0 (b := w.heap.size) rfl rfl rfl
        have r1 := HX3.out.cell 0 1 (b := w.heap.size) rfl rfl rfl
        have f0 := HX3.out.free 0 0 (b := w.heap.size) rfl rfl
        have f1 := HX3.out.free 0 1 (b := w.heap.size) rfl rfl
        go_wp2
        have q := two_put_cells (HX3.out.block 0 (b := w.heap.size) rfl rfl) (.string ⟨#[]⟩) (.string ⟨#[]⟩)
        have HBQ := Lib.hid (two_put_below HB3.out (b := w.heap.size) (by omega) (.string ⟨#[]⟩) (.string ⟨#[]⟩))
        obtain ⟨w9, hw9⟩ : ∃ w9, (w3.setCell ⟨w.heap.size, 0, none⟩ (.string ⟨#[]⟩)).setCell ⟨w.heap.size, 1, none⟩ (.string ⟨#[]⟩) = w9 := ⟨_, rfl⟩
        rw [hw9] at q HBQ
        obtain ⟨q0, q1⟩ := q
        rw [hw9]
        clear r0 r1 f0 f1 hw9
        go_wp2
        refine bodyPost_ret (v := .tuple #[.agg #[.string ⟨#[]⟩, .string ⟨#[]⟩], .int .i64 5]) (by simp [results, Tryz.f54, go_sem, q0, q1]) rfl ⟨_, _, _, rfl, ?_, HBQ.out⟩
        exact HR.out _ _ _ HQ.out
      · obtain rfl : vb = false := by simpa using hv
        clear hv
        skip
        go_enter Tryz.func54, Tryz.ntmps54
        go_wp2_with fail
        obtain ⟨w1, hw1⟩ : ∃ w1, w.alloc (.cells #[.string ⟨#[]⟩, .string ⟨#[]⟩] 24) = w1 := ⟨_, rfl⟩
        rw [hw1]
        have HX1 : Hid (Boxes w.heap.size [.cells #[.string ⟨#[]⟩, .string ⟨#[]⟩] 24] w1) := by rw [← hw1]; exact Boxes.one w _
        have HB1 : Hid (Below w.heap.size w w1) := by rw [← hw1]; exact (Below.refl _ w).alloc (Nat.le_refl _) _
        clear hw1
        refine (HCA.out _).mono ?_
        rintro e w2 ⟨rfl, hb⟩
        have HX2 := Lib.hid (HX1.out.below hb HX1.out.lt)
        have HB2 := Lib.hid (HB1.out.trans (hb.mono HB1.out.size))
        clear hb
        go_wp2_with fail
        refine (HCB.out _).mono ?_
        rintro e w3 ⟨rfl, hb⟩
        have HX3 := Lib.hid (HX2.out.below hb HX2.out.lt)
        have HB3 := Lib.hid (HB2.out.trans (hb.mono HB2.out.size))
        clear hb HX1 HX2 HB1 HB2
        go_wp2_with fail
        refine (rnumber_any a _ hza).mono ?_
        rintro e w4 ⟨rfl, rfl⟩
        rw [HVA.out]
        go_wp2_with fail
        refine (rnumber_any b _ hzb).mono ?_
        rintro e w4 ⟨rfl, rfl⟩
        rw [HVB.out]
        have r0 := HX3.out.cell 0 0 (b := w.heap.size) rfl rfl rfl
        have r1 := HX3.out.cell 0 1 (b := w.heap.size) rfl rfl rfl
        have f0 := HX3.out.free 0 0 (b := w.heap.size) rfl rfl
        have f1 := HX3.out.free 0 1 (b := w.heap.size) rfl rfl
        go_wp2
        have q := two_put_cells (HX3.out.block 0 (b := w.heap.size) rfl rfl) (.string ⟨#[]⟩) (.string ⟨#[]⟩)
        have HBQ := Lib.hid (two_put_below HB3.out (b := w.heap.size) (by omega) (.string ⟨#[]⟩) (.string ⟨#[]⟩))
        obtain ⟨w9, hw9⟩ : ∃ w9, (w3.setCell ⟨w.heap.size, 0, none⟩ (.string ⟨#[]⟩)).setCell ⟨w.heap.size, 1, none⟩ (.string ⟨#[]⟩) = w9 := ⟨_, rfl⟩
        rw [hw9] at q HBQ
        obtain ⟨q0, q1⟩ := q
        rw [hw9]
        clear r0 r1 f0 f1 hw9
        go_wp2
        refine bodyPost_ret (v := .tuple #[.agg #[.string ⟨#[]⟩, .string ⟨#[]⟩], .int .i64 5]) (by simp [results, Tryz.f54, go_sem, q0, q1]) rfl ⟨_, _, _, rfl, ?_, HBQ.out⟩
        exact HR.out _ _ _ HQ.out
    have hv' : (va && vb) = true := by simpa using hv
    obtain ⟨rfl, rfl⟩ := Bool.and_eq_true_iff.1 hv'
    have HW : Hid ((wholeOk a.data.toList && wholeOk b.data.toList) = true) := by show _ = _; rw [HVA.out, HVB.out]; rfl
    clear hv hv'
    by_cases g1 : 600 < a.size
    · have g1' : (600 : Int) < a.size := by omega
      have HQ : Hid (ReadQ s.size a b c d true q (str []) (str []) 4) := rq_range HLO.out HW.out (.inl g1)
      clear g1
      skip
      go_enter Tryz.func54, Tryz.ntmps54
      go_wp2_with fail
      obtain ⟨w1, hw1⟩ : ∃ w1, w.alloc (.cells #[.string ⟨#[]⟩, .string ⟨#[]⟩] 24) = w1 := ⟨_, rfl⟩
      rw [hw1]
      have HX1 : Hid (Boxes w.heap.size [.cells #[.string ⟨#[]⟩, .string ⟨#[]⟩] 24] w1) := by rw [← hw1]; exact Boxes.one w _
      have HB1 : Hid (Below w.heap.size w w1) := by rw [← hw1]; exact (Below.refl _ w).alloc (Nat.le_refl _) _
      clear hw1
      refine (HCA.out _).mono ?_
      rintro e w2 ⟨rfl, hb⟩
      have HX2 := Lib.hid (HX1.out.below hb HX1.out.lt)
      have HB2 := Lib.hid (HB1.out.trans (hb.mono HB1.out.size))
      clear hb
      go_wp2_with fail
      refine (HCB.out _).mono ?_
      rintro e w3 ⟨rfl, hb⟩
      have HX3 := Lib.hid (HX2.out.below hb HX2.out.lt)
      have HB3 := Lib.hid (HB2.out.trans (hb.mono HB2.out.size))
      clear hb HX1 HX2 HB1 HB2
      go_wp2_with fail
      refine (rnumber_any a _ hza).mono ?_
      rintro e w4 ⟨rfl, rfl⟩
      rw [HVA.out]
      go_wp2_with fail
      refine (rnumber_any b _ hzb).mono ?_
      rintro e w4 ⟨rfl, rfl⟩
      rw [HVB.out]
      have r0 := HX3.out.cell 0 0 (b := w.heap.size) rfl rfl rfl
      have r1 := HX3.out.cell 0 1 (b := w.heap.size) rfl rfl rfl
      have f0 := HX3.out.free 0 0 (b := w.heap.size) rfl rfl
      have f1 := HX3.out.free 0 1 (b := w.heap.size) rfl rfl
      go_wp2
      have q := two_put_cells (HX3.out.block 0 (b := w.heap.size) rfl rfl) (.string ⟨#[]⟩) (.string ⟨#[]⟩)
      have HBQ := Lib.hid (two_put_below HB3.out (b := w.heap.size) (by omega) (.string ⟨#[]⟩) (.string ⟨#[]⟩))
      obtain ⟨w9, hw9⟩ : ∃ w9, (w3.setCell ⟨w.heap.size, 0, none⟩ (.string ⟨#[]⟩)).setCell ⟨w.heap.size, 1, none⟩ (.string ⟨#[]⟩) = w9 := ⟨_, rfl⟩
      rw [hw9] at q HBQ
      obtain ⟨q0, q1⟩ := q
      rw [hw9]
      clear r0 r1 f0 f1 hw9
      go_wp2
      refine bodyPost_ret (v := .tuple #[.agg #[.string ⟨#[]⟩, .string ⟨#[]⟩], .int .i64 4]) (by simp [results, Tryz.f54, go_sem, q0, q1]) rfl ⟨_, _, _, rfl, ?_, HBQ.out⟩
      exact HR.out _ _ _ HQ.out
    have g1' : ¬ (600 : Int) < a.size := by omega
    have g1d : decide ((600 : Int) < a.size) = false := decide_eq_false g1'
    by_cases g2 : 600 < b.size
    · have g2' : (600 : Int) < b.size := by omega
      have HQ : Hid (ReadQ s.size a b c d true q (str []) (str []) 4) := rq_range HLO.out HW.out (.inr g2)
      clear g1 g2
      skip
      go_enter Tryz.func54, Tryz.ntmps54
      go_wp2_with fail
      obtain ⟨w1, hw1⟩ : ∃ w1, w.alloc (.cells #[.string ⟨#[]⟩, .string ⟨#[]⟩] 24) = w1 := ⟨_, rfl⟩
      rw [hw1]
      have HX1 : Hid (Boxes w.heap.size [.cells #[.string ⟨#[]⟩, .string ⟨#[]⟩] 24] w1) := by rw [← hw1]; exact Boxes.one w _
      have HB1 : Hid (Below w.heap.size w w1) := by rw [← hw1]; exact (Below.refl _ w).alloc (Nat.le_refl _) _
      clear hw1
      refine (HCA.out _).mono ?_
      rintro e w2 ⟨rfl, hb⟩
      have HX2 := Lib.hid (HX1.out.below hb HX1.out.lt)
      have HB2 := Lib.hid (HB1.out.trans (hb.mono HB1.out.size))
      clear hb
      go_wp2_with fail
      refine (HCB.out _).mono ?_
      rintro e w3 ⟨rfl, hb⟩
      have HX3 := Lib.hid (HX2.out.below hb HX2.out.lt)
      have HB3 := Lib.hid (HB2.out.trans (hb.mono HB2.out.size))
      clear hb HX1 HX2 HB1 HB2
      go_wp2_with fail
      refine (rnumber_any a _ hza).mono ?_
      rintro e w4 ⟨rfl, rfl⟩
      rw [HVA.out]
      go_wp2_with fail
      refine (rnumber_any b _ hzb).mono ?_
      rintro e w4 ⟨rfl, rfl⟩
      rw [HVB.out]
      have r0 := HX3.out.cell 0 0 (b := w.heap.size) rfl rfl rfl
      have r1 := HX3.out.cell 0 1 (b := w.heap.size) rfl rfl rfl
      have f0 := HX3.out.free 0 0 (b := w.heap.size) rfl rfl
      have f1 := HX3.out.free 0 1 (b := w.heap.size) rfl rfl
      go_wp2
      have q := two_put_cells (HX3.out.block 0 (b := w.heap.size) rfl rfl) (.string ⟨#[]⟩) (.string ⟨#[]⟩)
      have HBQ := Lib.hid (two_put_below HB3.out (b := w.heap.size) (by omega) (.string ⟨#[]⟩) (.string ⟨#[]⟩))
      obtain ⟨w9, hw9⟩ : ∃ w9, (w3.setCell ⟨w.heap.size, 0, none⟩ (.string ⟨#[]⟩)).setCell ⟨w.heap.size, 1, none⟩ (.string ⟨#[]⟩) = w9 := ⟨_, rfl⟩
      rw [hw9] at q HBQ
      obtain ⟨q0, q1⟩ := q
      rw [hw9]
      clear r0 r1 f0 f1 hw9
      go_wp2
      refine bodyPost_ret (v := .tuple #[.agg #[.string ⟨#[]⟩, .string ⟨#[]⟩], .int .i64 4]) (by simp [results, Tryz.f54, go_sem, q0, q1]) rfl ⟨_, _, _, rfl, ?_, HBQ.out⟩
      exact HR.out _ _ _ HQ.out
    have g2' : ¬ (600 : Int) < b.size := by omega
    have g2d : decide ((600 : Int) < b.size) = false := decide_eq_false g2'
    have HQ : Hid (∀ x y e, Made a b x y e → ReadQ s.size a b c d true q x y e) := fun x y e h => rq_made HLO.out HW.out (by omega) h
    clear g1 g2
    skip
    go_enter Tryz.func54, Tryz.ntmps54
    go_wp2_with fail
    obtain ⟨w1, hw1⟩ : ∃ w1, w.alloc (.cells #[.string ⟨#[]⟩, .string ⟨#[]⟩] 24) = w1 := ⟨_, rfl⟩
    rw [hw1]
    have HX1 : Hid (Boxes w.heap.size [.cells #[.string ⟨#[]⟩, .string ⟨#[]⟩] 24] w1) := by rw [← hw1]; exact Boxes.one w _
    have HB1 : Hid (Below w.heap.size w w1) := by rw [← hw1]; exact (Below.refl _ w).alloc (Nat.le_refl _) _
    clear hw1
    refine (HCA.out _).mono ?_
    rintro e w2 ⟨rfl, hb⟩
    have HX2 := Lib.hid (HX1.out.below hb HX1.out.lt)
    have HB2 := Lib.hid (HB1.out.trans (hb.mono HB1.out.size))
    clear hb
    go_wp2_with fail
    refine (HCB.out _).mono ?_
    rintro e w3 ⟨rfl, hb⟩
    have HX3 := Lib.hid (HX2.out.below hb HX2.out.lt)
    have HB3 := Lib.hid (HB2.out.trans (hb.mono HB2.out.size))
    clear hb HX1 HX2 HB1 HB2
    go_wp2_with fail
    refine (rnumber_any a _ hza).mono ?_
    rintro e w4 ⟨rfl, rfl⟩
    rw [HVA.out]
    go_wp2_with fail
    refine (rnumber_any b _ hzb).mono ?_
    rintro e w4 ⟨rfl, rfl⟩
    rw [HVB.out]
    go_wp2_with fail
    refine (rmake_any a b _ hza hzb).mono ?_
    rintro e w6 ⟨x, y, n, rfl, hm, hb⟩
    have HM := Lib.hid hm
    have HX6 := Lib.hid (HX3.out.below hb HX3.out.lt)
    have HB6 := Lib.hid (HB3.out.trans (hb.mono HB3.out.size))
    clear hm hb
    have r0 := HX6.out.cell 0 0 (b := w.heap.size) rfl rfl rfl
    have r1 := HX6.out.cell 0 1 (b := w.heap.size) rfl rfl rfl
    have f0 := HX6.out.free 0 0 (b := w.heap.size) rfl rfl
    have f1 := HX6.out.free 0 1 (b := w.heap.size) rfl rfl
    go_wp2
    have q := two_put_cells (HX6.out.block 0 (b := w.heap.size) rfl rfl) (.string x) (.string y)
    have HBQ := Lib.hid (two_put_below HB6.out (b := w.heap.size) (by omega) (.string x) (.string y))
    obtain ⟨w9, hw9⟩ : ∃ w9, (w6.setCell ⟨w.heap.size, 0, none⟩ (.string x)).setCell ⟨w.heap.size, 1, none⟩ (.string y) = w9 := ⟨_, rfl⟩
    rw [hw9] at q HBQ
    obtain ⟨q0, q1⟩ := q
    rw [hw9]
    clear r0 r1 f0 f1 hw9
    go_wp2
    refine bodyPost_ret (v := .tuple #[.agg #[.string x, .string y], .int .i64 n]) (by simp [results, Tryz.f54, go_sem, q0, q1]) rfl ⟨_, _, _, rfl, ?_, HBQ.out⟩
    exact HR.out _ _ _ (HQ.out _ _ _ HM.out)
  · have HNN : Hid (q = false → d = ⟨#[]⟩) := hnone
    clear hnone
    cases q
    · cases vc
      · have HQ : Hid (ReadQ s.size a b c d false false (str []) (str []) 5) := rq_form2 HLO.out (by rw [HVC.out]; rfl)
        skip
        go_enter Tryz.func54, Tryz.ntmps54
        go_wp2_with fail
        obtain ⟨w1, hw1⟩ : ∃ w1, w.alloc (.cells #[.string ⟨#[]⟩, .string ⟨#[]⟩] 24) = w1 := ⟨_, rfl⟩
        rw [hw1]
        have HX1 : Hid (Boxes w.heap.size [.cells #[.string ⟨#[]⟩, .string ⟨#[]⟩] 24] w1) := by rw [← hw1]; exact Boxes.one w _
        have HB1 : Hid (Below w.heap.size w w1) := by rw [← hw1]; exact (Below.refl _ w).alloc (Nat.le_refl _) _
        clear hw1
        refine (HCA.out _).mono ?_
        rintro e w2 ⟨rfl, hb⟩
        have HX2 := Lib.hid (HX1.out.below hb HX1.out.lt)
        have HB2 := Lib.hid (HB1.out.trans (hb.mono HB1.out.size))
        clear hb
        go_wp2_with fail
        refine (HCB.out _).mono ?_
        rintro e w3 ⟨rfl, hb⟩
        have HX3 := Lib.hid (HX2.out.below hb HX2.out.lt)
        have HB3 := Lib.hid (HB2.out.trans (hb.mono HB2.out.size))
        clear hb HX1 HX2 HB1 HB2
        go_wp2_with fail
        refine (rnumber_any c _ hzc).mono ?_
        rintro e w4 ⟨rfl, rfl⟩
        rw [HVC.out]
        have r0 := HX3.out.cell 0 0 (b := w.heap.size) rfl rfl rfl
        have r1 := HX3.out.cell 0 1 (b := w.heap.size) rfl rfl rfl
        have f0 := HX3.out.free 0 0 (b := w.heap.size) rfl rfl
        have f1 := HX3.out.free 0 1 (b := w.heap.size) rfl rfl
        go_wp2
        have q := two_put_cells (HX3.out.block 0 (b := w.heap.size) rfl rfl) (.string ⟨#[]⟩) (.string ⟨#[]⟩)
        have HBQ := Lib.hid (two_put_below HB3.out (b := w.heap.size) (by omega) (.string ⟨#[]⟩) (.string ⟨#[]⟩))
        obtain ⟨w9, hw9⟩ : ∃ w9, (w3.setCell ⟨w.heap.size, 0, none⟩ (.string ⟨#[]⟩)).setCell ⟨w.heap.size, 1, none⟩ (.string ⟨#[]⟩) = w9 := ⟨_, rfl⟩
        rw [hw9] at q HBQ
        obtain ⟨q0, q1⟩ := q
        rw [hw9]
        clear r0 r1 f0 f1 hw9
        go_wp2
        refine bodyPost_ret (v := .tuple #[.agg #[.string ⟨#[]⟩, .string ⟨#[]⟩], .int .i64 5]) (by simp [results, Tryz.f54, go_sem, q0, q1]) rfl ⟨_, _, _, rfl, ?_, HBQ.out⟩
        exact HR.out _ _ _ HQ.out
      · skip
        have HW : Hid ((wholeOk c.data.toList && (!false || plainOk d.data.toList)) = true) := by show _ = _; rw [HVC.out, HVD.out]; simp
        have hdz := cut_digits HW.out HNN.out
        obtain ⟨z, hz⟩ : ∃ z, c ++ d = z := ⟨_, rfl⟩
        have hcd := HSZ.out
        have hzs : z.size ≤ 2600 := by rw [← hz, ByteArray.size_append]; omega
        rw [hz] at hdz
        obtain ⟨N, hN⟩ : ∃ N, decVal z.data.toList = N := ⟨_, rfl⟩
        have hlN := decVal_rlim hdz (j := 650) (by omega)
        rw [hN] at hlN
        have HZ : Hid (c ++ d = z ∧ z.size ≤ 1000000 ∧ (∀ x ∈ z.data.toList, isDig x = true) ∧ decVal z.data.toList = N ∧ (limbs 10000 N).length ≤ 1000000 ∧ (limbs 10000 N).length ≤ 100000 ∧ (limbs 10000 (10 ^ d.size)).length ≤ 100000) := ⟨hz, by omega, hdz, hN, by omega, by omega, Nat.le_trans (lim_pow10 hcd.2.2.2) (by decide)⟩
        clear hdz hz hzs hN hlN
        have hcd2 : ¬ 9223372036854775807 < c.size + d.size := by omega
        by_cases g : 600 < (Lib.decDigits N).length
        · have HQ : Hid (ReadQ s.size a b c d false false (str []) (str []) 4) := rq_range2 HLO.out HW.out (by rw [HZ.out.1, HZ.out.2.2.2.1]; exact g)
          skip
          go_enter Tryz.func54, Tryz.ntmps54
          go_wp2_with fail
          obtain ⟨w1, hw1⟩ : ∃ w1, w.alloc (.cells #[.string ⟨#[]⟩, .string ⟨#[]⟩] 24) = w1 := ⟨_, rfl⟩
          rw [hw1]
          have HX1 : Hid (Boxes w.heap.size [.cells #[.string ⟨#[]⟩, .string ⟨#[]⟩] 24] w1) := by rw [← hw1]; exact Boxes.one w _
          have HB1 : Hid (Below w.heap.size w w1) := by rw [← hw1]; exact (Below.refl _ w).alloc (Nat.le_refl _) _
          clear hw1
          refine (HCA.out _).mono ?_
          rintro e w2 ⟨rfl, hb⟩
          have HX2 := Lib.hid (HX1.out.below hb HX1.out.lt)
          have HB2 := Lib.hid (HB1.out.trans (hb.mono HB1.out.size))
          clear hb
          go_wp2_with fail
          refine (HCB.out _).mono ?_
          rintro e w3 ⟨rfl, hb⟩
          have HX3 := Lib.hid (HX2.out.below hb HX2.out.lt)
          have HB3 := Lib.hid (HB2.out.trans (hb.mono HB2.out.size))
          clear hb HX1 HX2 HB1 HB2
          go_wp2_with fail
          refine (rnumber_any c _ hzc).mono ?_
          rintro e w4 ⟨rfl, rfl⟩
          rw [HVC.out]
          skip
          go_wp2_with fail
          rw [HZ.out.1]
          refine (parts_any z HZ.out.2.1 HZ.out.2.2.1 _).mono ?_
          rintro e w4 ⟨vl, rfl, hv, hb⟩
          rw [HZ.out.2.2.2.1] at hv
          obtain ⟨pl, ml, cl, rfl⟩ := hv.form
          have HV4 := Lib.hid hv
          have HX4 := Lib.hid (HX3.out.below hb HX3.out.lt)
          have HB4 := Lib.hid (HB3.out.trans (hb.mono HB3.out.size))
          clear hv hb
          go_wp2_with fail
          refine (rdigits_any HV4.out HZ.out.2.2.2.2.1).mono ?_
          rintro e w5 ⟨rfl, hb⟩
          have HV5 := Lib.hid (HV4.out.after hb (Nat.le_refl _))
          have HX5 := Lib.hid (HX4.out.below hb HX4.out.lt)
          have HB5 := Lib.hid (HB4.out.trans (hb.mono HB4.out.size))
          clear hb
          obtain ⟨t, ht⟩ : ∃ t, str (Lib.decDigits N) = t := ⟨_, rfl⟩
          rw [ht]
          have hts : (t.size : Int) = (Lib.decDigits N).length := by rw [← ht, str_size]
          have g5 : (600 : Int) < t.size := by omega
          clear hts ht
          have r0 := HX5.out.cell 0 0 (b := w.heap.size) rfl rfl rfl
          have r1 := HX5.out.cell 0 1 (b := w.heap.size) rfl rfl rfl
          have f0 := HX5.out.free 0 0 (b := w.heap.size) rfl rfl
          have f1 := HX5.out.free 0 1 (b := w.heap.size) rfl rfl
          go_wp2
          have q := two_put_cells (HX5.out.block 0 (b := w.heap.size) rfl rfl) (.string ⟨#[]⟩) (.string ⟨#[]⟩)
          have HBQ := Lib.hid (two_put_below HB5.out (b := w.heap.size) (by omega) (.string ⟨#[]⟩) (.string ⟨#[]⟩))
          obtain ⟨w9, hw9⟩ : ∃ w9, (w5.setCell ⟨w.heap.size, 0, none⟩ (.string ⟨#[]⟩)).setCell ⟨w.heap.size, 1, none⟩ (.string ⟨#[]⟩) = w9 := ⟨_, rfl⟩
          rw [hw9] at q HBQ
          obtain ⟨q0, q1⟩ := q
          rw [hw9]
          clear r0 r1 f0 f1 hw9
          go_wp2
          refine bodyPost_ret (v := .tuple #[.agg #[.string ⟨#[]⟩, .string ⟨#[]⟩], .int .i64 4]) (by simp [results, Tryz.f54, go_sem, q0, q1]) rfl ⟨_, _, _, rfl, ?_, HBQ.out⟩
          exact HR.out _ _ _ HQ.out
        have HQ : Hid (∀ x y e, Ans (mkRat (N : Nat) (10 ^ d.size)) x y e → ReadQ s.size a b c d false false x y e) := fun x y e h => rq_ans HLO.out HW.out (by rw [HZ.out.1, HZ.out.2.2.2.1]; exact g) (by rw [HZ.out.1, HZ.out.2.2.2.1]; exact h)
        go_enter Tryz.func54, Tryz.ntmps54
        go_wp2_with fail
        obtain ⟨w1, hw1⟩ : ∃ w1, w.alloc (.cells #[.string ⟨#[]⟩, .string ⟨#[]⟩] 24) = w1 := ⟨_, rfl⟩
        rw [hw1]
        have HX1 : Hid (Boxes w.heap.size [.cells #[.string ⟨#[]⟩, .string ⟨#[]⟩] 24] w1) := by rw [← hw1]; exact Boxes.one w _
        have HB1 : Hid (Below w.heap.size w w1) := by rw [← hw1]; exact (Below.refl _ w).alloc (Nat.le_refl _) _
        clear hw1
        refine (HCA.out _).mono ?_
        rintro e w2 ⟨rfl, hb⟩
        have HX2 := Lib.hid (HX1.out.below hb HX1.out.lt)
        have HB2 := Lib.hid (HB1.out.trans (hb.mono HB1.out.size))
        clear hb
        go_wp2_with fail
        refine (HCB.out _).mono ?_
        rintro e w3 ⟨rfl, hb⟩
        have HX3 := Lib.hid (HX2.out.below hb HX2.out.lt)
        have HB3 := Lib.hid (HB2.out.trans (hb.mono HB2.out.size))
        clear hb HX1 HX2 HB1 HB2
        go_wp2_with fail
        refine (rnumber_any c _ hzc).mono ?_
        rintro e w4 ⟨rfl, rfl⟩
        rw [HVC.out]
        skip
        go_wp2_with fail
        rw [HZ.out.1]
        refine (parts_any z HZ.out.2.1 HZ.out.2.2.1 _).mono ?_
        rintro e w4 ⟨vl, rfl, hv, hb⟩
        rw [HZ.out.2.2.2.1] at hv
        obtain ⟨pl, ml, cl, rfl⟩ := hv.form
        have HV4 := Lib.hid hv
        have HX4 := Lib.hid (HX3.out.below hb HX3.out.lt)
        have HB4 := Lib.hid (HB3.out.trans (hb.mono HB3.out.size))
        clear hv hb
        go_wp2_with fail
        refine (rdigits_any HV4.out HZ.out.2.2.2.2.1).mono ?_
        rintro e w5 ⟨rfl, hb⟩
        have HV5 := Lib.hid (HV4.out.after hb (Nat.le_refl _))
        have HX5 := Lib.hid (HX4.out.below hb HX4.out.lt)
        have HB5 := Lib.hid (HB4.out.trans (hb.mono HB4.out.size))
        clear hb
        obtain ⟨t, ht⟩ : ∃ t, str (Lib.decDigits N) = t := ⟨_, rfl⟩
        rw [ht]
        have hts : (t.size : Int) = (Lib.decDigits N).length := by rw [← ht, str_size]
        have g5 : ¬ (600 : Int) < t.size := by omega
        clear hts ht
        go_wp2_with fail
        refine (rpower_any d.size (Nat.le_trans HSZ.out.2.2.2 (by decide)) _).mono ?_
        rintro e w6 ⟨vp, rfl, hv, hb⟩
        obtain ⟨pp, mp, cp, rfl⟩ := hv.form
        have HP6 := Lib.hid hv
        have HV6 := Lib.hid (HV5.out.after hb (Nat.le_refl _))
        have HX6 := Lib.hid (HX5.out.below hb HX5.out.lt)
        have HB6 := Lib.hid (HB5.out.trans (hb.mono HB5.out.size))
        clear hv hb
        go_wp2_with fail
        refine (made_any HV6.out HP6.out HZ.out.2.2.2.2.2.1 HZ.out.2.2.2.2.2.2 (Nat.pow_pos (by decide))).mono ?_
        rintro e w7 ⟨x, y, n, rfl, hm, hb⟩
        have HM := Lib.hid hm
        have HX7 := Lib.hid (HX6.out.below hb HX6.out.lt)
        have HB7 := Lib.hid (HB6.out.trans (hb.mono HB6.out.size))
        clear hm hb
        have r0 := HX7.out.cell 0 0 (b := w.heap.size) rfl rfl rfl
        have r1 := HX7.out.cell 0 1 (b := w.heap.size) rfl rfl rfl
        have f0 := HX7.out.free 0 0 (b := w.heap.size) rfl rfl
        have f1 := HX7.out.free 0 1 (b := w.heap.size) rfl rfl
        go_wp2
        have q := two_put_cells (HX7.out.block 0 (b := w.heap.size) rfl rfl) (.string x) (.string y)
        have HBQ := Lib.hid (two_put_below HB7.out (b := w.heap.size) (by omega) (.string x) (.string y))
        obtain ⟨w9, hw9⟩ : ∃ w9, (w7.setCell ⟨w.heap.size, 0, none⟩ (.string x)).setCell ⟨w.heap.size, 1, none⟩ (.string y) = w9 := ⟨_, rfl⟩
        rw [hw9] at q HBQ
        obtain ⟨q0, q1⟩ := q
        rw [hw9]
        clear r0 r1 f0 f1 hw9
        go_wp2
        refine bodyPost_ret (v := .tuple #[.agg #[.string x, .string y], .int .i64 n]) (by simp [results, Tryz.f54, go_sem, q0, q1]) rfl ⟨_, _, _, rfl, ?_, HBQ.out⟩
        exact HR.out _ _ _ (HQ.out _ _ _ HM.out)
    · cases vc
      · have HQ : Hid (ReadQ s.size a b c d false true (str []) (str []) 5) := rq_form2 HLO.out (by rw [HVC.out]; rfl)
        skip
        go_enter Tryz.func54, Tryz.ntmps54
        go_wp2_with fail
        obtain ⟨w1, hw1⟩ : ∃ w1, w.alloc (.cells #[.string ⟨#[]⟩, .string ⟨#[]⟩] 24) = w1 := ⟨_, rfl⟩
        rw [hw1]
        have HX1 : Hid (Boxes w.heap.size [.cells #[.string ⟨#[]⟩, .string ⟨#[]⟩] 24] w1) := by rw [← hw1]; exact Boxes.one w _
        have HB1 : Hid (Below w.heap.size w w1) := by rw [← hw1]; exact (Below.refl _ w).alloc (Nat.le_refl _) _
        clear hw1
        refine (HCA.out _).mono ?_
        rintro e w2 ⟨rfl, hb⟩
        have HX2 := Lib.hid (HX1.out.below hb HX1.out.lt)
        have HB2 := Lib.hid (HB1.out.trans (hb.mono HB1.out.size))
        clear hb
        go_wp2_with fail
        refine (HCB.out _).mono ?_
        rintro e w3 ⟨rfl, hb⟩
        have HX3 := Lib.hid (HX2.out.below hb HX2.out.lt)
        have HB3 := Lib.hid (HB2.out.trans (hb.mono HB2.out.size))
        clear hb HX1 HX2 HB1 HB2
        go_wp2_with fail
        refine (rnumber_any c _ hzc).mono ?_
        rintro e w4 ⟨rfl, rfl⟩
        rw [HVC.out]
        go_wp2_with fail
        refine (rall_any d _ hzd).mono ?_
        rintro e w4 ⟨rfl, rfl⟩
        rw [HVD.out]
        have r0 := HX3.out.cell 0 0 (b := w.heap.size) rfl rfl rfl
        have r1 := HX3.out.cell 0 1 (b := w.heap.size) rfl rfl rfl
        have f0 := HX3.out.free 0 0 (b := w.heap.size) rfl rfl
        have f1 := HX3.out.free 0 1 (b := w.heap.size) rfl rfl
        go_wp2
        have q := two_put_cells (HX3.out.block 0 (b := w.heap.size) rfl rfl) (.string ⟨#[]⟩) (.string ⟨#[]⟩)
        have HBQ := Lib.hid (two_put_below HB3.out (b := w.heap.size) (by omega) (.string ⟨#[]⟩) (.string ⟨#[]⟩))
        obtain ⟨w9, hw9⟩ : ∃ w9, (w3.setCell ⟨w.heap.size, 0, none⟩ (.string ⟨#[]⟩)).setCell ⟨w.heap.size, 1, none⟩ (.string ⟨#[]⟩) = w9 := ⟨_, rfl⟩
        rw [hw9] at q HBQ
        obtain ⟨q0, q1⟩ := q
        rw [hw9]
        clear r0 r1 f0 f1 hw9
        go_wp2
        refine bodyPost_ret (v := .tuple #[.agg #[.string ⟨#[]⟩, .string ⟨#[]⟩], .int .i64 5]) (by simp [results, Tryz.f54, go_sem, q0, q1]) rfl ⟨_, _, _, rfl, ?_, HBQ.out⟩
        exact HR.out _ _ _ HQ.out
      · cases vd
        · have HQ : Hid (ReadQ s.size a b c d false true (str []) (str []) 5) := rq_form2 HLO.out (by rw [HVC.out, HVD.out]; rfl)
          skip
          go_enter Tryz.func54, Tryz.ntmps54
          go_wp2_with fail
          obtain ⟨w1, hw1⟩ : ∃ w1, w.alloc (.cells #[.string ⟨#[]⟩, .string ⟨#[]⟩] 24) = w1 := ⟨_, rfl⟩
          rw [hw1]
          have HX1 : Hid (Boxes w.heap.size [.cells #[.string ⟨#[]⟩, .string ⟨#[]⟩] 24] w1) := by rw [← hw1]; exact Boxes.one w _
          have HB1 : Hid (Below w.heap.size w w1) := by rw [← hw1]; exact (Below.refl _ w).alloc (Nat.le_refl _) _
          clear hw1
          refine (HCA.out _).mono ?_
          rintro e w2 ⟨rfl, hb⟩
          have HX2 := Lib.hid (HX1.out.below hb HX1.out.lt)
          have HB2 := Lib.hid (HB1.out.trans (hb.mono HB1.out.size))
          clear hb
          go_wp2_with fail
          refine (HCB.out _).mono ?_
          rintro e w3 ⟨rfl, hb⟩
          have HX3 := Lib.hid (HX2.out.below hb HX2.out.lt)
          have HB3 := Lib.hid (HB2.out.trans (hb.mono HB2.out.size))
          clear hb HX1 HX2 HB1 HB2
          go_wp2_with fail
          refine (rnumber_any c _ hzc).mono ?_
          rintro e w4 ⟨rfl, rfl⟩
          rw [HVC.out]
          go_wp2_with fail
          refine (rall_any d _ hzd).mono ?_
          rintro e w4 ⟨rfl, rfl⟩
          rw [HVD.out]
          have r0 := HX3.out.cell 0 0 (b := w.heap.size) rfl rfl rfl
          have r1 := HX3.out.cell 0 1 (b := w.heap.size) rfl rfl rfl
          have f0 := HX3.out.free 0 0 (b := w.heap.size) rfl rfl
          have f1 := HX3.out.free 0 1 (b := w.heap.size) rfl rfl
          go_wp2
          have q := two_put_cells (HX3.out.block 0 (b := w.heap.size) rfl rfl) (.string ⟨#[]⟩) (.string ⟨#[]⟩)
          have HBQ := Lib.hid (two_put_below HB3.out (b := w.heap.size) (by omega) (.string ⟨#[]⟩) (.string ⟨#[]⟩))
          obtain ⟨w9, hw9⟩ : ∃ w9, (w3.setCell ⟨w.heap.size, 0, none⟩ (.string ⟨#[]⟩)).setCell ⟨w.heap.size, 1, none⟩ (.string ⟨#[]⟩) = w9 := ⟨_, rfl⟩
          rw [hw9] at q HBQ
          obtain ⟨q0, q1⟩ := q
          rw [hw9]
          clear r0 r1 f0 f1 hw9
          go_wp2
          refine bodyPost_ret (v := .tuple #[.agg #[.string ⟨#[]⟩, .string ⟨#[]⟩], .int .i64 5]) (by simp [results, Tryz.f54, go_sem, q0, q1]) rfl ⟨_, _, _, rfl, ?_, HBQ.out⟩
          exact HR.out _ _ _ HQ.out
        · skip
          have HW : Hid ((wholeOk c.data.toList && (!true || plainOk d.data.toList)) = true) := by show _ = _; rw [HVC.out, HVD.out]; simp
          have hdz := cut_digits HW.out HNN.out
          obtain ⟨z, hz⟩ : ∃ z, c ++ d = z := ⟨_, rfl⟩
          have hcd := HSZ.out
          have hzs : z.size ≤ 2600 := by rw [← hz, ByteArray.size_append]; omega
          rw [hz] at hdz
          obtain ⟨N, hN⟩ : ∃ N, decVal z.data.toList = N := ⟨_, rfl⟩
          have hlN := decVal_rlim hdz (j := 650) (by omega)
          rw [hN] at hlN
          have HZ : Hid (c ++ d = z ∧ z.size ≤ 1000000 ∧ (∀ x ∈ z.data.toList, isDig x = true) ∧ decVal z.data.toList = N ∧ (limbs 10000 N).length ≤ 1000000 ∧ (limbs 10000 N).length ≤ 100000 ∧ (limbs 10000 (10 ^ d.size)).length ≤ 100000) := ⟨hz, by omega, hdz, hN, by omega, by omega, Nat.le_trans (lim_pow10 hcd.2.2.2) (by decide)⟩
          clear hdz hz hzs hN hlN
          have hcd2 : ¬ 9223372036854775807 < c.size + d.size := by omega
          by_cases g : 600 < (Lib.decDigits N).length
          · have HQ : Hid (ReadQ s.size a b c d false true (str []) (str []) 4) := rq_range2 HLO.out HW.out (by rw [HZ.out.1, HZ.out.2.2.2.1]; exact g)
            skip
            go_enter Tryz.func54, Tryz.ntmps54
            go_wp2_with fail
            obtain ⟨w1, hw1⟩ : ∃ w1, w.alloc (.cells #[.string ⟨#[]⟩, .string ⟨#[]⟩] 24) = w1 := ⟨_, rfl⟩
            rw [hw1]
            have HX1 : Hid (Boxes w.heap.size [.cells #[.string ⟨#[]⟩, .string ⟨#[]⟩] 24] w1) := by rw [← hw1]; exact Boxes.one w _
            have HB1 : Hid (Below w.heap.size w w1) := by rw [← hw1]; exact (Below.refl _ w).alloc (Nat.le_refl _) _
            clear hw1
            refine (HCA.out _).mono ?_
            rintro e w2 ⟨rfl, hb⟩
            have HX2 := Lib.hid (HX1.out.below hb HX1.out.lt)
            have HB2 := Lib.hid (HB1.out.trans (hb.mono HB1.out.size))
            clear hb
            go_wp2_with fail
            refine (HCB.out _).mono ?_
            rintro e w3 ⟨rfl, hb⟩
            have HX3 := Lib.hid (HX2.out.below hb HX2.out.lt)
            have HB3 := Lib.hid (HB2.out.trans (hb.mono HB2.out.size))
            clear hb HX1 HX2 HB1 HB2
            go_wp2_with fail
            refine (rnumber_any c _ hzc).mono ?_
            rintro e w4 ⟨rfl, rfl⟩
            rw [HVC.out]
            go_wp2_with fail
            refine (rall_any d _ hzd).mono ?_
            rintro e w4 ⟨rfl, rfl⟩
            rw [HVD.out]
            go_wp2_with fail
            rw [HZ.out.1]
            refine (parts_any z HZ.out.2.1 HZ.out.2.2.1 _).mono ?_
            rintro e w4 ⟨vl, rfl, hv, hb⟩
            rw [HZ.out.2.2.2.1] at hv
            obtain ⟨pl, ml, cl, rfl⟩ := hv.form
            have HV4 := Lib.hid hv
            have HX4 := Lib.hid (HX3.out.below hb HX3.out.lt)
            have HB4 := Lib.hid (HB3.out.trans (hb.mono HB3.out.size))
            clear hv hb
            go_wp2_with fail
            refine (rdigits_any HV4.out HZ.out.2.2.2.2.1).mono ?_
            rintro e w5 ⟨rfl, hb⟩
            have HV5 := Lib.hid (HV4.out.after hb (Nat.le_refl _))
            have HX5 := Lib.hid (HX4.out.below hb HX4.out.lt)
            have HB5 := Lib.hid (HB4.out.trans (hb.mono HB4.out.size))
            clear hb
            obtain ⟨t, ht⟩ : ∃ t, str (Lib.decDigits N) = t := ⟨_, rfl⟩
            rw [ht]
            have hts : (t.size : Int) = (Lib.decDigits N).length := by rw [← ht, str_size]
            have g5 : (600 : Int) < t.size := by omega
            clear hts ht
            have r0 := HX5.out.cell 0 0 (b := w.heap.size) rfl rfl rfl
            have r1 := HX5.out.cell 0 1 (b := w.heap.size) rfl rfl rfl
            have f0 := HX5.out.free 0 0 (b := w.heap.size) rfl rfl
            have f1 := HX5.out.free 0 1 (b := w.heap.size) rfl rfl
            go_wp2
            have q := two_put_cells (HX5.out.block 0 (b := w.heap.size) rfl rfl) (.string ⟨#[]⟩) (.string ⟨#[]⟩)
            have HBQ := Lib.hid (two_put_below HB5.out (b := w.heap.size) (by omega) (.string ⟨#[]⟩) (.string ⟨#[]⟩))
            obtain ⟨w9, hw9⟩ : ∃ w9, (w5.setCell ⟨w.heap.size, 0, none⟩ (.string ⟨#[]⟩)).setCell ⟨w.heap.size, 1, none⟩ (.string ⟨#[]⟩) = w9 := ⟨_, rfl⟩
            rw [hw9] at q HBQ
            obtain ⟨q0, q1⟩ := q
            rw [hw9]
            clear r0 r1 f0 f1 hw9
            go_wp2
            refine bodyPost_ret (v := .tuple #[.agg #[.string ⟨#[]⟩, .string ⟨#[]⟩], .int .i64 4]) (by simp [results, Tryz.f54, go_sem, q0, q1]) rfl ⟨_, _, _, rfl, ?_, HBQ.out⟩
            exact HR.out _ _ _ HQ.out
          have HQ : Hid (∀ x y e, Ans (mkRat (N : Nat) (10 ^ d.size)) x y e → ReadQ s.size a b c d false true x y e) := fun x y e h => rq_ans HLO.out HW.out (by rw [HZ.out.1, HZ.out.2.2.2.1]; exact g) (by rw [HZ.out.1, HZ.out.2.2.2.1]; exact h)
          go_enter Tryz.func54, Tryz.ntmps54
          go_wp2_with fail
          obtain ⟨w1, hw1⟩ : ∃ w1, w.alloc (.cells #[.string ⟨#[]⟩, .string ⟨#[]⟩] 24) = w1 := ⟨_, rfl⟩
          rw [hw1]
          have HX1 : Hid (Boxes w.heap.size [.cells #[.string ⟨#[]⟩, .string ⟨#[]⟩] 24] w1) := by rw [← hw1]; exact Boxes.one w _
          have HB1 : Hid (Below w.heap.size w w1) := by rw [← hw1]; exact (Below.refl _ w).alloc (Nat.le_refl _) _
          clear hw1
          refine (HCA.out _).mono ?_
          rintro e w2 ⟨rfl, hb⟩
          have HX2 := Lib.hid (HX1.out.below hb HX1.out.lt)
          have HB2 := Lib.hid (HB1.out.trans (hb.mono HB1.out.size))
          clear hb
          go_wp2_with fail
          refine (HCB.out _).mono ?_
          rintro e w3 ⟨rfl, hb⟩
          have HX3 := Lib.hid (HX2.out.below hb HX2.out.lt)
          have HB3 := Lib.hid (HB2.out.trans (hb.mono HB2.out.size))
          clear hb HX1 HX2 HB1 HB2
          go_wp2_with fail
          refine (rnumber_any c _ hzc).mono ?_
          rintro e w4 ⟨rfl, rfl⟩
          rw [HVC.out]
          go_wp2_with fail
          refine (rall_any d _ hzd).mono ?_
          rintro e w4 ⟨rfl, rfl⟩
          rw [HVD.out]
          go_wp2_with fail
          rw [HZ.out.1]
          refine (parts_any z HZ.out.2.1 HZ.out.2.2.1 _).mono ?_
          rintro e w4 ⟨vl, rfl, hv, hb⟩
          rw [HZ.out.2.2.2.1] at hv
          obtain ⟨pl, ml, cl, rfl⟩ := hv.form
          have HV4 := Lib.hid hv
          have HX4 := Lib.hid (HX3.out.below hb HX3.out.lt)
          have HB4 := Lib.hid (HB3.out.trans (hb.mono HB3.out.size))
          clear hv hb
          go_wp2_with fail
          refine (rdigits_any HV4.out HZ.out.2.2.2.2.1).mono ?_
          rintro e w5 ⟨rfl, hb⟩
          have HV5 := Lib.hid (HV4.out.after hb (Nat.le_refl _))
          have HX5 := Lib.hid (HX4.out.below hb HX4.out.lt)
          have HB5 := Lib.hid (HB4.out.trans (hb.mono HB4.out.size))
          clear hb
          obtain ⟨t, ht⟩ : ∃ t, str (Lib.decDigits N) = t := ⟨_, rfl⟩
          rw [ht]
          have hts : (t.size : Int) = (Lib.decDigits N).length := by rw [← ht, str_size]
          have g5 : ¬ (600 : Int) < t.size := by omega
          clear hts ht
          go_wp2_with fail
          refine (rpower_any d.size (Nat.le_trans HSZ.out.2.2.2 (by decide)) _).mono ?_
          rintro e w6 ⟨vp, rfl, hv, hb⟩
          obtain ⟨pp, mp, cp, rfl⟩ := hv.form
          have HP6 := Lib.hid hv
          have HV6 := Lib.hid (HV5.out.after hb (Nat.le_refl _))
          have HX6 := Lib.hid (HX5.out.below hb HX5.out.lt)
          have HB6 := Lib.hid (HB5.out.trans (hb.mono HB5.out.size))
          clear hv hb
          go_wp2_with fail
          refine (made_any HV6.out HP6.out HZ.out.2.2.2.2.2.1 HZ.out.2.2.2.2.2.2 (Nat.pow_pos (by decide))).mono ?_
          rintro e w7 ⟨x, y, n, rfl, hm, hb⟩
          have HM := Lib.hid hm
          have HX7 := Lib.hid (HX6.out.below hb HX6.out.lt)
          have HB7 := Lib.hid (HB6.out.trans (hb.mono HB6.out.size))
          clear hm hb
          have r0 := HX7.out.cell 0 0 (b := w.heap.size) rfl rfl rfl
          have r1 := HX7.out.cell 0 1 (b := w.heap.size) rfl rfl rfl
          have f0 := HX7.out.free 0 0 (b := w.heap.size) rfl rfl
          have f1 := HX7.out.free 0 1 (b := w.heap.size) rfl rfl
          go_wp2
          have q := two_put_cells (HX7.out.block 0 (b := w.heap.size) rfl rfl) (.string x) (.string y)
          have HBQ := Lib.hid (two_put_below HB7.out (b := w.heap.size) (by omega) (.string x) (.string y))
          obtain ⟨w9, hw9⟩ : ∃ w9, (w7.setCell ⟨w.heap.size, 0, none⟩ (.string x)).setCell ⟨w.heap.size, 1, none⟩ (.string y) = w9 := ⟨_, rfl⟩
          rw [hw9] at q HBQ
          obtain ⟨q0, q1⟩ := q
          rw [hw9]
          clear r0 r1 f0 f1 hw9
          go_wp2
          refine bodyPost_ret (v := .tuple #[.agg #[.string x, .string y], .int .i64 n]) (by simp [results, Tryz.f54, go_sem, q0, q1]) rfl ⟨_, _, _, rfl, ?_, HBQ.out⟩
          exact HR.out _ _ _ (HQ.out _ _ _ HM.out)
end Go.Proofs.YthbpadjhlkdpeaaGreatDoor
/- weight's Read. -/
namespace Go.Proofs.YthbpadjhlkdpeaaGreatDoor
open Go.RowKit Go.Shelf



/-- The variable that the library's search reads. -/
def MaxV (w : World) : Prop := ∃ m, w.cell? ⟨3, 0, none⟩ = some (.int .i64 m)
theorem MaxV.below {w w' : World} {B : Nat} (h : MaxV w) (hb : Below B w w') (hB : w.heap.size ≤ B) : MaxV w' := by
  obtain ⟨m, h⟩ := h
  have hlt : 3 < w.heap.size := World.block_lt_of_cell? _ _ h
  exact ⟨m, (hb.cell (p := ⟨3, 0, none⟩) (by show 3 < B; omega)).trans h⟩
theorem index_one : ∀ (l : List UInt8) (c : UInt8), Lib.index l [c] = Lib.indexByte l c
  | [], _ => rfl
  | b :: l, c => by
    rw [Lib.index, Lib.indexByte, index_one l c]
    by_cases h : b = c
    · subst h; simp [List.isPrefixOf]
    · have h1 : ([c].isPrefixOf (b :: l)) = false := by
        simp only [List.isPrefixOf, Bool.and_true, beq_eq_false_iff_ne]
        exact fun e => h e.symm
      have h2 : (b == c) = false := by rw [beq_eq_false_iff_ne]; exact h
      rw [h1, h2]
theorem cut_one (l : List UInt8) (c : UInt8) : Lib.cut l [c] = cutB l c := by
  unfold Lib.cut cutB
  rw [index_one]; rfl
theorem wcut_any (s : ByteArray) (c : UInt8) (w : World) (hs : s.size ≤ 1000000) (hm : MaxV w) :
    Calls Tryz.prog 102 #[.string s, .string ⟨#[c]⟩] w fun e w' => e = .returned (.tuple #[.string (cutS s c).1, .string (cutS s c).2.1, .bool (cutS s c).2.2]) ∧ Below w.heap.size w w' := by
  obtain ⟨m, hm⟩ := hm
  refine (Tryz.strings_Cut s ⟨#[c]⟩ m w (by omega) hm).mono fun e w' ⟨he, n, hw⟩ => ⟨?_, ?_⟩
  · rw [he]
    show Ending.returned (.tuple #[.string ⟨(Lib.cut s.data.toList [c]).1.toArray⟩, .string ⟨(Lib.cut s.data.toList [c]).2.1.toArray⟩, .bool (Lib.cut s.data.toList [c]).2.2]) = _
    rw [cut_one]; rfl
  · rw [hw]
    have h := Below.refl w.heap.size w
    exact ⟨h.os, h.tape, h.output, h.size, h.block⟩

theorem lim_pow9 {k : Nat} (hk : k ≤ 1300) : (limbs 1000000000 (10 ^ k)).length ≤ 1301 := by
  refine Nat.le_trans (limbs_length_le (k := k + 1) (by omega) ?_) (by omega)
  rw [Nat.pow_succ]
  have h1 : (10 : Nat) ^ k ≤ 1000000000 ^ k := Nat.pow_le_pow_left (by omega) k
  have h2 : 0 < (1000000000 : Nat) ^ k := Nat.pow_pos (by omega)
  omega
set_option maxRecDepth 100000 in
set_option maxHeartbeats 8000000 in
theorem wread_any (s : ByteArray) (w : World) (hs : s.size ≤ 1000000) (hT : Tabs w) (hV : TensV w) (hM : MaxV w) : Calls Tryz.prog 53 #[.string s] w (PartPost (ReadR s) w) := by
  have HT := Lib.hid hT
  have HV := Lib.hid hV
  have HM := Lib.hid hM
  clear hT hV hM
  obtain ⟨a, b, p, h1⟩ : ∃ a b p, cutS s 47 = (a, b, p) := ⟨_, _, _, rfl⟩
  obtain ⟨c, d, q, h2⟩ : ∃ a b p, cutS s 46 = (a, b, p) := ⟨_, _, _, rfl⟩
  have hsz1 := cutS_size s 47
  have hsz2 := cutS_size s 46
  have hnone : q = false → d = ⟨#[]⟩ := fun h => by
    have := cutS_none (s := s) (c := 46) (by rw [h2]; exact h)
    rw [h2] at this; exact this
  rw [h1] at hsz1
  rw [h2] at hsz2
  dsimp only at hsz1 hsz2
  have HCA : Hid (∀ W, MaxV W → Calls Tryz.prog 102 #[.string s, .string ⟨#[47]⟩] W fun e w' => e = .returned (.tuple #[.string a, .string b, .bool p]) ∧ Below W.heap.size W w') := fun W hm => by
    have h := wcut_any s 47 W hs hm
    rw [h1] at h; exact h
  have HCB : Hid (∀ W, MaxV W → Calls Tryz.prog 102 #[.string s, .string ⟨#[46]⟩] W fun e w' => e = .returned (.tuple #[.string c, .string d, .bool q]) ∧ Below W.heap.size W w') := fun W hm => by
    have h := wcut_any s 46 W hs hm
    rw [h2] at h; exact h
  have HR : Hid (∀ x y e, ReadQ s.size a b c d p q x y e → ReadR s x y e) := fun x y e h => by unfold ReadR; rw [h1, h2]; exact h
  clear h1 h2
  by_cases hlong : 1300 < s.size
  · have hl' : (1300 : Int) < s.size := by omega
    have HQ : Hid (ReadQ s.size a b c d p q (str []) (str []) 3) := rq_long hlong
    have HB1 : Hid (Below w.heap.size w (w.alloc (.cells #[.string ⟨#[]⟩, .string ⟨#[]⟩] 24))) := (Below.refl _ w).alloc (Nat.le_refl _) _
    have c0 : (w.alloc (.cells #[.string ⟨#[]⟩, .string ⟨#[]⟩] 24)).cell? ⟨w.heap.size, 0, none⟩ = some (.string ⟨#[]⟩) := cell_new _ _ _ 0 rfl
    have c1 : (w.alloc (.cells #[.string ⟨#[]⟩, .string ⟨#[]⟩] 24)).cell? ⟨w.heap.size, 1, none⟩ = some (.string ⟨#[]⟩) := cell_new _ _ _ 1 rfl
    clear hlong hsz1 hsz2 hnone
    go_enter Tryz.func53, Tryz.ntmps53
    go_wp2
    refine bodyPost_ret (v := .tuple #[.agg #[.string ⟨#[]⟩, .string ⟨#[]⟩], .int .i64 3]) (by simp [results, Tryz.f53, go_sem, c0, c1]) rfl ⟨_, _, _, rfl, ?_, HB1.out⟩
    exact HR.out _ _ _ HQ.out
  have hl' : ¬ (1300 : Int) < s.size := by omega
  have hss : s.size ≤ 1300 := by omega
  have HSZ : Hid (a.size ≤ 1300 ∧ b.size ≤ 1300 ∧ c.size ≤ 1300 ∧ d.size ≤ 1300) := ⟨by omega, by omega, by omega, by omega⟩
  have hza : a.size ≤ 1000000 := by omega
  have hzb : b.size ≤ 1000000 := by omega
  have hzc : c.size ≤ 1000000 := by omega
  have hzd : d.size ≤ 1000000 := by omega
  have HLO := Lib.hid hlong
  clear hlong hsz1 hsz2 hss
  obtain ⟨va, hva⟩ : ∃ v, wholeOk a.data.toList = v := ⟨_, rfl⟩
  obtain ⟨vb, hvb⟩ : ∃ v, wholeOk b.data.toList = v := ⟨_, rfl⟩
  obtain ⟨vc, hvc⟩ : ∃ v, wholeOk c.data.toList = v := ⟨_, rfl⟩
  obtain ⟨vd, hvd⟩ : ∃ v, plainOk d.data.toList = v := ⟨_, rfl⟩
  have HVA := Lib.hid hva
  have HVB := Lib.hid hvb
  have HVC := Lib.hid hvc
  have HVD := Lib.hid hvd
  clear hva hvb hvc hvd
  cases p
  rotate_left
  · clear hnone
    cases va
    · have HQ : Hid (ReadQ s.size a b c d true q (str []) (str []) 5) := rq_form HLO.out (by rw [HVA.out]; rfl)
      skip
      go_enter Tryz.func53, Tryz.ntmps53
      go_wp2_with fail
      obtain ⟨w1, hw1⟩ : ∃ w1, w.alloc (.cells #[.string ⟨#[]⟩, .string ⟨#[]⟩] 24) = w1 := ⟨_, rfl⟩
      rw [hw1]
      have HX1 : Hid (Boxes w.heap.size [.cells #[.string ⟨#[]⟩, .string ⟨#[]⟩] 24] w1) := by rw [← hw1]; exact Boxes.one w _
      have HB1 : Hid (Below w.heap.size w w1) := by rw [← hw1]; exact (Below.refl _ w).alloc (Nat.le_refl _) _
      clear hw1
      refine (HCA.out _ (HM.out.below HB1.out (Nat.le_refl _))).mono ?_
      rintro e w2 ⟨rfl, hb⟩
      have HX2 := Lib.hid (HX1.out.below hb HX1.out.lt)
      have HB2 := Lib.hid (HB1.out.trans (hb.mono HB1.out.size))
      clear hb HX1 HB1
      go_wp2_with fail
      refine (whole_any a _ hza).mono ?_
      rintro e w3 ⟨rfl, hb⟩
      rw [HVA.out]
      have HX3 := Lib.hid (HX2.out.below hb HX2.out.lt)
      have HB3 := Lib.hid (HB2.out.trans (hb.mono HB2.out.size))
      clear hb HX2 HB2
      have r0 := HX3.out.cell 0 0 (b := w.heap.size) rfl rfl rfl
      have r1 := HX3.out.cell 0 1 (b := w.heap.size) rfl rfl rfl
      have f0 := HX3.out.free 0 0 (b := w.heap.size) rfl rfl
      have f1 := HX3.out.free 0 1 (b := w.heap.size) rfl rfl
      go_wp2
      have q := two_put_cells (HX3.out.block 0 (b := w.heap.size) rfl rfl) (.string ⟨#[]⟩) (.string ⟨#[]⟩)
      have HBQ := Lib.hid (two_put_below HB3.out (b := w.heap.size) (by omega) (.string ⟨#[]⟩) (.string ⟨#[]⟩))
      obtain ⟨w9, hw9⟩ : ∃ w9, (w3.setCell ⟨w.heap.size, 0, none⟩ (.string ⟨#[]⟩)).setCell ⟨w.heap.size, 1, none⟩ (.string ⟨#[]⟩) = w9 := ⟨_, rfl⟩
      rw [hw9] at q HBQ
      obtain ⟨q0, q1⟩ := q
      rw [hw9]
      clear r0 r1 f0 f1 hw9
      go_wp2
      refine bodyPost_ret (v := .tuple #[.agg #[.string ⟨#[]⟩, .string ⟨#[]⟩], .int .i64 5]) (by simp [results, Tryz.f53, go_sem, q0, q1]) rfl ⟨_, _, _, rfl, ?_, HBQ.out⟩
      exact HR.out _ _ _ HQ.out
    cases vb
    · have HQ : Hid (ReadQ s.size a b c d true q (str []) (str []) 5) := rq_form HLO.out (by rw [HVA.out, HVB.out]; rfl)
      skip
      go_enter Tryz.func53, Tryz.ntmps53
      go_wp2_with fail
      obtain ⟨w1, hw1⟩ : ∃ w1, w.alloc (.cells #[.string ⟨#[]⟩, .string ⟨#[]⟩] 24) = w1 := ⟨_, rfl⟩
      rw [hw1]
      have HX1 : Hid (Boxes w.heap.size [.cells #[.string ⟨#[]⟩, .string ⟨#[]⟩] 24] w1) := by rw [← hw1]; exact Boxes.one w _
      have HB1 : Hid (Below w.heap.size w w1) := by rw [← hw1]; exact (Below.refl _ w).alloc (Nat.le_refl _) _
      clear hw1
      refine (HCA.out _ (HM.out.below HB1.out (Nat.le_refl _))).mono ?_
      rintro e w2 ⟨rfl, hb⟩
      have HX2 := Lib.hid (HX1.out.below hb HX1.out.lt)
      have HB2 := Lib.hid (HB1.out.trans (hb.mono HB1.out.size))
      clear hb HX1 HB1
      go_wp2_with fail
      refine (whole_any a _ hza).mono ?_
      rintro e w3 ⟨rfl, hb⟩
      rw [HVA.out]
      have HX3 := Lib.hid (HX2.out.below hb HX2.out.lt)
      have HB3 := Lib.hid (HB2.out.trans (hb.mono HB2.out.size))
      clear hb HX2 HB2
      go_wp2_with fail
      refine (whole_any b _ hzb).mono ?_
      rintro e w4 ⟨rfl, hb⟩
      rw [HVB.out]
      have HX4 := Lib.hid (HX3.out.below hb HX3.out.lt)
      have HB4 := Lib.hid (HB3.out.trans (hb.mono HB3.out.size))
      clear hb HX3 HB3
      have r0 := HX4.out.cell 0 0 (b := w.heap.size) rfl rfl rfl
      have r1 := HX4.out.cell 0 1 (b := w.heap.size) rfl rfl rfl
      have f0 := HX4.out.free 0 0 (b := w.heap.size) rfl rfl
      have f1 := HX4.out.free 0 1 (b := w.heap.size) rfl rfl
      go_wp2
      have q := two_put_cells (HX4.out.block 0 (b := w.heap.size) rfl rfl) (.string ⟨#[]⟩) (.string ⟨#[]⟩)
      have HBQ := Lib.hid (two_put_below HB4.out (b := w.heap.size) (by omega) (.string ⟨#[]⟩) (.string ⟨#[]⟩))
      obtain ⟨w9, hw9⟩ : ∃ w9, (w4.setCell ⟨w.heap.size, 0, none⟩ (.string ⟨#[]⟩)).setCell ⟨w.heap.size, 1, none⟩ (.string ⟨#[]⟩) = w9 := ⟨_, rfl⟩
      rw [hw9] at q HBQ
      obtain ⟨q0, q1⟩ := q
      rw [hw9]
      clear r0 r1 f0 f1 hw9
      go_wp2
      refine bodyPost_ret (v := .tuple #[.agg #[.string ⟨#[]⟩, .string ⟨#[]⟩], .int .i64 5]) (by simp [results, Tryz.f53, go_sem, q0, q1]) rfl ⟨_, _, _, rfl, ?_, HBQ.out⟩
      exact HR.out _ _ _ HQ.out
    have HW : Hid ((wholeOk a.data.toList && wholeOk b.data.toList) = true) := by show _ = _; rw [HVA.out, HVB.out]; rfl
    by_cases g1 : 600 < a.size
    · have g1' : (600 : Int) < a.size := by omega
      have HQ : Hid (ReadQ s.size a b c d true q (str []) (str []) 4) := rq_range HLO.out HW.out (.inl g1)
      clear g1
      skip
      go_enter Tryz.func53, Tryz.ntmps53
      go_wp2_with fail
      obtain ⟨w1, hw1⟩ : ∃ w1, w.alloc (.cells #[.string ⟨#[]⟩, .string ⟨#[]⟩] 24) = w1 := ⟨_, rfl⟩
      rw [hw1]
      have HX1 : Hid (Boxes w.heap.size [.cells #[.string ⟨#[]⟩, .string ⟨#[]⟩] 24] w1) := by rw [← hw1]; exact Boxes.one w _
      have HB1 : Hid (Below w.heap.size w w1) := by rw [← hw1]; exact (Below.refl _ w).alloc (Nat.le_refl _) _
      clear hw1
      refine (HCA.out _ (HM.out.below HB1.out (Nat.le_refl _))).mono ?_
      rintro e w2 ⟨rfl, hb⟩
      have HX2 := Lib.hid (HX1.out.below hb HX1.out.lt)
      have HB2 := Lib.hid (HB1.out.trans (hb.mono HB1.out.size))
      clear hb HX1 HB1
      go_wp2_with fail
      refine (whole_any a _ hza).mono ?_
      rintro e w3 ⟨rfl, hb⟩
      rw [HVA.out]
      have HX3 := Lib.hid (HX2.out.below hb HX2.out.lt)
      have HB3 := Lib.hid (HB2.out.trans (hb.mono HB2.out.size))
      clear hb HX2 HB2
      go_wp2_with fail
      refine (whole_any b _ hzb).mono ?_
      rintro e w4 ⟨rfl, hb⟩
      rw [HVB.out]
      have HX4 := Lib.hid (HX3.out.below hb HX3.out.lt)
      have HB4 := Lib.hid (HB3.out.trans (hb.mono HB3.out.size))
      clear hb HX3 HB3
      have r0 := HX4.out.cell 0 0 (b := w.heap.size) rfl rfl rfl
      have r1 := HX4.out.cell 0 1 (b := w.heap.size) rfl rfl rfl
      have f0 := HX4.out.free 0 0 (b := w.heap.size) rfl rfl
      have f1 := HX4.out.free 0 1 (b := w.heap.size) rfl rfl
      go_wp2
      have q := two_put_cells (HX4.out.block 0 (b := w.heap.size) rfl rfl) (.string ⟨#[]⟩) (.string ⟨#[]⟩)
      have HBQ := Lib.hid (two_put_below HB4.out (b := w.heap.size) (by omega) (.string ⟨#[]⟩) (.string ⟨#[]⟩))
      obtain ⟨w9, hw9⟩ : ∃ w9, (w4.setCell ⟨w.heap.size, 0, none⟩ (.string ⟨#[]⟩)).setCell ⟨w.heap.size, 1, none⟩ (.string ⟨#[]⟩) = w9 := ⟨_, rfl⟩
      rw [hw9] at q HBQ
      obtain ⟨q0, q1⟩ := q
      rw [hw9]
      clear r0 r1 f0 f1 hw9
      go_wp2
      refine bodyPost_ret (v := .tuple #[.agg #[.string ⟨#[]⟩, .string ⟨#[]⟩], .int .i64 4]) (by simp [results, Tryz.f53, go_sem, q0, q1]) rfl ⟨_, _, _, rfl, ?_, HBQ.out⟩
      exact HR.out _ _ _ HQ.out
    have g1' : ¬ (600 : Int) < a.size := by omega
    have g1d : decide ((600 : Int) < a.size) = false := decide_eq_false g1'
    by_cases g2 : 600 < b.size
    · have g2' : (600 : Int) < b.size := by omega
      have HQ : Hid (ReadQ s.size a b c d true q (str []) (str []) 4) := rq_range HLO.out HW.out (.inr g2)
      clear g1 g2
      skip
      go_enter Tryz.func53, Tryz.ntmps53
      go_wp2_with fail
      obtain ⟨w1, hw1⟩ : ∃ w1, w.alloc (.cells #[.string ⟨#[]⟩, .string ⟨#[]⟩] 24) = w1 := ⟨_, rfl⟩
      rw [hw1]
      have HX1 : Hid (Boxes w.heap.size [.cells #[.string ⟨#[]⟩, .string ⟨#[]⟩] 24] w1) := by rw [← hw1]; exact Boxes.one w _
      have HB1 : Hid (Below w.heap.size w w1) := by rw [← hw1]; exact (Below.refl _ w).alloc (Nat.le_refl _) _
      clear hw1
      refine (HCA.out _ (HM.out.below HB1.out (Nat.le_refl _))).mono ?_
      rintro e w2 ⟨rfl, hb⟩
      have HX2 := Lib.hid (HX1.out.below hb HX1.out.lt)
      have HB2 := Lib.hid (HB1.out.trans (hb.mono HB1.out.size))
      clear hb HX1 HB1
      go_wp2_with fail
      refine (whole_any a _ hza).mono ?_
      rintro e w3 ⟨rfl, hb⟩
      rw [HVA.out]
      have HX3 := Lib.hid (HX2.out.below hb HX2.out.lt)
      have HB3 := Lib.hid (HB2.out.trans (hb.mono HB2.out.size))
      clear hb HX2 HB2
      go_wp2_with fail
      refine (whole_any b _ hzb).mono ?_
      rintro e w4 ⟨rfl, hb⟩
      rw [HVB.out]
      have HX4 := Lib.hid (HX3.out.below hb HX3.out.lt)
      have HB4 := Lib.hid (HB3.out.trans (hb.mono HB3.out.size))
      clear hb HX3 HB3
      have r0 := HX4.out.cell 0 0 (b := w.heap.size) rfl rfl rfl
      have r1 := HX4.out.cell 0 1 (b := w.heap.size) rfl rfl rfl
      have f0 := HX4.out.free 0 0 (b := w.heap.size) rfl rfl
      have f1 := HX4.out.free 0 1 (b := w.heap.size) rfl rfl
      go_wp2
      have q := two_put_cells (HX4.out.block 0 (b := w.heap.size) rfl rfl) (.string ⟨#[]⟩) (.string ⟨#[]⟩)
      have HBQ := Lib.hid (two_put_below HB4.out (b := w.heap.size) (by omega) (.string ⟨#[]⟩) (.string ⟨#[]⟩))
      obtain ⟨w9, hw9⟩ : ∃ w9, (w4.setCell ⟨w.heap.size, 0, none⟩ (.string ⟨#[]⟩)).setCell ⟨w.heap.size, 1, none⟩ (.string ⟨#[]⟩) = w9 := ⟨_, rfl⟩
      rw [hw9] at q HBQ
      obtain ⟨q0, q1⟩ := q
      rw [hw9]
      clear r0 r1 f0 f1 hw9
      go_wp2
      refine bodyPost_ret (v := .tuple #[.agg #[.string ⟨#[]⟩, .string ⟨#[]⟩], .int .i64 4]) (by simp [results, Tryz.f53, go_sem, q0, q1]) rfl ⟨_, _, _, rfl, ?_, HBQ.out⟩
      exact HR.out _ _ _ HQ.out
    have g2' : ¬ (600 : Int) < b.size := by omega
    have g2d : decide ((600 : Int) < b.size) = false := decide_eq_false g2'
    have HQ : Hid (∀ x y e, Made a b x y e → ReadQ s.size a b c d true q x y e) := fun x y e h => rq_made HLO.out HW.out (by omega) h
    clear g1 g2
    skip
    go_enter Tryz.func53, Tryz.ntmps53
    go_wp2_with fail
    obtain ⟨w1, hw1⟩ : ∃ w1, w.alloc (.cells #[.string ⟨#[]⟩, .string ⟨#[]⟩] 24) = w1 := ⟨_, rfl⟩
    rw [hw1]
    have HX1 : Hid (Boxes w.heap.size [.cells #[.string ⟨#[]⟩, .string ⟨#[]⟩] 24] w1) := by rw [← hw1]; exact Boxes.one w _
    have HB1 : Hid (Below w.heap.size w w1) := by rw [← hw1]; exact (Below.refl _ w).alloc (Nat.le_refl _) _
    clear hw1
    refine (HCA.out _ (HM.out.below HB1.out (Nat.le_refl _))).mono ?_
    rintro e w2 ⟨rfl, hb⟩
    have HX2 := Lib.hid (HX1.out.below hb HX1.out.lt)
    have HB2 := Lib.hid (HB1.out.trans (hb.mono HB1.out.size))
    clear hb HX1 HB1
    go_wp2_with fail
    refine (whole_any a _ hza).mono ?_
    rintro e w3 ⟨rfl, hb⟩
    rw [HVA.out]
    have HX3 := Lib.hid (HX2.out.below hb HX2.out.lt)
    have HB3 := Lib.hid (HB2.out.trans (hb.mono HB2.out.size))
    clear hb HX2 HB2
    go_wp2_with fail
    refine (whole_any b _ hzb).mono ?_
    rintro e w4 ⟨rfl, hb⟩
    rw [HVB.out]
    have HX4 := Lib.hid (HX3.out.below hb HX3.out.lt)
    have HB4 := Lib.hid (HB3.out.trans (hb.mono HB3.out.size))
    clear hb HX3 HB3
    go_wp2_with fail
    refine (make_any a b _ hza hzb (HT.out.below HB4.out (Nat.le_refl _))).mono ?_
    rintro e w6 ⟨x, y, n, rfl, hm, hb⟩
    have HMM := Lib.hid hm
    have HX6 := Lib.hid (HX4.out.below hb HX4.out.lt)
    have HB6 := Lib.hid (HB4.out.trans (hb.mono HB4.out.size))
    clear hm hb
    have r0 := HX6.out.cell 0 0 (b := w.heap.size) rfl rfl rfl
    have r1 := HX6.out.cell 0 1 (b := w.heap.size) rfl rfl rfl
    have f0 := HX6.out.free 0 0 (b := w.heap.size) rfl rfl
    have f1 := HX6.out.free 0 1 (b := w.heap.size) rfl rfl
    go_wp2
    have q := two_put_cells (HX6.out.block 0 (b := w.heap.size) rfl rfl) (.string x) (.string y)
    have HBQ := Lib.hid (two_put_below HB6.out (b := w.heap.size) (by omega) (.string x) (.string y))
    obtain ⟨w9, hw9⟩ : ∃ w9, (w6.setCell ⟨w.heap.size, 0, none⟩ (.string x)).setCell ⟨w.heap.size, 1, none⟩ (.string y) = w9 := ⟨_, rfl⟩
    rw [hw9] at q HBQ
    obtain ⟨q0, q1⟩ := q
    rw [hw9]
    clear r0 r1 f0 f1 hw9
    go_wp2
    refine bodyPost_ret (v := .tuple #[.agg #[.string x, .string y], .int .i64 n]) (by simp [results, Tryz.f53, go_sem, q0, q1]) rfl ⟨_, _, _, rfl, ?_, HBQ.out⟩
    exact HR.out _ _ _ (HQ.out _ _ _ HMM.out)
  · have HNN : Hid (q = false → d = ⟨#[]⟩) := hnone
    clear hnone
    cases q
    · cases vc
      · have HQ : Hid (ReadQ s.size a b c d false false (str []) (str []) 5) := rq_form2 HLO.out (by rw [HVC.out]; rfl)
        skip
        go_enter Tryz.func53, Tryz.ntmps53
        go_wp2_with fail
        obtain ⟨w1, hw1⟩ : ∃ w1, w.alloc (.cells #[.string ⟨#[]⟩, .string ⟨#[]⟩] 24) = w1 := ⟨_, rfl⟩
        rw [hw1]
        have HX1 : Hid (Boxes w.heap.size [.cells #[.string ⟨#[]⟩, .string ⟨#[]⟩] 24] w1) := by rw [← hw1]; exact Boxes.one w _
        have HB1 : Hid (Below w.heap.size w w1) := by rw [← hw1]; exact (Below.refl _ w).alloc (Nat.le_refl _) _
        clear hw1
        refine (HCA.out _ (HM.out.below HB1.out (Nat.le_refl _))).mono ?_
        rintro e w2 ⟨rfl, hb⟩
        have HX2 := Lib.hid (HX1.out.below hb HX1.out.lt)
        have HB2 := Lib.hid (HB1.out.trans (hb.mono HB1.out.size))
        clear hb HX1 HB1
        go_wp2_with fail
        refine (HCB.out _ (HM.out.below HB2.out (Nat.le_refl _))).mono ?_
        rintro e w3 ⟨rfl, hb⟩
        have HX3 := Lib.hid (HX2.out.below hb HX2.out.lt)
        have HB3 := Lib.hid (HB2.out.trans (hb.mono HB2.out.size))
        clear hb HX2 HB2
        go_wp2_with fail
        refine (whole_any c _ hzc).mono ?_
        rintro e w4 ⟨rfl, hb⟩
        rw [HVC.out]
        have HX4 := Lib.hid (HX3.out.below hb HX3.out.lt)
        have HB4 := Lib.hid (HB3.out.trans (hb.mono HB3.out.size))
        clear hb HX3 HB3
        have r0 := HX4.out.cell 0 0 (b := w.heap.size) rfl rfl rfl
        have r1 := HX4.out.cell 0 1 (b := w.heap.size) rfl rfl rfl
        have f0 := HX4.out.free 0 0 (b := w.heap.size) rfl rfl
        have f1 := HX4.out.free 0 1 (b := w.heap.size) rfl rfl
        go_wp2
        have q := two_put_cells (HX4.out.block 0 (b := w.heap.size) rfl rfl) (.string ⟨#[]⟩) (.string ⟨#[]⟩)
        have HBQ := Lib.hid (two_put_below HB4.out (b := w.heap.size) (by omega) (.string ⟨#[]⟩) (.string ⟨#[]⟩))
        obtain ⟨w9, hw9⟩ : ∃ w9, (w4.setCell ⟨w.heap.size, 0, none⟩ (.string ⟨#[]⟩)).setCell ⟨w.heap.size, 1, none⟩ (.string ⟨#[]⟩) = w9 := ⟨_, rfl⟩
        rw [hw9] at q HBQ
        obtain ⟨q0, q1⟩ := q
        rw [hw9]
        clear r0 r1 f0 f1 hw9
        go_wp2
        refine bodyPost_ret (v := .tuple #[.agg #[.string ⟨#[]⟩, .string ⟨#[]⟩], .int .i64 5]) (by simp [results, Tryz.f53, go_sem, q0, q1]) rfl ⟨_, _, _, rfl, ?_, HBQ.out⟩
        exact HR.out _ _ _ HQ.out
      · skip
        have HW : Hid ((wholeOk c.data.toList && (!false || plainOk d.data.toList)) = true) := by show _ = _; rw [HVC.out, HVD.out]; simp
        have hdz := cut_digits HW.out HNN.out
        obtain ⟨z, hz⟩ : ∃ z, c ++ d = z := ⟨_, rfl⟩
        have hcd := HSZ.out
        have hzs : z.size ≤ 2600 := by rw [← hz, ByteArray.size_append]; omega
        rw [hz] at hdz
        obtain ⟨N, hN⟩ : ∃ N, decVal z.data.toList = N := ⟨_, rfl⟩
        have hlN := decVal_lim hdz (j := 300) (by omega)
        rw [hN] at hlN
        have HZ : Hid (c ++ d = z ∧ z.size ≤ 1000000 ∧ (∀ x ∈ z.data.toList, isDig x = true) ∧ decVal z.data.toList = N ∧ (limbs 1000000000 N).length ≤ 100000 ∧ (limbs 1000000000 (10 ^ d.size)).length ≤ 100000) := ⟨hz, by omega, hdz, hN, by omega, Nat.le_trans (lim_pow9 hcd.2.2.2) (by decide)⟩
        clear hdz hz hzs hN hlN
        have hcd2 : ¬ 9223372036854775807 < c.size + d.size := by omega
        by_cases g : 600 < (Lib.decDigits N).length
        · have HQ : Hid (ReadQ s.size a b c d false false (str []) (str []) 4) := rq_range2 HLO.out HW.out (by rw [HZ.out.1, HZ.out.2.2.2.1]; exact g)
          have g5 : (600 : Int) < (Lib.decDigits N).length := by omega
          obtain ⟨L, hL⟩ : ∃ L, (Lib.decDigits N).length = L := ⟨_, rfl⟩
          rw [hL] at g5
          have HLL := Lib.hid hL
          clear g hL
          skip
          go_enter Tryz.func53, Tryz.ntmps53
          go_wp2_with fail
          obtain ⟨w1, hw1⟩ : ∃ w1, w.alloc (.cells #[.string ⟨#[]⟩, .string ⟨#[]⟩] 24) = w1 := ⟨_, rfl⟩
          rw [hw1]
          have HX1 : Hid (Boxes w.heap.size [.cells #[.string ⟨#[]⟩, .string ⟨#[]⟩] 24] w1) := by rw [← hw1]; exact Boxes.one w _
          have HB1 : Hid (Below w.heap.size w w1) := by rw [← hw1]; exact (Below.refl _ w).alloc (Nat.le_refl _) _
          clear hw1
          refine (HCA.out _ (HM.out.below HB1.out (Nat.le_refl _))).mono ?_
          rintro e w2 ⟨rfl, hb⟩
          have HX2 := Lib.hid (HX1.out.below hb HX1.out.lt)
          have HB2 := Lib.hid (HB1.out.trans (hb.mono HB1.out.size))
          clear hb HX1 HB1
          go_wp2_with fail
          refine (HCB.out _ (HM.out.below HB2.out (Nat.le_refl _))).mono ?_
          rintro e w3 ⟨rfl, hb⟩
          have HX3 := Lib.hid (HX2.out.below hb HX2.out.lt)
          have HB3 := Lib.hid (HB2.out.trans (hb.mono HB2.out.size))
          clear hb HX2 HB2
          go_wp2_with fail
          refine (whole_any c _ hzc).mono ?_
          rintro e w4 ⟨rfl, hb⟩
          rw [HVC.out]
          have HX4 := Lib.hid (HX3.out.below hb HX3.out.lt)
          have HB4 := Lib.hid (HB3.out.trans (hb.mono HB3.out.size))
          clear hb HX3 HB3
          skip
          go_wp2_with fail
          rw [HZ.out.1]
          refine (of_any z HZ.out.2.1 HZ.out.2.2.1 _).mono ?_
          rintro e w6 ⟨vl, rfl, hv, hb⟩
          rw [HZ.out.2.2.2.1] at hv
          obtain ⟨pl, ml, cl, rfl⟩ := hv.form2
          have HV6 := Lib.hid hv
          have HX6 := Lib.hid (HX4.out.below hb HX4.out.lt)
          have HB6 := Lib.hid (HB4.out.trans (hb.mono HB4.out.size))
          clear hv hb
          go_wp2_with fail
          refine (digits_any HV6.out HZ.out.2.2.2.2.1 (HT.out.below HB6.out (Nat.le_refl _))).mono ?_
          rintro e w7 ⟨rfl, hb⟩
          have HV7 := Lib.hid (HV6.out.after hb (Nat.le_refl _))
          have HX7 := Lib.hid (HX6.out.below hb HX6.out.lt)
          have HB7 := Lib.hid (HB6.out.trans (hb.mono HB6.out.size))
          clear hb
          rw [HLL.out]
          have r0 := HX7.out.cell 0 0 (b := w.heap.size) rfl rfl rfl
          have r1 := HX7.out.cell 0 1 (b := w.heap.size) rfl rfl rfl
          have f0 := HX7.out.free 0 0 (b := w.heap.size) rfl rfl
          have f1 := HX7.out.free 0 1 (b := w.heap.size) rfl rfl
          go_wp2
          have q := two_put_cells (HX7.out.block 0 (b := w.heap.size) rfl rfl) (.string ⟨#[]⟩) (.string ⟨#[]⟩)
          have HBQ := Lib.hid (two_put_below HB7.out (b := w.heap.size) (by omega) (.string ⟨#[]⟩) (.string ⟨#[]⟩))
          obtain ⟨w9, hw9⟩ : ∃ w9, (w7.setCell ⟨w.heap.size, 0, none⟩ (.string ⟨#[]⟩)).setCell ⟨w.heap.size, 1, none⟩ (.string ⟨#[]⟩) = w9 := ⟨_, rfl⟩
          rw [hw9] at q HBQ
          obtain ⟨q0, q1⟩ := q
          rw [hw9]
          clear r0 r1 f0 f1 hw9
          go_wp2
          refine bodyPost_ret (v := .tuple #[.agg #[.string ⟨#[]⟩, .string ⟨#[]⟩], .int .i64 4]) (by simp [results, Tryz.f53, go_sem, q0, q1]) rfl ⟨_, _, _, rfl, ?_, HBQ.out⟩
          exact HR.out _ _ _ HQ.out
        have HQ : Hid (∀ x y e, Ans (mkRat (N : Nat) (10 ^ d.size)) x y e → ReadQ s.size a b c d false false x y e) := fun x y e h => rq_ans HLO.out HW.out (by rw [HZ.out.1, HZ.out.2.2.2.1]; exact g) (by rw [HZ.out.1, HZ.out.2.2.2.1]; exact h)
        have g5 : ¬ (600 : Int) < (Lib.decDigits N).length := by omega
        obtain ⟨L, hL⟩ : ∃ L, (Lib.decDigits N).length = L := ⟨_, rfl⟩
        rw [hL] at g5
        have HLL := Lib.hid hL
        clear g hL
        go_enter Tryz.func53, Tryz.ntmps53
        go_wp2_with fail
        obtain ⟨w1, hw1⟩ : ∃ w1, w.alloc (.cells #[.string ⟨#[]⟩, .string ⟨#[]⟩] 24) = w1 := ⟨_, rfl⟩
        rw [hw1]
        have HX1 : Hid (Boxes w.heap.size [.cells #[.string ⟨#[]⟩, .string ⟨#[]⟩] 24] w1) := by rw [← hw1]; exact Boxes.one w _
        have HB1 : Hid (Below w.heap.size w w1) := by rw [← hw1]; exact (Below.refl _ w).alloc (Nat.le_refl _) _
        clear hw1
        refine (HCA.out _ (HM.out.below HB1.out (Nat.le_refl _))).mono ?_
        rintro e w2 ⟨rfl, hb⟩
        have HX2 := Lib.hid (HX1.out.below hb HX1.out.lt)
        have HB2 := Lib.hid (HB1.out.trans (hb.mono HB1.out.size))
        clear hb HX1 HB1
        go_wp2_with fail
        refine (HCB.out _ (HM.out.below HB2.out (Nat.le_refl _))).mono ?_
        rintro e w3 ⟨rfl, hb⟩
        have HX3 := Lib.hid (HX2.out.below hb HX2.out.lt)
        have HB3 := Lib.hid (HB2.out.trans (hb.mono HB2.out.size))
        clear hb HX2 HB2
        go_wp2_with fail
        refine (whole_any c _ hzc).mono ?_
        rintro e w4 ⟨rfl, hb⟩
        rw [HVC.out]
        have HX4 := Lib.hid (HX3.out.below hb HX3.out.lt)
        have HB4 := Lib.hid (HB3.out.trans (hb.mono HB3.out.size))
        clear hb HX3 HB3
        skip
        go_wp2_with fail
        rw [HZ.out.1]
        refine (of_any z HZ.out.2.1 HZ.out.2.2.1 _).mono ?_
        rintro e w6 ⟨vl, rfl, hv, hb⟩
        rw [HZ.out.2.2.2.1] at hv
        obtain ⟨pl, ml, cl, rfl⟩ := hv.form2
        have HV6 := Lib.hid hv
        have HX6 := Lib.hid (HX4.out.below hb HX4.out.lt)
        have HB6 := Lib.hid (HB4.out.trans (hb.mono HB4.out.size))
        clear hv hb
        go_wp2_with fail
        refine (digits_any HV6.out HZ.out.2.2.2.2.1 (HT.out.below HB6.out (Nat.le_refl _))).mono ?_
        rintro e w7 ⟨rfl, hb⟩
        have HV7 := Lib.hid (HV6.out.after hb (Nat.le_refl _))
        have HX7 := Lib.hid (HX6.out.below hb HX6.out.lt)
        have HB7 := Lib.hid (HB6.out.trans (hb.mono HB6.out.size))
        clear hb
        rw [HLL.out]
        go_wp2_with fail
        refine (power_any d.size (Nat.le_trans HSZ.out.2.2.2 (by decide)) _ (HV.out.below HB7.out (Nat.le_refl _))).mono ?_
        rintro e w8 ⟨vp, rfl, hv, hb⟩
        obtain ⟨pp, mp, cp, rfl⟩ := hv.form2
        have HP8 := Lib.hid hv
        have HV8 := Lib.hid (HV7.out.after hb (Nat.le_refl _))
        have HX8 := Lib.hid (HX7.out.below hb HX7.out.lt)
        have HB8 := Lib.hid (HB7.out.trans (hb.mono HB7.out.size))
        clear hv hb
        go_wp2_with fail
        refine (part_any HV8.out HP8.out HZ.out.2.2.2.2.1 HZ.out.2.2.2.2.2 (Nat.pow_pos (by decide)) (HT.out.below HB8.out (Nat.le_refl _))).mono ?_
        rintro e w10 ⟨x, y, n, rfl, hm, hb⟩
        have HMM := Lib.hid hm
        have HX10 := Lib.hid (HX8.out.below hb HX8.out.lt)
        have HB10 := Lib.hid (HB8.out.trans (hb.mono HB8.out.size))
        clear hm hb
        have r0 := HX10.out.cell 0 0 (b := w.heap.size) rfl rfl rfl
        have r1 := HX10.out.cell 0 1 (b := w.heap.size) rfl rfl rfl
        have f0 := HX10.out.free 0 0 (b := w.heap.size) rfl rfl
        have f1 := HX10.out.free 0 1 (b := w.heap.size) rfl rfl
        go_wp2
        have q := two_put_cells (HX10.out.block 0 (b := w.heap.size) rfl rfl) (.string x) (.string y)
        have HBQ := Lib.hid (two_put_below HB10.out (b := w.heap.size) (by omega) (.string x) (.string y))
        obtain ⟨w9, hw9⟩ : ∃ w9, (w10.setCell ⟨w.heap.size, 0, none⟩ (.string x)).setCell ⟨w.heap.size, 1, none⟩ (.string y) = w9 := ⟨_, rfl⟩
        rw [hw9] at q HBQ
        obtain ⟨q0, q1⟩ := q
        rw [hw9]
        clear r0 r1 f0 f1 hw9
        go_wp2
        refine bodyPost_ret (v := .tuple #[.agg #[.string x, .string y], .int .i64 n]) (by simp [results, Tryz.f53, go_sem, q0, q1]) rfl ⟨_, _, _, rfl, ?_, HBQ.out⟩
        exact HR.out _ _ _ (HQ.out _ _ _ HMM.out)
    · cases vc
      · have HQ : Hid (ReadQ s.size a b c d false true (str []) (str []) 5) := rq_form2 HLO.out (by rw [HVC.out]; rfl)
        skip
        go_enter Tryz.func53, Tryz.ntmps53
        go_wp2_with fail
        obtain ⟨w1, hw1⟩ : ∃ w1, w.alloc (.cells #[.string ⟨#[]⟩, .string ⟨#[]⟩] 24) = w1 := ⟨_, rfl⟩
        rw [hw1]
        have HX1 : Hid (Boxes w.heap.size [.cells #[.string ⟨#[]⟩, .string ⟨#[]⟩] 24] w1) := by rw [← hw1]; exact Boxes.one w _
        have HB1 : Hid (Below w.heap.size w w1) := by rw [← hw1]; exact (Below.refl _ w).alloc (Nat.le_refl _) _
        clear hw1
        refine (HCA.out _ (HM.out.below HB1.out (Nat.le_refl _))).mono ?_
        rintro e w2 ⟨rfl, hb⟩
        have HX2 := Lib.hid (HX1.out.below hb HX1.out.lt)
        have HB2 := Lib.hid (HB1.out.trans (hb.mono HB1.out.size))
        clear hb HX1 HB1
        go_wp2_with fail
        refine (HCB.out _ (HM.out.below HB2.out (Nat.le_refl _))).mono ?_
        rintro e w3 ⟨rfl, hb⟩
        have HX3 := Lib.hid (HX2.out.below hb HX2.out.lt)
        have HB3 := Lib.hid (HB2.out.trans (hb.mono HB2.out.size))
        clear hb HX2 HB2
        go_wp2_with fail
        refine (whole_any c _ hzc).mono ?_
        rintro e w4 ⟨rfl, hb⟩
        rw [HVC.out]
        have HX4 := Lib.hid (HX3.out.below hb HX3.out.lt)
        have HB4 := Lib.hid (HB3.out.trans (hb.mono HB3.out.size))
        clear hb HX3 HB3
        have r0 := HX4.out.cell 0 0 (b := w.heap.size) rfl rfl rfl
        have r1 := HX4.out.cell 0 1 (b := w.heap.size) rfl rfl rfl
        have f0 := HX4.out.free 0 0 (b := w.heap.size) rfl rfl
        have f1 := HX4.out.free 0 1 (b := w.heap.size) rfl rfl
        go_wp2
        have q := two_put_cells (HX4.out.block 0 (b := w.heap.size) rfl rfl) (.string ⟨#[]⟩) (.string ⟨#[]⟩)
        have HBQ := Lib.hid (two_put_below HB4.out (b := w.heap.size) (by omega) (.string ⟨#[]⟩) (.string ⟨#[]⟩))
        obtain ⟨w9, hw9⟩ : ∃ w9, (w4.setCell ⟨w.heap.size, 0, none⟩ (.string ⟨#[]⟩)).setCell ⟨w.heap.size, 1, none⟩ (.string ⟨#[]⟩) = w9 := ⟨_, rfl⟩
        rw [hw9] at q HBQ
        obtain ⟨q0, q1⟩ := q
        rw [hw9]
        clear r0 r1 f0 f1 hw9
        go_wp2
        refine bodyPost_ret (v := .tuple #[.agg #[.string ⟨#[]⟩, .string ⟨#[]⟩], .int .i64 5]) (by simp [results, Tryz.f53, go_sem, q0, q1]) rfl ⟨_, _, _, rfl, ?_, HBQ.out⟩
        exact HR.out _ _ _ HQ.out
      · cases vd
        · have HQ : Hid (ReadQ s.size a b c d false true (str []) (str []) 5) := rq_form2 HLO.out (by rw [HVC.out, HVD.out]; rfl)
          skip
          go_enter Tryz.func53, Tryz.ntmps53
          go_wp2_with fail
          obtain ⟨w1, hw1⟩ : ∃ w1, w.alloc (.cells #[.string ⟨#[]⟩, .string ⟨#[]⟩] 24) = w1 := ⟨_, rfl⟩
          rw [hw1]
          have HX1 : Hid (Boxes w.heap.size [.cells #[.string ⟨#[]⟩, .string ⟨#[]⟩] 24] w1) := by rw [← hw1]; exact Boxes.one w _
          have HB1 : Hid (Below w.heap.size w w1) := by rw [← hw1]; exact (Below.refl _ w).alloc (Nat.le_refl _) _
          clear hw1
          refine (HCA.out _ (HM.out.below HB1.out (Nat.le_refl _))).mono ?_
          rintro e w2 ⟨rfl, hb⟩
          have HX2 := Lib.hid (HX1.out.below hb HX1.out.lt)
          have HB2 := Lib.hid (HB1.out.trans (hb.mono HB1.out.size))
          clear hb HX1 HB1
          go_wp2_with fail
          refine (HCB.out _ (HM.out.below HB2.out (Nat.le_refl _))).mono ?_
          rintro e w3 ⟨rfl, hb⟩
          have HX3 := Lib.hid (HX2.out.below hb HX2.out.lt)
          have HB3 := Lib.hid (HB2.out.trans (hb.mono HB2.out.size))
          clear hb HX2 HB2
          go_wp2_with fail
          refine (whole_any c _ hzc).mono ?_
          rintro e w4 ⟨rfl, hb⟩
          rw [HVC.out]
          have HX4 := Lib.hid (HX3.out.below hb HX3.out.lt)
          have HB4 := Lib.hid (HB3.out.trans (hb.mono HB3.out.size))
          clear hb HX3 HB3
          go_wp2_with fail
          refine (plain_any d _ hzd).mono ?_
          rintro e w5 ⟨rfl, hb⟩
          rw [HVD.out]
          have HX5 := Lib.hid (HX4.out.below hb HX4.out.lt)
          have HB5 := Lib.hid (HB4.out.trans (hb.mono HB4.out.size))
          clear hb HX4 HB4
          have r0 := HX5.out.cell 0 0 (b := w.heap.size) rfl rfl rfl
          have r1 := HX5.out.cell 0 1 (b := w.heap.size) rfl rfl rfl
          have f0 := HX5.out.free 0 0 (b := w.heap.size) rfl rfl
          have f1 := HX5.out.free 0 1 (b := w.heap.size) rfl rfl
          go_wp2
          have q := two_put_cells (HX5.out.block 0 (b := w.heap.size) rfl rfl) (.string ⟨#[]⟩) (.string ⟨#[]⟩)
          have HBQ := Lib.hid (two_put_below HB5.out (b := w.heap.size) (by omega) (.string ⟨#[]⟩) (.string ⟨#[]⟩))
          obtain ⟨w9, hw9⟩ : ∃ w9, (w5.setCell ⟨w.heap.size, 0, none⟩ (.string ⟨#[]⟩)).setCell ⟨w.heap.size, 1, none⟩ (.string ⟨#[]⟩) = w9 := ⟨_, rfl⟩
          rw [hw9] at q HBQ
          obtain ⟨q0, q1⟩ := q
          rw [hw9]
          clear r0 r1 f0 f1 hw9
          go_wp2
          refine bodyPost_ret (v := .tuple #[.agg #[.string ⟨#[]⟩, .string ⟨#[]⟩], .int .i64 5]) (by simp [results, Tryz.f53, go_sem, q0, q1]) rfl ⟨_, _, _, rfl, ?_, HBQ.out⟩
          exact HR.out _ _ _ HQ.out
        · skip
          have HW : Hid ((wholeOk c.data.toList && (!true || plainOk d.data.toList)) = true) := by show _ = _; rw [HVC.out, HVD.out]; simp
          have hdz := cut_digits HW.out HNN.out
          obtain ⟨z, hz⟩ : ∃ z, c ++ d = z := ⟨_, rfl⟩
          have hcd := HSZ.out
          have hzs : z.size ≤ 2600 := by rw [← hz, ByteArray.size_append]; omega
          rw [hz] at hdz
          obtain ⟨N, hN⟩ : ∃ N, decVal z.data.toList = N := ⟨_, rfl⟩
          have hlN := decVal_lim hdz (j := 300) (by omega)
          rw [hN] at hlN
          have HZ : Hid (c ++ d = z ∧ z.size ≤ 1000000 ∧ (∀ x ∈ z.data.toList, isDig x = true) ∧ decVal z.data.toList = N ∧ (limbs 1000000000 N).length ≤ 100000 ∧ (limbs 1000000000 (10 ^ d.size)).length ≤ 100000) := ⟨hz, by omega, hdz, hN, by omega, Nat.le_trans (lim_pow9 hcd.2.2.2) (by decide)⟩
          clear hdz hz hzs hN hlN
          have hcd2 : ¬ 9223372036854775807 < c.size + d.size := by omega
          by_cases g : 600 < (Lib.decDigits N).length
          · have HQ : Hid (ReadQ s.size a b c d false true (str []) (str []) 4) := rq_range2 HLO.out HW.out (by rw [HZ.out.1, HZ.out.2.2.2.1]; exact g)
            have g5 : (600 : Int) < (Lib.decDigits N).length := by omega
            obtain ⟨L, hL⟩ : ∃ L, (Lib.decDigits N).length = L := ⟨_, rfl⟩
            rw [hL] at g5
            have HLL := Lib.hid hL
            clear g hL
            skip
            go_enter Tryz.func53, Tryz.ntmps53
            go_wp2_with fail
            obtain ⟨w1, hw1⟩ : ∃ w1, w.alloc (.cells #[.string ⟨#[]⟩, .string ⟨#[]⟩] 24) = w1 := ⟨_, rfl⟩
            rw [hw1]
            have HX1 : Hid (Boxes w.heap.size [.cells #[.string ⟨#[]⟩, .string ⟨#[]⟩] 24] w1) := by rw [← hw1]; exact Boxes.one w _
            have HB1 : Hid (Below w.heap.size w w1) := by rw [← hw1]; exact (Below.refl _ w).alloc (Nat.le_refl _) _
            clear hw1
            refine (HCA.out _ (HM.out.below HB1.out (Nat.le_refl _))).mono ?_
            rintro e w2 ⟨rfl, hb⟩
            have HX2 := Lib.hid (HX1.out.below hb HX1.out.lt)
            have HB2 := Lib.hid (HB1.out.trans (hb.mono HB1.out.size))
            clear hb HX1 HB1
            go_wp2_with fail
            refine (HCB.out _ (HM.out.below HB2.out (Nat.le_refl _))).mono ?_
            rintro e w3 ⟨rfl, hb⟩
            have HX3 := Lib.hid (HX2.out.below hb HX2.out.lt)
            have HB3 := Lib.hid (HB2.out.trans (hb.mono HB2.out.size))
            clear hb HX2 HB2
            go_wp2_with fail
            refine (whole_any c _ hzc).mono ?_
            rintro e w4 ⟨rfl, hb⟩
            rw [HVC.out]
            have HX4 := Lib.hid (HX3.out.below hb HX3.out.lt)
            have HB4 := Lib.hid (HB3.out.trans (hb.mono HB3.out.size))
            clear hb HX3 HB3
            go_wp2_with fail
            refine (plain_any d _ hzd).mono ?_
            rintro e w5 ⟨rfl, hb⟩
            rw [HVD.out]
            have HX5 := Lib.hid (HX4.out.below hb HX4.out.lt)
            have HB5 := Lib.hid (HB4.out.trans (hb.mono HB4.out.size))
            clear hb HX4 HB4
            go_wp2_with fail
            rw [HZ.out.1]
            refine (of_any z HZ.out.2.1 HZ.out.2.2.1 _).mono ?_
            rintro e w6 ⟨vl, rfl, hv, hb⟩
            rw [HZ.out.2.2.2.1] at hv
            obtain ⟨pl, ml, cl, rfl⟩ := hv.form2
            have HV6 := Lib.hid hv
            have HX6 := Lib.hid (HX5.out.below hb HX5.out.lt)
            have HB6 := Lib.hid (HB5.out.trans (hb.mono HB5.out.size))
            clear hv hb
            go_wp2_with fail
            refine (digits_any HV6.out HZ.out.2.2.2.2.1 (HT.out.below HB6.out (Nat.le_refl _))).mono ?_
            rintro e w7 ⟨rfl, hb⟩
            have HV7 := Lib.hid (HV6.out.after hb (Nat.le_refl _))
            have HX7 := Lib.hid (HX6.out.below hb HX6.out.lt)
            have HB7 := Lib.hid (HB6.out.trans (hb.mono HB6.out.size))
            clear hb
            rw [HLL.out]
            have r0 := HX7.out.cell 0 0 (b := w.heap.size) rfl rfl rfl
            have r1 := HX7.out.cell 0 1 (b := w.heap.size) rfl rfl rfl
            have f0 := HX7.out.free 0 0 (b := w.heap.size) rfl rfl
            have f1 := HX7.out.free 0 1 (b := w.heap.size) rfl rfl
            go_wp2
            have q := two_put_cells (HX7.out.block 0 (b := w.heap.size) rfl rfl) (.string ⟨#[]⟩) (.string ⟨#[]⟩)
            have HBQ := Lib.hid (two_put_below HB7.out (b := w.heap.size) (by omega) (.string ⟨#[]⟩) (.string ⟨#[]⟩))
            obtain ⟨w9, hw9⟩ : ∃ w9, (w7.setCell ⟨w.heap.size, 0, none⟩ (.string ⟨#[]⟩)).setCell ⟨w.heap.size, 1, none⟩ (.string ⟨#[]⟩) = w9 := ⟨_, rfl⟩
            rw [hw9] at q HBQ
            obtain ⟨q0, q1⟩ := q
            rw [hw9]
            clear r0 r1 f0 f1 hw9
            go_wp2
            refine bodyPost_ret (v := .tuple #[.agg #[.string ⟨#[]⟩, .string ⟨#[]⟩], .int .i64 4]) (by simp [results, Tryz.f53, go_sem, q0, q1]) rfl ⟨_, _, _, rfl, ?_, HBQ.out⟩
            exact HR.out _ _ _ HQ.out
          have HQ : Hid (∀ x y e, Ans (mkRat (N : Nat) (10 ^ d.size)) x y e → ReadQ s.size a b c d false true x y e) := fun x y e h => rq_ans HLO.out HW.out (by rw [HZ.out.1, HZ.out.2.2.2.1]; exact g) (by rw [HZ.out.1, HZ.out.2.2.2.1]; exact h)
          have g5 : ¬ (600 : Int) < (Lib.decDigits N).length := by omega
          obtain ⟨L, hL⟩ : ∃ L, (Lib.decDigits N).length = L := ⟨_, rfl⟩
          rw [hL] at g5
          have HLL := Lib.hid hL
          clear g hL
          go_enter Tryz.func53, Tryz.ntmps53
          go_wp2_with fail
          obtain ⟨w1, hw1⟩ : ∃ w1, w.alloc (.cells #[.string ⟨#[]⟩, .string ⟨#[]⟩] 24) = w1 := ⟨_, rfl⟩
          rw [hw1]
          have HX1 : Hid (Boxes w.heap.size [.cells #[.string ⟨#[]⟩, .string ⟨#[]⟩] 24] w1) := by rw [← hw1]; exact Boxes.one w _
          have HB1 : Hid (Below w.heap.size w w1) := by rw [← hw1]; exact (Below.refl _ w).alloc (Nat.le_refl _) _
          clear hw1
          refine (HCA.out _ (HM.out.below HB1.out (Nat.le_refl _))).mono ?_
          rintro e w2 ⟨rfl, hb⟩
          have HX2 := Lib.hid (HX1.out.below hb HX1.out.lt)
          have HB2 := Lib.hid (HB1.out.trans (hb.mono HB1.out.size))
          clear hb HX1 HB1
          go_wp2_with fail
          refine (HCB.out _ (HM.out.below HB2.out (Nat.le_refl _))).mono ?_
          rintro e w3 ⟨rfl, hb⟩
          have HX3 := Lib.hid (HX2.out.below hb HX2.out.lt)
          have HB3 := Lib.hid (HB2.out.trans (hb.mono HB2.out.size))
          clear hb HX2 HB2
          go_wp2_with fail
          refine (whole_any c _ hzc).mono ?_
          rintro e w4 ⟨rfl, hb⟩
          rw [HVC.out]
          have HX4 := Lib.hid (HX3.out.below hb HX3.out.lt)
          have HB4 := Lib.hid (HB3.out.trans (hb.mono HB3.out.size))
          clear hb HX3 HB3
          go_wp2_with fail
          refine (plain_any d _ hzd).mono ?_
          rintro e w5 ⟨rfl, hb⟩
          rw [HVD.out]
          have HX5 := Lib.hid (HX4.out.below hb HX4.out.lt)
          have HB5 := Lib.hid (HB4.out.trans (hb.mono HB4.out.size))
          clear hb HX4 HB4
          go_wp2_with fail
          rw [HZ.out.1]
          refine (of_any z HZ.out.2.1 HZ.out.2.2.1 _).mono ?_
          rintro e w6 ⟨vl, rfl, hv, hb⟩
          rw [HZ.out.2.2.2.1] at hv
          obtain ⟨pl, ml, cl, rfl⟩ := hv.form2
          have HV6 := Lib.hid hv
          have HX6 := Lib.hid (HX5.out.below hb HX5.out.lt)
          have HB6 := Lib.hid (HB5.out.trans (hb.mono HB5.out.size))
          clear hv hb
          go_wp2_with fail
          refine (digits_any HV6.out HZ.out.2.2.2.2.1 (HT.out.below HB6.out (Nat.le_refl _))).mono ?_
          rintro e w7 ⟨rfl, hb⟩
          have HV7 := Lib.hid (HV6.out.after hb (Nat.le_refl _))
          have HX7 := Lib.hid (HX6.out.below hb HX6.out.lt)
          have HB7 := Lib.hid (HB6.out.trans (hb.mono HB6.out.size))
          clear hb
          rw [HLL.out]
          go_wp2_with fail
          refine (power_any d.size (Nat.le_trans HSZ.out.2.2.2 (by decide)) _ (HV.out.below HB7.out (Nat.le_refl _))).mono ?_
          rintro e w8 ⟨vp, rfl, hv, hb⟩
          obtain ⟨pp, mp, cp, rfl⟩ := hv.form2
          have HP8 := Lib.hid hv
          have HV8 := Lib.hid (HV7.out.after hb (Nat.le_refl _))
          have HX8 := Lib.hid (HX7.out.below hb HX7.out.lt)
          have HB8 := Lib.hid (HB7.out.trans (hb.mono HB7.out.size))
          clear hv hb
          go_wp2_with fail
          refine (part_any HV8.out HP8.out HZ.out.2.2.2.2.1 HZ.out.2.2.2.2.2 (Nat.pow_pos (by decide)) (HT.out.below HB8.out (Nat.le_refl _))).mono ?_
          rintro e w10 ⟨x, y, n, rfl, hm, hb⟩
          have HMM := Lib.hid hm
          have HX10 := Lib.hid (HX8.out.below hb HX8.out.lt)
          have HB10 := Lib.hid (HB8.out.trans (hb.mono HB8.out.size))
          clear hm hb
          have r0 := HX10.out.cell 0 0 (b := w.heap.size) rfl rfl rfl
          have r1 := HX10.out.cell 0 1 (b := w.heap.size) rfl rfl rfl
          have f0 := HX10.out.free 0 0 (b := w.heap.size) rfl rfl
          have f1 := HX10.out.free 0 1 (b := w.heap.size) rfl rfl
          go_wp2
          have q := two_put_cells (HX10.out.block 0 (b := w.heap.size) rfl rfl) (.string x) (.string y)
          have HBQ := Lib.hid (two_put_below HB10.out (b := w.heap.size) (by omega) (.string x) (.string y))
          obtain ⟨w9, hw9⟩ : ∃ w9, (w10.setCell ⟨w.heap.size, 0, none⟩ (.string x)).setCell ⟨w.heap.size, 1, none⟩ (.string y) = w9 := ⟨_, rfl⟩
          rw [hw9] at q HBQ
          obtain ⟨q0, q1⟩ := q
          rw [hw9]
          clear r0 r1 f0 f1 hw9
          go_wp2
          refine bodyPost_ret (v := .tuple #[.agg #[.string x, .string y], .int .i64 n]) (by simp [results, Tryz.f53, go_sem, q0, q1]) rfl ⟨_, _, _, rfl, ?_, HBQ.out⟩
          exact HR.out _ _ _ (HQ.out _ _ _ HMM.out)
end Go.Proofs.YthbpadjhlkdpeaaGreatDoor
/- WeightTexts' walk. -/
namespace Go.Proofs.YthbpadjhlkdpeaaGreatDoor
open Go.RowKit Go.Shelf
attribute [local go_sem ↓] Go.wp_at_zero Go.wp_at_succ

theorem det_read (s : ByteArray) : Det (ReadR s) := fun x y n x' y' n' h k =>
  det_readq _ _ _ _ _ _ _ (fun _ _ _ _ _ _ h k => det_made _ _ _ _ _ _ _ _ k h) k h
theorem pl_one (w : World) (s t : ByteArray) : PL (w.alloc (.cells #[.string s, .string t] 24)) (.slice (some ⟨w.heap.size, 0, none⟩) 1 1) [(s, t)] := by
  refine ⟨_, 1, rfl, Nat.le_refl _, by simp [maxLen], fun _ => ⟨_, 0, rfl, by simp, fun j hj => ?_⟩⟩
  obtain rfl : j = 0 := by simpa using hj
  exact ⟨cell_new _ _ _ 0 rfl, cell_new _ _ _ 1 rfl⟩

set_option maxRecDepth 100000 in
set_option maxHeartbeats 8000000 in
theorem texts_law (s t u : ByteArray) (n : Int) (hn0 : -9223372036854775808 ≤ n) (hn1 : n ≤ 9223372036854775807) (w : World) (hT : Tabs w) (hV : TensV w) (hM : MaxV w) :
    Calls Tryz.prog 12 #[pV s t, .string u, .int .i64 n] w (BoolPost w true) := by
  have HT := Lib.hid hT
  have HV := Lib.hid hV
  have HM := Lib.hid hM
  have HNN := Lib.hid (And.intro hn0 hn1)
  clear hT hV hM hn0 hn1
  cases h0 : shortB 700 [(s, t)]
  · have H0 := Lib.hid h0
    clear h0
    skip
    go_enter Tryz.func12, Tryz.ntmps12
    go_wp2_with fail
    obtain ⟨w0, hw0⟩ : ∃ w0, w.alloc (pObj s t) = w0 := ⟨_, rfl⟩
    rw [hw0]
    have HB0 : Hid (Below w.heap.size w w0) := by rw [← hw0]; exact (Below.refl _ w).alloc (Nat.le_refl _) _
    have HA0 : Hid (Ats [(w.heap.size, s, t)] w0) := by rw [← hw0]; exact (Ats.nil w).push s t
    have hsz0 : w0.heap.size = w.heap.size + 1 := by rw [← hw0]; simp
    clear hw0
    have hpl := pl_one w0 s t
    rw [hsz0] at hpl
    have hal := (Below.refl w0.heap.size w0).alloc (Nat.le_refl _) (.cells #[.string s, .string t] 24)
    have HBL := Lib.hid (HB0.out.trans (hal.mono HB0.out.size))
    have HAL := Lib.hid (HA0.out.after hal (Nat.le_refl _))
    clear hal HA0 HB0 hsz0
    refine (short_any 700 (by decide) hpl).mono ?_
    clear hpl
    rintro e w2 ⟨rfl, hb2⟩
    have HB2 := Lib.hid (HBL.out.trans (hb2.mono HBL.out.size))
    have HA2 := Lib.hid (HAL.out.after hb2 (Nat.le_refl _))
    clear hb2 HAL HBL
    rw [H0.out]
    go_wp2_with fail
    refine (alive_any _ (HT.out.below HB2.out (Nat.le_refl _))).mono ?_
    rintro e w3 ⟨rfl, hb3⟩
    have HB3 := Lib.hid (HB2.out.trans (hb3.mono HB2.out.size))
    clear hb3
    go_wp2
    go_ret
    exact ⟨rfl, HB3.out⟩
  have H0 := Lib.hid h0
  by_cases g : 1400 < u.size
  · have g' : (1400 : Int) < u.size := by omega
    clear h0 g
    skip
    go_enter Tryz.func12, Tryz.ntmps12
    go_wp2_with fail
    obtain ⟨w0, hw0⟩ : ∃ w0, w.alloc (pObj s t) = w0 := ⟨_, rfl⟩
    rw [hw0]
    have HB0 : Hid (Below w.heap.size w w0) := by rw [← hw0]; exact (Below.refl _ w).alloc (Nat.le_refl _) _
    have HA0 : Hid (Ats [(w.heap.size, s, t)] w0) := by rw [← hw0]; exact (Ats.nil w).push s t
    have hsz0 : w0.heap.size = w.heap.size + 1 := by rw [← hw0]; simp
    clear hw0
    have hpl := pl_one w0 s t
    rw [hsz0] at hpl
    have hal := (Below.refl w0.heap.size w0).alloc (Nat.le_refl _) (.cells #[.string s, .string t] 24)
    have HBL := Lib.hid (HB0.out.trans (hal.mono HB0.out.size))
    have HAL := Lib.hid (HA0.out.after hal (Nat.le_refl _))
    clear hal HA0 HB0 hsz0
    refine (short_any 700 (by decide) hpl).mono ?_
    clear hpl
    rintro e w2 ⟨rfl, hb2⟩
    have HB2 := Lib.hid (HBL.out.trans (hb2.mono HBL.out.size))
    have HA2 := Lib.hid (HAL.out.after hb2 (Nat.le_refl _))
    clear hb2 HAL HBL
    rw [H0.out]
    go_wp2_with fail
    refine (alive_any _ (HT.out.below HB2.out (Nat.le_refl _))).mono ?_
    rintro e w3 ⟨rfl, hb3⟩
    have HB3 := Lib.hid (HB2.out.trans (hb3.mono HB2.out.size))
    clear hb3
    go_wp2
    go_ret
    exact ⟨rfl, HB3.out⟩
  have g' : ¬ (1400 : Int) < u.size := by omega
  have g'd : decide ((1400 : Int) < u.size) = false := decide_eq_false g'
  have hz : s.size ≤ 1000000 ∧ t.size ≤ 1000000 := by have := (shortB_iff.1 h0) (s, t) (by simp); dsimp only at this; omega
  have HZ : Hid (s.size ≤ 1000000 ∧ t.size ≤ 1000000 ∧ u.size ≤ 1000000) := ⟨hz.1, hz.2, by omega⟩
  clear h0 g hz
  go_enter Tryz.func12, Tryz.ntmps12
  go_wp2_with fail
  obtain ⟨w0, hw0⟩ : ∃ w0, w.alloc (pObj s t) = w0 := ⟨_, rfl⟩
  rw [hw0]
  have HB0 : Hid (Below w.heap.size w w0) := by rw [← hw0]; exact (Below.refl _ w).alloc (Nat.le_refl _) _
  have HA0 : Hid (Ats [(w.heap.size, s, t)] w0) := by rw [← hw0]; exact (Ats.nil w).push s t
  have hsz0 : w0.heap.size = w.heap.size + 1 := by rw [← hw0]; simp
  clear hw0
  have hpl := pl_one w0 s t
  rw [hsz0] at hpl
  have hal := (Below.refl w0.heap.size w0).alloc (Nat.le_refl _) (.cells #[.string s, .string t] 24)
  have HBL := Lib.hid (HB0.out.trans (hal.mono HB0.out.size))
  have HAL := Lib.hid (HA0.out.after hal (Nat.le_refl _))
  clear hal HA0 HB0 hsz0
  refine (short_any 700 (by decide) hpl).mono ?_
  clear hpl
  rintro e w2 ⟨rfl, hb2⟩
  have HB2 := Lib.hid (HBL.out.trans (hb2.mono HBL.out.size))
  have HA2 := Lib.hid (HAL.out.after hb2 (Nat.le_refl _))
  clear hb2 HAL HBL
  rw [H0.out]
  go_wp2_with fail
  refine (wread_any u _ HZ.out.2.2 (HT.out.below HB2.out (Nat.le_refl _)) (HV.out.below HB2.out (Nat.le_refl _)) (HM.out.below HB2.out (Nat.le_refl _))).mono ?_
  rintro e w3 ⟨x1, y1, n1, rfl, hc, hb⟩
  have HC := Lib.hid hc
  have HA3 := Lib.hid ((HA2.out.after hb (Nat.le_refl _)).push x1 y1)
  have HB3 : Hid (Below w.heap.size w (w3.alloc (pObj x1 y1))) := (HB2.out.trans (hb.mono HB2.out.size)).alloc (Nat.le_trans HB2.out.size hb.size) _
  clear hc hb HA2 HB2
  go_wp2_with fail
  refine (rread_any u _ HZ.out.2.2).mono ?_
  rintro e w4 ⟨x', y', n', rfl, hc, hb⟩
  obtain ⟨rfl, rfl, rfl⟩ := det_read _ _ _ _ _ _ _ HC.out hc
  have HA4 := Lib.hid ((HA3.out.after hb (Nat.le_refl _)).push x1 y1)
  have HB4 : Hid (Below w.heap.size w (w4.alloc (pObj x1 y1))) := (HB3.out.trans (hb.mono HB3.out.size)).alloc (Nat.le_trans HB3.out.size hb.size) _
  clear hc hb HA3 HB3 HC
  have m0 := HA4.out.c0 2 rfl
  have m1 := HA4.out.c1 2 rfl
  go_wp2_with fail
  refine (wdecimal_any s t n _ HZ.out.1 HZ.out.2.1 HNN.out.1 HNN.out.2 (HT.out.below HB4.out (Nat.le_refl _)) (HV.out.below HB4.out (Nat.le_refl _))).mono ?_
  rintro e w5 ⟨d1, u1, k1, rfl, hd, hb⟩
  have HD := Lib.hid hd
  have HA5 := Lib.hid (HA4.out.after hb (Nat.le_refl _))
  have HB5 := Lib.hid (HB4.out.trans (hb.mono HB4.out.size))
  clear hd hb m0 m1 HA4 HB4
  have m0 := HA5.out.c0 2 rfl
  have m1 := HA5.out.c1 2 rfl
  go_wp2_with fail
  refine (rdecimal_any s t n _ HZ.out.1 HZ.out.2.1 HNN.out.1 HNN.out.2).mono ?_
  rintro e w6 ⟨d2, u2, k2, rfl, hd, hb⟩
  obtain ⟨rfl, rfl, rfl⟩ := det_dec HD.out hd
  have HA6 := Lib.hid (HA5.out.after hb (Nat.le_refl _))
  have HB6 := Lib.hid (HB5.out.trans (hb.mono HB5.out.size))
  clear hd hb m0 m1 HA5 HB5 HD
  obtain ⟨ck, hck⟩ : ∃ c, okE s t = c := ⟨_, rfl⟩
  obtain ⟨tx, htx⟩ : ∃ x, textOf s t = x := ⟨_, rfl⟩
  have HK1 : Hid (∀ W, Calls Tryz.prog 34 #[.agg #[.string s, .string t]] W (IntPost W ck)) := fun W => by rw [← hck]; exact check_any s t W HZ.out.1 HZ.out.2.1
  have HK2 : Hid (∀ W, Calls Tryz.prog 57 #[.agg #[.string s, .string t]] W (IntPost W ck)) := fun W => by rw [← hck]; exact rcheck_any s t W HZ.out.1 HZ.out.2.1
  have HK3 : Hid (∀ W, Calls Tryz.prog 58 #[.agg #[.string s, .string t]] W (StrPost tx W)) := fun W => by rw [← htx]; exact wtext_any s t W HZ.out.1 HZ.out.2.1
  have HK4 : Hid (∀ W, Calls Tryz.prog 59 #[.agg #[.string s, .string t]] W (StrPost tx W)) := fun W => by rw [← htx]; exact rtext_any s t W HZ.out.1 HZ.out.2.1
  clear hck htx
  have ka6 := HA6.out.c0 2 rfl
  have kb6 := HA6.out.c1 2 rfl
  go_wp2_with fail
  go_region_held3
    (fun w' => w'.cell? ⟨w.heap.size, 0, none⟩ = some (.string s) ∧ w'.cell? ⟨w.heap.size, 1, none⟩ = some (.string t))
    (first | exact ⟨ka6, kb6⟩ | exact ⟨ka7, kb7⟩ | exact ⟨ka8, kb8⟩ | exact ⟨ka9, kb9⟩ | exact ⟨ka10, kb10⟩)
    (first
      | (go_at_call 34; refine (HK1.out _).mono ?_; rintro e w7 ⟨rfl, hb⟩; have HA7 := Lib.hid (HA6.out.after ((Below.refl _ _).drew.trans hb) (Nat.le_refl _)); have HB7 : Hid (Below w.heap.size w w7) := HB6.out.drew.trans (hb.mono HB6.out.size); have ka7 := HA7.out.c0 2 rfl; have kb7 := HA7.out.c1 2 rfl; clear hb)
      | (go_at_call 57; refine (HK2.out _).mono ?_; rintro e w8 ⟨rfl, hb⟩; have HA8 := Lib.hid (HA7.out.after hb (Nat.le_refl _)); have HB8 : Hid (Below w.heap.size w w8) := HB7.out.trans (hb.mono HB7.out.size); have ka8 := HA8.out.c0 2 rfl; have kb8 := HA8.out.c1 2 rfl; clear hb)
      | (go_at_call 58; refine (HK3.out _).mono ?_; rintro e w9 ⟨rfl, hb⟩; have HA9 := Lib.hid (HA8.out.after hb (Nat.le_refl _)); have HB9 : Hid (Below w.heap.size w w9) := HB8.out.trans (hb.mono HB8.out.size); have ka9 := HA9.out.c0 2 rfl; have kb9 := HA9.out.c1 2 rfl; clear hb)
      | (go_at_call 59; refine (HK4.out _).mono ?_; rintro e w10 ⟨rfl, hb⟩; have HA10 := Lib.hid (HA9.out.after hb (Nat.le_refl _)); have HB10 : Hid (Below w.heap.size w w10) := HB9.out.trans (hb.mono HB9.out.size); have ka10 := HA10.out.c0 2 rfl; have kb10 := HA10.out.c1 2 rfl; clear hb))
  clear ka6 kb6
  have q0 := HA10.out.c0 1 rfl
  have q1 := HA10.out.c1 1 rfl
  have q2 := HA10.out.c0 0 rfl
  have q3 := HA10.out.c1 0 rfl
  go_wp2_with fail
  refine (same_yes x1 y1 n1 _).mono ?_
  rintro e w11 ⟨rfl, hb⟩
  have HB11 := Lib.hid (HB10.out.trans (hb.mono HB10.out.size))
  clear hb q0 q1 q2 q3
  go_wp2_with fail
  refine (alive_any _ (HT.out.below HB11.out (Nat.le_refl _))).mono ?_
  rintro e w12 ⟨rfl, hb⟩
  have HB12 := Lib.hid (HB11.out.trans (hb.mono HB11.out.size))
  clear hb
  go_wp2
  go_ret
  exact ⟨rfl, HB12.out⟩
end Go.Proofs.YthbpadjhlkdpeaaGreatDoor
