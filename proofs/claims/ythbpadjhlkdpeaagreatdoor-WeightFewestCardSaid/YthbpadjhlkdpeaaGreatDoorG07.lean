/- The parts Text, Shown, Tabs, Frac, Right of a proof, put together by program (merge.py). -/
import Derived.Test.YthbpadjhlkdpeaaGreatDoorG02
import Derived.Test.YthbpadjhlkdpeaaGreatDoorG03
import Derived.Test.YthbpadjhlkdpeaaGreatDoorG06
import Derived.Lib.Repeat
import Derived.Lib.SmallJoins
import Derived.Shelf.Strings.SlTrimAscii
/- weight's number.text and digits. -/
namespace Go.Proofs.YthbpadjhlkdpeaaGreatDoor
open Go.RowKit Go.Shelf
attribute [local go_sem] Oper.semAt_some

/-- A builder that was written, whose bytes lie apart from two blocks. -/
def BldAt (B b D : Nat) (l : List UInt8) (w : World) : Prop :=
  B ≤ b ∧ ∃ v, w.heap[b]? = some (.cells #[.pointer (some ⟨b, 0, none⟩), v] 171 (0, 0)) ∧ w.ownsRowF B 5 1 v (Lib.byteCells l).length (Lib.byteCells l) ∧ v.ownBlock ≠ some b ∧
    v.ownBlock ≠ some D ∧ v.ownBlock ≠ some (D + 1)

theorem BldAt.bld {B b D : Nat} {l : List UInt8} {w : World} (h : BldAt B b D l w) : Bld B b l w := by
  obtain ⟨h1, v, h2, h3, h4, _⟩ := h
  exact .inr ⟨h1, v, h2, h3, h4⟩

theorem ownF_block {w : World} {base : Nat} {e : TypeId} {size : Nat} {v : Value} {n : Nat} {xs : List Value} (h : w.ownsRowF base e size v n xs) {r : Nat} (hr : v.ownBlock = some r) : ∃ cur fz, w.heap[r]? = some (.cells cur e fz) := by
  rcases h.2 with ⟨rfl, _⟩ | ⟨g, cap, cur, fz, rfl, _, hg, _⟩
  · cases hr
  · have := Option.some.inj hr
    subst this
    exact ⟨cur, fz, hg⟩

theorem BldAt.keeps {S : Nat → Prop} {B b D : Nat} {l : List UInt8} {w w' : World} (h : BldAt B b D l w) (hk : Keeps S w w') (hb : S b) (hS : ∀ r, r ≠ D → r ≠ D + 1 → S r) : BldAt B b D l w' := by
  obtain ⟨h1, v, h2, h3, h4, h5, h6⟩ := h
  refine ⟨h1, v, by rw [hk.block b (Array.getElem?_eq_some_iff.1 h2).1 hb]; exact h2, ⟨h3.1, ?_⟩, h4, h5, h6⟩
  rcases h3.2 with h7 | ⟨g, cap, cur, fz, rfl, hbg, hg, hr⟩
  · exact .inl h7
  · refine .inr ⟨g, cap, cur, fz, rfl, hbg, ?_, hr⟩
    rw [hk.block g (Array.getElem?_eq_some_iff.1 hg).1 (hS g (fun e => h5 (by rw [e]; rfl)) (fun e => h6 (by rw [e]; rfl)))]
    exact hg

theorem BldAt.of {B b D : Nat} {l : List UInt8} {w : World} (h : Lib.BuilderAtF 171 5 B b (.pointer (some ⟨b, 0, none⟩)) (Lib.byteCells l) w)
    (hD : ∀ c T fz, w.heap[D]? ≠ some (.cells c T fz)) (hD1 : ∀ c T fz, w.heap[D + 1]? ≠ some (.cells c T fz)) : BldAt B b D l w := by
  obtain ⟨h1, v, h2, h3, h4⟩ := h
  refine ⟨h1, v, h2, h3, h4, fun e => ?_, fun e => ?_⟩
  · obtain ⟨cur, fz, hc⟩ := ownF_block h3 e
    exact hD _ _ _ hc
  · obtain ⟨cur, fz, hc⟩ := ownF_block h3 e
    exact hD1 _ _ _ hc

theorem repeatL_one (c : UInt8) : ∀ k, Lib.repeatL [c] k = List.replicate k c
  | 0 => rfl
  | k + 1 => by rw [Lib.repeatL, repeatL_one c k]; rfl

theorem byteCells_append (l m : List UInt8) : Lib.byteCells (l ++ m) = Lib.byteCells l ++ Lib.byteCells m := by simp [Lib.byteCells]

/-- writeString in bytes. -/
theorem writeString_any (B b : Nat) (l : List UInt8) (s : ByteArray) (w : World) (h : Bld B b l w) (hlen : l.length + s.size ≤ 140737488355328) (hBw : B ≤ w.heap.size) :
    Calls Tryz.prog 144 #[.pointer (some ⟨b, 0, none⟩), .string s] w fun e w' => e = .returned (.tuple #[.int .i64 s.size, .nilIface]) ∧
      (Lib.BuilderAtF 171 5 B b (.pointer (some ⟨b, 0, none⟩)) (Lib.byteCells (l ++ s.data.toList)) w' ∧ Below B w w' ∧ Lib.OthersKept 5 (some b) w w') := by
  have := writeString_cells B b (Lib.byteCells l) s w h (by rw [Lib.byteCells_length]; exact hlen) hBw
  rw [byteCells_append]
  exact this

/-- The text of the limbs from the top down to a place. -/
theorem text_step {xs : List Nat} (hx : ∀ x ∈ xs, x < 1000000000) {i : Nat} (hi : i < xs.length) (hpos : 0 < val 1000000000 (xs.drop (i + 1))) :
    Lib.decDigits (val 1000000000 (xs.drop i)) = Lib.decDigits (val 1000000000 (xs.drop (i + 1))) ++ (List.replicate (9 - (Lib.decDigits (xs.getD i 0)).length) 48 ++ Lib.decDigits (xs.getD i 0)) := by
  have hxi : xs.getD i 0 < 1000000000 := getD_lt (by omega) hx i
  have h1 := val_drop 1000000000 xs i hi
  have h2 : xs[i] = xs.getD i 0 := by simp [List.getD, hi]
  rw [h1, h2, ← fix_pad 9 _ (by omega) (by omega), ← decDigits_join _ 9 _ hpos (by omega)]
  congr 1
  omega
end Go.Proofs.YthbpadjhlkdpeaaGreatDoor
/- weight's number.text: the walk. -/
namespace Go.Proofs.YthbpadjhlkdpeaaGreatDoor
open Go.RowKit Go.Shelf
attribute [local go_sem] Oper.semAt_some

theorem keeps_of_others {B b : Nat} {S : Nat → Prop} {W W' : World} (hB : Below B W W') (hO : Lib.OthersKept 5 (some b) W W')
    (hS : ∀ i, S i → i < B ∨ (i ≠ b ∧ ∃ o, W.heap[i]? = some o ∧ ∀ c fz, o ≠ .cells c 5 fz)) : Keeps S W W' :=
  ⟨hB.os, hB.tape, hB.output, hB.size, fun i _ hs => by
    rcases hS i hs with h | ⟨h1, o, h2, h3⟩
    · exact hB.block i h
    · rw [h2]; exact hO i o h2 (fun e => h1 (Option.some.inj e)) h3⟩

/-- What a round finds beside the builder. -/
structure Beside (bx : Nat) (o : Array Value) (T : TypeId) (W : World) : Prop where
  box : W.heap[bx]? = some (.cells o T)
  d : ∃ x, W.heap[bx + 1]? = some (.deferred x)
  d1 : ∃ x, W.heap[bx + 2]? = some (.loop x)

theorem Beside.keeps {S : Nat → Prop} {bx : Nat} {o : Array Value} {T : TypeId} {W W' : World} (h : Beside bx o T W) (hk : Keeps S W W') (h0 : S bx) (h1 : S (bx + 1)) (h2 : S (bx + 2)) : Beside bx o T W' := by
  obtain ⟨a, ⟨x, b⟩, ⟨y, c⟩⟩ := h
  exact ⟨(hk.block _ (Array.getElem?_eq_some_iff.1 a).1 h0).trans a, ⟨x, (hk.block _ (Array.getElem?_eq_some_iff.1 b).1 h1).trans b⟩, ⟨y, (hk.block _ (Array.getElem?_eq_some_iff.1 c).1 h2).trans c⟩⟩

/-- A string is written: what stays. -/
theorem Beside.written {B b bx : Nat} {o : Array Value} {T : TypeId} {l : List UInt8} {W W' : World} (h : Beside bx o T W) (hT : T ≠ 5) (hbx : b < bx) (hB : Below B W W') (hO : Lib.OthersKept 5 (some b) W W')
    (hl : Lib.BuilderAtF 171 5 B b (.pointer (some ⟨b, 0, none⟩)) (Lib.byteCells l) W') :
    Beside bx o T W' ∧ Keeps (fun i => i < B ∨ i = bx ∨ i = bx + 1 ∨ i = bx + 2) W W' ∧ BldAt B b (bx + 1) l W' := by
  have hk : Keeps (fun i => i < B ∨ i = bx ∨ i = bx + 1 ∨ i = bx + 2) W W' := by
    refine keeps_of_others hB hO fun i hi => ?_
    obtain ⟨x, hx⟩ := h.d
    obtain ⟨y, hy⟩ := h.d1
    rcases hi with hi | rfl | rfl | rfl
    · exact .inl hi
    · exact .inr ⟨by omega, _, h.box, fun c fz e => by injection e with _ e; exact hT e⟩
    · exact .inr ⟨by omega, _, hx, fun c fz e => by cases e⟩
    · exact .inr ⟨by omega, _, hy, fun c fz e => by cases e⟩
  have h2 := h.keeps hk (.inr (.inl rfl)) (.inr (.inr (.inl rfl))) (.inr (.inr (.inr rfl)))
  refine ⟨h2, hk, BldAt.of hl ?_ ?_⟩
  · intro c T fz e; obtain ⟨x, hx⟩ := h2.d; rw [hx] at e; cases e
  · intro c T fz e; obtain ⟨x, hx⟩ := h2.d1; rw [show bx + 1 + 1 = bx + 2 by omega, hx] at e; cases e

theorem text_length {xs : List Nat} (hx : ∀ x ∈ xs, x < 1000000000) (hl : xs.length ≤ 100000) (i : Nat) : (Lib.decDigits (val 1000000000 (xs.drop i))).length ≤ 900009 := by
  have h1 := val_lt (B := 1000000000) (l := xs.drop i) fun x h => hx x (List.mem_of_mem_drop h)
  have h3 : (1000000000 : Nat) ^ (xs.drop i).length = 10 ^ (9 * (xs.drop i).length) := by rw [Nat.pow_mul]
  rw [h3] at h1
  have h4 : (xs.drop i).length ≤ 100000 := by rw [List.length_drop]; omega
  refine Nat.le_trans (decDigits_length_le (k := 9 * (xs.drop i).length + 9) (by omega) (Nat.lt_of_lt_of_le h1 (Nat.pow_le_pow_right (by omega) (by omega)))) (by omega)

theorem val_drop_pos (n j : Nat) (h : j < (limbs 1000000000 n).length) : 0 < val 1000000000 ((limbs 1000000000 n).drop j) := by
  have h1 : ((limbs 1000000000 n).drop j).getLast? ≠ some 0 := by
    rw [List.getLast?_drop, if_neg (by omega)]
    exact limbs_last (by omega) n
  have h2 := limbs_val (B := 1000000000) (by omega) (l := (limbs 1000000000 n).drop j) (fun x hx => limbs_lt (by omega) n x (List.mem_of_mem_drop hx)) h1
  rcases Nat.eq_zero_or_pos (val 1000000000 ((limbs 1000000000 n).drop j)) with h0 | h0
  · rw [h0, limbs_zero] at h2
    have h3 := congrArg List.length h2
    rw [List.length_drop] at h3
    simp at h3
    omega
  · exact h0

set_option maxRecDepth 100000 in
set_option maxHeartbeats 4000000 in
theorem text_long (nb off cap L : Nat) (xs : List Nat) (n : Nat) (hL : xs.length = L + 1) (hxs : limbs 1000000000 n = xs) (hl : xs.length ≤ 100000) (hcap : L + 1 ≤ cap) (w : World) (hnb : nb < w.heap.size) (ha : At .u64 w nb off xs)
    (htab : Lib.TabIs Tryz.prog w "internal/strconv.uint64pow10" .u64 Lib.pow10Tab) (htk : ∀ w' : World, Below w.heap.size w w' → Lib.TabIs Tryz.prog w' "internal/strconv.uint64pow10" .u64 Lib.pow10Tab) :
    Calls Tryz.prog 121 #[.slice (some ⟨nb, off, none⟩) (L + 1) cap] w fun e w' => e = .returned (.string ⟨(Lib.decDigits n).toArray⟩) ∧ Below w.heap.size w w' := by
  have HXS := Lib.hid hxs
  have HX : Hid (∀ x ∈ xs, x < 1000000000) := by rw [← hxs]; exact limbs_lt (by omega) n
  have HT := Lib.hid htk
  have HA := Lib.hid ha
  obtain ⟨x0, hx0⟩ : ∃ x, xs.getD L 0 = x := ⟨_, rfl⟩
  have hx0l : x0 < 1000000000 := by rw [← hx0]; exact getD_lt (by omega) HX.out _
  have hc0 : w.cell? ⟨nb, off + L, none⟩ = some (.int .u64 (x0 : Nat)) := ha.getD (by omega) hx0
  have HX0 := Lib.hid hx0
  clear ha hx0 htk hxs
  have hfn : ∀ k, Fence.wide.fn k := fun _ => trivial
  refine (callsIn_wide (n := 9)).1 ?_
  refine callsIn_of_wp_marks Tryz.func121 rfl trivial ?_ rfl
  simp only [Tryz.ntmps121, List.size_toArray, List.length_cons, List.length_nil, Nat.reduceAdd, Nat.reduceSub, Array.replicate_succ, Array.replicate_zero, List.push_toArray, List.append_toArray, List.nil_append, List.cons_append]
  obtain ⟨w1, hw1⟩ : ∃ w1, w.alloc (.cells #[.pointer none, .slice none 0 0] 171) = w1 := ⟨_, rfl⟩
  have hsz1 : w1.heap.size = w.heap.size + 1 := by rw [← hw1]; simp
  have HB1 : Hid (Below w.heap.size w w1) := by rw [← hw1]; exact (Below.refl _ w).alloc (Nat.le_refl _) _
  have HBl1 : Hid (Bld w.heap.size w.heap.size [] w1) := by
    refine .inl ⟨Nat.le_refl _, .slice none 0 0, ?_, World.ownsRowF_nil _ _ _ _, by simp [Value.ownBlock]⟩
    rw [← hw1]; exact World.alloc_heap_new w _
  have hcL : (((L + 1 : Nat) : Int) == 0) = false := by rw [beq_eq_false_iff_ne]; omega
  have hf0 := formatUint_any x0 (by omega) w1 (HT.out _ HB1.out)
  have hc1 : w1.cell? ⟨nb, off + L, none⟩ = some (.int .u64 (x0 : Nat)) := (HB1.out.cell (p := ⟨nb, off + L, none⟩) hnb).trans hc0
  have hlen0 : (Lib.decDigits x0).length ≤ 9 := decDigits_length_le (by omega) (by omega)
  gi_wp2_with (gi_at_call 145; refine (callsIn_wide.2 hf0).mono ?_; rintro e w2 ⟨rfl, hb2⟩)
  have hsz2 := hb2.size
  have hBl2 : Bld w.heap.size w.heap.size [] w2 := by
    rcases HBl1.out with ⟨q1, v, q2, q3, q4⟩ | ⟨q1, v, q2, q3, q4⟩
    · refine .inl ⟨q1, v, (hb2.block _ (by omega)).trans q2, ?_, q4⟩
      exact World.ownsRowF.kept (row := none) q3 ⟨hb2.os, hb2.tape, hb2.output, hb2.size, fun k hk _ => hb2.block k hk⟩ (by cases v.ownBlock <;> simp)
    · refine .inr ⟨q1, v, (hb2.block _ (by omega)).trans q2, ?_, q4⟩
      exact World.ownsRowF.kept (row := none) q3 ⟨hb2.os, hb2.tape, hb2.output, hb2.size, fun k hk _ => hb2.block k hk⟩ (by cases v.ownBlock <;> simp)
  have hws := writeString_any w.heap.size w.heap.size [] ⟨(Lib.decDigits x0).toArray⟩ w2 hBl2 (by rw [← size_len]; simp; omega) (by omega)
  have HB2 := Lib.hid (HB1.out.trans (hb2.mono (by omega)))
  clear hb2 hBl2 HBl1 hf0 hc1 hc0
  gi_wp2_with (gi_at_call 144; refine (callsIn_wide.2 hws).mono ?_; rintro e w3 ⟨rfl, hbl3, hb3, hk3⟩)
  have hsz3 := hb3.size
  have HB3 := Lib.hid (HB2.out.trans hb3)
  have HBl3 := Lib.hid hbl3
  clear hws hb3 hk3 hbl3
  gi_wp2_with (gi_at_call 130; refine (back_in Fence.wide _ trivial rfl _ _ _ _).mono ?_; rintro e w' ⟨rfl, rfl⟩)
  obtain ⟨w4, hw4⟩ : ∃ w4, w3.alloc (.cells #[.slice (some ⟨nb, off, none⟩) L cap] 92) = w4 := ⟨_, rfl⟩
  rw [hw4]
  have hD : w4.heap.size = w3.heap.size + 1 := by rw [← hw4]; simp
  have hbx4 : w4.heap[w3.heap.size]? = some (.cells #[.slice (some ⟨nb, off, none⟩) L cap] 92) := by rw [← hw4]; exact World.alloc_heap_new w3 _
  have HB4 : Hid (Below w.heap.size w w4) := by rw [← hw4]; exact HB3.out.alloc HB3.out.size _
  have HBl4 : Hid (BldAt w.heap.size w.heap.size (w3.heap.size + 1) (Lib.decDigits (val 1000000000 (xs.drop L))) w4) := by
    have e1 : val 1000000000 (xs.drop L) = x0 := by
      have h1 := val_drop 1000000000 xs L (by omega)
      have h2 : xs[L] = xs.getD L 0 := by simp [List.getD, hL]
      rw [List.drop_of_length_le (show xs.length ≤ L + 1 by omega)] at h1
      rw [h1, h2, HX0.out]; simp [val]
    rw [e1]
    have h5 := HBl3.out
    simp only [List.nil_append] at h5
    have h6 : BldAt w.heap.size w.heap.size (w3.heap.size + 1) (Lib.decDigits x0) w3 := BldAt.of h5 (fun c T fz h => by rw [Array.getElem?_eq_none (by omega)] at h; cases h) (fun c T fz h => by rw [Array.getElem?_eq_none (by omega)] at h; cases h)
    rw [← hw4]
    exact h6.keeps ((Keeps.refl (fun _ => True) _).alloc _) trivial (fun _ _ _ => trivial)
  have hpos : 0 < val 1000000000 (xs.drop L) := by rw [← HXS.out]; exact val_drop_pos n L (by rw [HXS.out]; omega)
  have HPOS := Lib.hid hpos
  clear hpos HBl3
  obtain ⟨ts, hts⟩ : ∃ ts, xs.take L = ts := ⟨_, rfl⟩
  have HTS : Hid (xs.take L = ts) := hts
  have htl : ts.length = L := by rw [← hts, List.length_take]; omega
  clear hts
  refine range_wp_at (w3.heap.size + 1) hD (gf := 154) (lb := #[.pointer (some ⟨w3.heap.size, 0, none⟩)])
    (f := fun k => #[.int .i64 (bk L k : Nat), .int .u64 (lim ts (bk L k) : Nat)]) (N := L) (S := fun b => b < w.heap.size ∨ b = w3.heap.size) (T := fun _ => True)
    rfl (enters_of Tryz.func154 (by kernel_rfl) rfl) (fun _ => rfl) ?iter (fun b h => by omega) ⟨trivial, trivial⟩
    (fun k W => BldAt w.heap.size w.heap.size (w3.heap.size + 1) (Lib.decDigits (val 1000000000 (xs.drop (L - k)))) W ∧ W.heap[w3.heap.size]? = some (.cells #[.slice (some ⟨nb, off, none⟩) L cap] 92) ∧ Below w.heap.size w W)
    (fun _ _ _ => False)
    (fun k W1 W2 h hk => ?ci)
    (fun c k W1 W2 h hk => h.elim) ⟨HBl4.out, hbx4, HB4.out⟩ ?a1 ?assign ?body ?done ?stop
  case ci =>
    obtain ⟨h1, h2, h3⟩ := h
    refine ⟨h1.keeps hk ⟨trivial, by omega, by omega⟩ (fun r h4 h5 => ⟨trivial, h4, h5⟩), (hk.block _ (Array.getElem?_eq_some_iff.1 h2).1 ⟨trivial, by omega, by omega⟩).trans h2, h3.trans ⟨hk.os, hk.tape, hk.output, hk.size, fun b hb => hk.block b (by have := h3.size; omega) ⟨trivial, by omega, by omega⟩⟩⟩
  case iter =>
    have := back_iter w3.heap.size (fun b => b < w.heap.size ∨ b = w3.heap.size) (some ⟨nb, off, none⟩) cap ts (by omega) w4 (.inr rfl) (by rw [htl]; unfold World.cell?; simp only [hbx4]; rfl)
      (fun _ => ⟨nb, off, rfl, .inl hnb, fun j hj => by
        have h1 := (HA.out.below HB4.out hnb) j (by omega)
        rw [h1]
        have h2 : ts[j] = xs[j] := by simp only [← HTS.out, List.getElem_take]
        rw [h2]⟩)
    rw [htl] at this
    exact this
  case assign =>
    intro l k W K hK
    gi_wp2
    exact hK
  case body =>
    rintro l k W hk ⟨hbld, hbx, hBW⟩ hW ⟨hdd, l', hll⟩
    obtain ⟨i, hi⟩ : ∃ i, bk L k = i := ⟨_, rfl⟩
    have hik : Hid (L - k = i + 1 ∧ L - (k + 1) = i ∧ i < L) := by unfold bk at hi; exact ⟨by omega, by omega, by omega⟩
    obtain ⟨x, hx⟩ : ∃ x, lim ts (bk L k) = x := ⟨_, rfl⟩
    have hxx : Hid (xs.getD i 0 = x) := by
      show _ = _
      rw [← hx, hi, ← HTS.out]
      have := hik.out.2.2
      unfold lim
      simp only [List.getD, List.getElem?_take_of_lt this]
    rw [hx]
    have hxl : x < 1000000000 := by rw [← hxx.out]; exact getD_lt (by omega) HX.out _
    rw [hik.out.1] at hbld
    have hBS : Beside w3.heap.size #[.slice (some ⟨nb, off, none⟩) L cap] 92 W := ⟨hbx, ⟨_, hdd⟩, ⟨_, hll⟩⟩
    have hlen := text_length HX.out hl (i + 1)
    have hlx : (Lib.decDigits x).length ≤ 9 := decDigits_length_le (by omega) (by omega)
    obtain ⟨c, hc⟩ : ∃ c, 9 - (Lib.decDigits x).length = c := ⟨_, rfl⟩
    have e9 : (9 : Int) - ((Lib.decDigits x).length : Nat) = (c : Nat) := by omega
    have hc9 : c ≤ 9 := by omega
    have hf := formatUint_any x (by omega) W (HT.out _ hBW)
    have HST : Hid (Lib.decDigits (val 1000000000 (xs.drop (L - (k + 1)))) = Lib.decDigits (val 1000000000 (xs.drop (i + 1))) ++ (List.replicate c 48 ++ Lib.decDigits x)) := by
      show _ = _
      rw [hik.out.2.1, ← hc, ← hxx.out]
      exact text_step HX.out (by have := hik.out.2.2; omega) (by rw [← HXS.out]; exact val_drop_pos n _ (by rw [HXS.out]; have := hik.out.2.2; omega))
    obtain ⟨tx, htx⟩ : ∃ tx, Lib.decDigits (val 1000000000 (xs.drop (i + 1))) = tx := ⟨_, rfl⟩
    rw [htx] at HST hbld hlen
    obtain ⟨dx, hdx⟩ : ∃ dx, Lib.decDigits x = dx := ⟨_, rfl⟩
    rw [hdx] at HST hf hlx e9
    clear hbx hdd hll htx hx hi hc hdx
    gi_wp2_with (gi_at_call 145; refine (CallsIn.inRound l (callsIn_wide.2 hf)).mono ?_; rintro e W1 ⟨rfl, hb1⟩)
    have hbl1 := hbld.keeps (hb1.keepsAll (fun _ => True)) trivial (fun _ _ _ => trivial)
    have hbs1 := hBS.keeps (hb1.keepsAll (fun _ => True)) trivial trivial trivial
    have hsW := hBW.size
    have hs1 := hb1.size
    have hrep := Tryz.strings_Repeat ⟨#[48]⟩ c W1 (by omega) (by show 1 * c ≤ _; omega)
    clear hf hbld hBS
    have hrl : (Lib.repeatL (⟨#[48]⟩ : ByteArray).data.toList c) = List.replicate c 48 := repeatL_one 48 c
    rw [hrl] at hrep
    gi_wp2_with (gi_at_call 142; refine (CallsIn.inRound l (callsIn_wide.2 hrep)).mono ?_; rintro e W2 ⟨rfl, hb2⟩)
    have hbl2 := hbl1.keeps (hb2.keepsAll (fun _ => True)) trivial (fun _ _ _ => trivial)
    have hbs2 := hbs1.keeps (hb2.keepsAll (fun _ => True)) trivial trivial trivial
    have hs2 := hb2.size
    have hk2 : Keeps (fun i => i < w.heap.size ∨ i = w3.heap.size ∨ i = w3.heap.size + 1 ∨ i = w3.heap.size + 2) W W2 := (hb1.keepsAll _).trans (hb2.keepsAll _)
    have hw3 := writeString_any w.heap.size w.heap.size tx ⟨Array.replicate c 48⟩ W2 hbl2.bld (by rw [← size_len]; simp only [Array.toList_replicate, List.length_replicate]; omega) (by omega)
    simp only [Array.toList_replicate] at hw3
    clear hbl1 hbs1 hb1 hb2 hrep hrl hbl2
    refine (CallsIn.inRound l (callsIn_wide.2 hw3)).mono ?_
    rintro e W3 ⟨rfl, hl3, hb3, ho3⟩
    obtain ⟨hbs3, hk3, hbl3⟩ := hbs2.written (by decide) (by omega) hb3 ho3 hl3
    have hs3 := hb3.size
    have HK3 := Lib.hid (hk2.trans hk3)
    clear hw3 hl3 hb3 ho3 hbs2 hk2 hk3
    have hw4 := writeString_any w.heap.size w.heap.size (tx ++ List.replicate c 48) ⟨dx.toArray⟩ W3 hbl3.bld (by rw [← size_len, List.length_append, List.length_replicate]; show _ + dx.length ≤ _; omega) (by omega)
    gi_wp2_with fail
    refine (CallsIn.inRound l (callsIn_wide.2 hw4)).mono ?_
    rintro e W4 ⟨rfl, hl4, hb4, ho4⟩
    obtain ⟨hbs4, hk4, hbl4⟩ := hbs3.written (by decide) (by omega) hb4 ho4 hl4
    have HK4 := Lib.hid (HK3.out.trans hk4)
    have HB4 : Hid (BldAt w.heap.size w.heap.size (w3.heap.size + 1) (Lib.decDigits (val 1000000000 (xs.drop (L - (k + 1))))) W4) := by
      show BldAt _ _ _ _ _
      rw [HST.out]
      rw [List.append_assoc] at hbl4
      exact hbl4
    have HX4 := Lib.hid hbs4.box
    clear hw4 hl4 hb4 ho4 hbs3 hk4 hbl4 hbs4
    gi_wp2
    refine ⟨HK4.out.mono fun b _ hb => ?_, HB4.out, HX4.out, hBW.trans ⟨HK4.out.os, HK4.out.tape, HK4.out.output, HK4.out.size, fun b hb => HK4.out.block b (by omega) (.inl hb)⟩⟩
    omega
  case done =>
    rintro W ⟨hbld, hbx, hBW⟩ hdef
    rw [Nat.sub_self, List.drop_zero] at hbld
    have HE : Hid (Lib.decDigits (val 1000000000 xs) = Lib.decDigits n) := by show _ = _; rw [← HXS.out, val_limbs (by omega)]
    rw [HE.out] at hbld
    have hS := Tryz.Builder_String_k w.heap.size w.heap.size (Lib.decDigits n) W hbld.bld (decDigits_ne n)
    have hlt := (Array.getElem?_eq_some_iff.1 hdef).1
    gi_wp2_with fail
    refine (callsIn_wide.2 hS).mono ?_
    rintro e W5 ⟨rfl, _, hB5, hO5⟩
    have hdef5 := Lib.hid (hO5 (w3.heap.size + 1) _ hdef (by rw [Ne, Option.some.injEq]; omega) (fun c fz h => by cases h))
    have HB5 := Lib.hid (hBW.trans hB5)
    clear hS hB5 hO5
    gi_wp2
    refine ⟨by simp, .inl ⟨_, _, rfl, run_takeDeferred hdef5.out, ?_⟩⟩
    refine ⟨.string ⟨(Lib.decDigits n).toArray⟩, by simp [results, Tryz.f121, go_sem], rfl, HB5.out.trans ?_⟩
    exact ⟨rfl, rfl, rfl, by simp, fun k hk => World.putObj_heap_other (by omega)⟩
  case stop =>
    rintro c k W hk h hdef
    exact h.elim
end Go.Proofs.YthbpadjhlkdpeaaGreatDoor
/- The library's table that numbers are written with; how it stays. -/
namespace Go.Proofs.YthbpadjhlkdpeaaGreatDoor
open Go.RowKit

def Tabs (w : World) : Prop := Lib.TabIs Tryz.prog w "internal/strconv.uint64pow10" .u64 Lib.pow10Tab
theorem pow10_name : Tryz.prog.globalNamed "internal/strconv.uint64pow10" = some 4 := by kernel_rfl
theorem Tabs.below {w w' : World} {B : Nat} (h : Tabs w) (hb : Below B w w') (hB : w.heap.size ≤ B) : Tabs w' := Joins.tab_stays pow10_name h hb hB
theorem Tabs.cell {w : World} (h : Tabs w) : ∃ v, w.cell? ⟨4, 0, none⟩ = some v := ⟨_, Lib.TabIs.cell h pow10_name 0 (by decide)⟩
theorem Tabs.lt {w : World} (h : Tabs w) : 4 < w.heap.size := by
  obtain ⟨v, hv⟩ := h.cell
  exact World.block_lt_of_cell? _ _ hv
end Go.Proofs.YthbpadjhlkdpeaaGreatDoor
/- Fractions as rational numbers: what their digits are. No program is in sight. -/
namespace Go.Proofs.YthbpadjhlkdpeaaGreatDoor
open Go.Lib

def numD (q : Rat) : List UInt8 := decDigits q.num.toNat
def denD (q : Rat) : List UInt8 := decDigits q.den
/-- The digits fit into a fraction of the program's. -/
def Fits (q : Rat) : Prop := (numD q).length ≤ 600 ∧ (denD q).length ≤ 600
def str (l : List UInt8) : ByteArray := ⟨l.toArray⟩
theorem str_data (l : List UInt8) : (str l).data.toList = l := by simp [str]
theorem str_eq (s : ByteArray) : str s.data.toList = s := by simp [str]
theorem str_inj {l m : List UInt8} (h : str l = str m) : l = m := by rw [← str_data l, h, str_data]
theorem str_size (l : List UInt8) : (str l).size = l.length := by rw [← size_len, str_data]

/-- The strings s and t are the parts of q. -/
structure IsP (q : Rat) (s t : ByteArray) : Prop where
  nn : 0 ≤ q
  num : s = str (numD q)
  den : t = str (denD q)
  fits : Fits q

/-- What Check asks of two strings. -/
def okP (s t : ByteArray) : Bool :=
  natOk s.data.toList && natOk t.data.toList && decide (0 < decVal t.data.toList) && decide (Nat.gcd (decVal s.data.toList) (decVal t.data.toList) = 1)
def ratP (s t : ByteArray) : Rat := mkRat (decVal s.data.toList : Nat) (decVal t.data.toList)

theorem mkRat_coprime {n d : Nat} (hd : 0 < d) (hg : Nat.gcd n d = 1) : (mkRat (n : Nat) d).num = (n : Nat) ∧ (mkRat (n : Nat) d).den = d := by
  have e := Rat.mk_eq_mkRat (n : Nat) d (by omega) (by simpa [Nat.Coprime] using hg)
  rw [← e]
  exact ⟨rfl, rfl⟩

theorem mkRat_nonneg (n d : Nat) : 0 ≤ mkRat (n : Nat) d := by
  rw [Rat.mkRat_eq_div]
  rcases Nat.eq_zero_or_pos d with h | h
  · subst h
    have : ((n : Nat) : Int) / ((0 : Nat) : Rat) = (0 : Rat) := by rw [Rat.div_def]; simp
    grind
  · have h1 : (0 : Rat) < (d : Nat) := Rat.natCast_pos.2 h
    have h2 : (0 : Rat) ≤ ((n : Nat) : Int) := Rat.intCast_nonneg.2 (by omega)
    rw [Rat.div_def]
    exact Rat.mul_nonneg h2 (Rat.le_of_lt (Rat.inv_pos.2 h1))

theorem okP_iff {s t : ByteArray} : okP s t = true ↔ natOk s.data.toList = true ∧ natOk t.data.toList = true ∧ 0 < decVal t.data.toList ∧ Nat.gcd (decVal s.data.toList) (decVal t.data.toList) = 1 := by
  unfold okP
  simp only [Bool.and_eq_true, decide_eq_true_eq]
  exact ⟨fun ⟨⟨⟨a, b⟩, c⟩, d⟩ => ⟨a, b, c, d⟩, fun ⟨a, b, c, d⟩ => ⟨⟨⟨a, b⟩, c⟩, d⟩⟩

theorem isP_of_ok {s t : ByteArray} (h : okP s t = true) : IsP (ratP s t) s t := by
  obtain ⟨h1, h2, h3, h4⟩ := okP_iff.1 h
  obtain ⟨e1, e2⟩ := mkRat_coprime h3 h4
  obtain ⟨c1, l1⟩ := canon_of_nat h1
  obtain ⟨c2, l2⟩ := canon_of_nat h2
  have n1 : numD (ratP s t) = s.data.toList := by
    unfold numD ratP
    rw [e1, Int.toNat_natCast, c1.text]
  have n2 : denD (ratP s t) = t.data.toList := by
    unfold denD ratP
    rw [e2, c2.text]
  exact ⟨mkRat_nonneg _ _, by rw [n1, str_eq], by rw [n2, str_eq], by rw [n1]; exact l1, by rw [n2]; exact l2⟩

theorem num_toNat {q : Rat} (h : 0 ≤ q) : ((q.num.toNat : Nat) : Int) = q.num := Int.toNat_of_nonneg (Rat.num_nonneg.2 h)

theorem IsP.vals {q : Rat} {s t : ByteArray} (h : IsP q s t) : decVal s.data.toList = q.num.toNat ∧ decVal t.data.toList = q.den := by
  rw [h.num, h.den, str_data, str_data]
  exact ⟨decVal_decDigits _, decVal_decDigits _⟩

theorem IsP.ok {q : Rat} {s t : ByteArray} (h : IsP q s t) : okP s t = true := by
  obtain ⟨e1, e2⟩ := h.vals
  refine okP_iff.2 ⟨?_, ?_, ?_, ?_⟩
  · rw [h.num, str_data]; exact natOk_of_canon (canon_decDigits _) h.fits.1
  · rw [h.den, str_data]; exact natOk_of_canon (canon_decDigits _) h.fits.2
  · rw [e2]; exact q.den_pos
  · rw [e1, e2]
    have h1 : Nat.gcd q.num.natAbs q.den = 1 := q.reduced
    have h2 := num_toNat h.nn
    have h3 : q.num.natAbs = q.num.toNat := by omega
    rwa [h3] at h1

theorem IsP.rat {q : Rat} {s t : ByteArray} (h : IsP q s t) : ratP s t = q := by
  obtain ⟨e1, e2⟩ := h.vals
  unfold ratP
  rw [e1, e2, num_toNat h.nn, Rat.mkRat_self]

theorem numD_inj {a b : Rat} (ha : 0 ≤ a) (hb : 0 ≤ b) (h1 : numD a = numD b) (h2 : denD a = denD b) : a = b := by
  have e1 := decDigits_inj h1
  have e2 := decDigits_inj h2
  refine Rat.ext ?_ e2
  rw [← num_toNat ha, ← num_toNat hb, e1]

theorem IsP.inj {a b : Rat} {s t u v : ByteArray} (ha : IsP a s t) (hb : IsP b u v) (h1 : s = u) (h2 : t = v) : a = b := by
  refine numD_inj ha.nn hb.nn (str_inj ?_) (str_inj ?_)
  · rw [← ha.num, ← hb.num, h1]
  · rw [← ha.den, ← hb.den, h2]
theorem IsP.same {a b : Rat} {s t u v : ByteArray} (ha : IsP a s t) (hb : IsP b u v) (h : a = b) : s = u ∧ t = v := by
  subst h
  exact ⟨ha.num.trans hb.num.symm, ha.den.trans hb.den.symm⟩
theorem IsP.eq_iff {a b : Rat} {s t u v : ByteArray} (ha : IsP a s t) (hb : IsP b u v) : (s = u ∧ t = v) ↔ a = b := ⟨fun h => ha.inj hb h.1 h.2, ha.same hb⟩

/-- What a reckoning answers: the fraction q, or that it does not fit. -/
def Ans (q : Rat) (s t : ByteArray) (e : Int) : Prop := (IsP q s t ∧ e = 0) ∨ (¬ Fits q ∧ s = str [] ∧ t = str [] ∧ e = 4)

theorem Ans.fit {q : Rat} {s t : ByteArray} {e : Int} (h : Ans q s t e) (hf : Fits q) : IsP q s t ∧ e = 0 := by
  rcases h with h | h
  · exact h
  · exact absurd hf h.1
theorem Ans.zero {q : Rat} {s t : ByteArray} {e : Int} (h : Ans q s t e) (he : e = 0) : IsP q s t := by
  rcases h with h | h
  · exact h.1
  · have := h.2.2.2; omega
theorem Ans.det {q : Rat} {s t u v : ByteArray} {e f : Int} (h : Ans q s t e) (k : Ans q u v f) : s = u ∧ t = v ∧ e = f := by
  rcases h with ⟨h, rfl⟩ | ⟨h1, h2, h3, rfl⟩
  · rcases k with ⟨k, rfl⟩ | ⟨k1, _⟩
    · exact ⟨(h.same k rfl).1, (h.same k rfl).2, rfl⟩
    · exact absurd h.fits k1
  · rcases k with ⟨k, rfl⟩ | ⟨k1, k2, k3, rfl⟩
    · exact absurd k.fits h1
    · exact ⟨h2.trans k2.symm, h3.trans k3.symm, rfl⟩

/-- The digits of a quotient of natural numbers. -/
theorem digits_mkRat (n : Nat) {d : Nat} (hd : 0 < d) : numD (mkRat (n : Nat) d) = decDigits (n / Nat.gcd n d) ∧ denD (mkRat (n : Nat) d) = decDigits (d / Nat.gcd n d) := by
  have h0 : d ≠ 0 := by omega
  unfold numD denD
  rw [Rat.num_mkRat, Rat.den_mkRat, if_neg h0, if_neg h0, Int.natAbs_natCast, Nat.gcd_comm d n]
  refine ⟨?_, rfl⟩
  congr 1

theorem fits_mkRat {n d k : Nat} (hd : 0 < d) (hn : n < 10 ^ k) (hd' : d < 10 ^ k) (hk0 : 0 < k) (hk : k ≤ 600) : Fits (mkRat (n : Nat) d) := by
  obtain ⟨e1, e2⟩ := digits_mkRat n hd
  unfold Fits
  rw [e1, e2]
  exact ⟨Nat.le_trans (decDigits_length_le hk0 (Nat.lt_of_le_of_lt (Nat.div_le_self _ _) hn)) hk, Nat.le_trans (decDigits_length_le hk0 (Nat.lt_of_le_of_lt (Nat.div_le_self _ _) hd')) hk⟩

theorem IsP.lt {q : Rat} {s t : ByteArray} (h : IsP q s t) : q.num.toNat < 10 ^ s.size ∧ q.den < 10 ^ t.size := by
  rw [h.num, h.den, str_size, str_size]
  exact ⟨lt_pow_length _, lt_pow_length _⟩

/-- The four ways to reckon, as quotients of natural numbers. -/
theorem add_mk {a b : Rat} (ha : 0 ≤ a) (hb : 0 ≤ b) : a + b = mkRat ((a.num.toNat * b.den + b.num.toNat * a.den : Nat) : Int) (a.den * b.den) := by
  rw [Rat.add_def']
  congr 1
  rw [← num_toNat ha, ← num_toNat hb]
  simp
theorem mul_mk {a b : Rat} (ha : 0 ≤ a) (hb : 0 ≤ b) : a * b = mkRat ((a.num.toNat * b.num.toNat : Nat) : Int) (a.den * b.den) := by
  rw [Rat.mul_def']
  congr 1
  rw [← num_toNat ha, ← num_toNat hb]
  simp
theorem le_nat {a b : Rat} (ha : 0 ≤ a) (hb : 0 ≤ b) : a ≤ b ↔ a.num.toNat * b.den ≤ b.num.toNat * a.den := by
  rw [Rat.le_iff, ← num_toNat ha, ← num_toNat hb]
  simp only [Int.toNat_natCast]
  exact ⟨fun h => by exact_mod_cast h, fun h => by exact_mod_cast h⟩
theorem lt_nat {a b : Rat} (ha : 0 ≤ a) (hb : 0 ≤ b) : a < b ↔ a.num.toNat * b.den < b.num.toNat * a.den := by
  rw [← Rat.not_le, le_nat hb ha]; omega
theorem eq_nat {a b : Rat} (ha : 0 ≤ a) (hb : 0 ≤ b) : a = b ↔ a.num.toNat * b.den = b.num.toNat * a.den := by
  constructor
  · rintro rfl; rfl
  · intro h
    exact Rat.le_antisymm ((le_nat ha hb).2 (by omega)) ((le_nat hb ha).2 (by omega))
theorem sub_mk {a b : Rat} (ha : 0 ≤ a) (hb : 0 ≤ b) (h : b ≤ a) : a - b = mkRat ((a.num.toNat * b.den - b.num.toNat * a.den : Nat) : Int) (a.den * b.den) := by
  have h1 := (le_nat hb ha).1 h
  rw [Rat.sub_def']
  congr 1
  rw [← num_toNat ha, ← num_toNat hb]
  simp only [Int.toNat_natCast]
  rw [Int.ofNat_sub h1]
  simp
theorem div_mk {a b : Rat} (ha : 0 ≤ a) (hb : 0 < b) : a / b = mkRat ((a.num.toNat * b.den : Nat) : Int) (a.den * b.num.toNat) := by
  have hb' := Rat.le_of_lt hb
  have h0 : 0 < b.num.toNat := by
    rcases Nat.eq_zero_or_pos b.num.toNat with h | h
    · exfalso
      have h2 := num_toNat hb'
      rw [h] at h2
      have h3 := Rat.num_eq_zero.1 h2.symm
      rw [h3] at hb
      exact absurd hb (by decide)
    · exact h
  have hA : a = mkRat ((a.num.toNat : Nat) : Int) a.den := by rw [num_toNat ha, Rat.mkRat_self]
  have hB : b = mkRat ((b.num.toNat : Nat) : Int) b.den := by rw [num_toNat hb', Rat.mkRat_self]
  generalize a.num.toNat = n at *
  generalize b.num.toNat = m at *
  have hda := a.den_pos
  have hdb := b.den_pos
  generalize a.den = d at *
  generalize b.den = f at *
  subst hA; subst hB
  rw [Rat.mkRat_eq_div, Rat.mkRat_eq_div, Rat.mkRat_eq_div]
  have h1 : (0 : Rat) < (d : Nat) := Rat.natCast_pos.2 hda
  have h2 : (0 : Rat) < (f : Nat) := Rat.natCast_pos.2 hdb
  have h3 : (0 : Rat) < (m : Nat) := Rat.natCast_pos.2 h0
  simp only [Rat.intCast_natCast, Rat.natCast_mul]
  generalize ((d : Nat) : Rat) = x at *
  generalize ((f : Nat) : Rat) = y at *
  generalize ((m : Nat) : Rat) = z at *
  generalize ((n : Nat) : Rat) = u at *
  have hx : x ≠ 0 := by grind
  have hy : y ≠ 0 := by grind
  have hz : z ≠ 0 := by grind
  grind
end Go.Proofs.YthbpadjhlkdpeaaGreatDoor
/- weight's right, plain, whole, CheckNat: what strings are numbers. -/
namespace Go.Proofs.YthbpadjhlkdpeaaGreatDoor
open Go.RowKit Go.Shelf

def digitBytes : ByteArray := ⟨#[48, 49, 50, 51, 52, 53, 54, 55, 56, 57]⟩

theorem digits_contains (c : UInt8) : digitBytes.data.toList.contains c = isDig c := by
  have h : ∀ n : Fin 256, ([48, 49, 50, 51, 52, 53, 54, 55, 56, 57] : List UInt8).contains (UInt8.ofNat n.val) = isDig (UInt8.ofNat n.val) := by decide +kernel
  have := h ⟨c.toNat, c.toNat_lt⟩
  simpa [digitBytes] using this

theorem dropWhile_nil {α : Type} (p : α → Bool) : ∀ l : List α, l.dropWhile p = [] ↔ l.all p = true
  | [] => by simp
  | x :: l => by
    rw [List.dropWhile_cons, List.all_cons]
    cases h : p x
    · simp
    · simp [dropWhile_nil p l]

theorem trimS_nil (l : List UInt8) : Lib.trimS l digitBytes.data.toList = [] ↔ l.all isDig = true := by
  have e : (fun c => digitBytes.data.toList.contains c) = isDig := funext digits_contains
  unfold Lib.trimS Lib.trimLeftS Lib.trimRightS
  rw [dropWhile_nil, e]
  constructor
  · intro h
    have h1 := h
    rw [List.all_reverse] at h1
    rcases hd : l.reverse.dropWhile isDig with _ | ⟨x, r⟩
    · have := (dropWhile_nil isDig l.reverse).1 hd
      rwa [List.all_reverse] at this
    · exfalso
      have h2 := List.head?_dropWhile_not isDig l.reverse
      rw [hd] at h2 h1
      simp at h2 h1
      rw [h1.1] at h2
      exact absurd h2 (by simp)
  · intro h
    have h1 : l.reverse.dropWhile isDig = [] := (dropWhile_nil _ _).2 (by rw [List.all_reverse]; exact h)
    rw [h1]; rfl

/-- What one truth answers. -/
def BoolPost (w : World) (b : Bool) (e : Ending) (w' : World) : Prop := e = .returned (.bool b) ∧ Below w.heap.size w w'

theorem trim_digits (s : ByteArray) (w : World) (hs : s.size ≤ 9223372036854775807) :
    Calls Tryz.prog 129 #[.string s, .string digitBytes] w fun e w' => (∃ t : ByteArray, e = .returned (.string t) ∧ (t.data.toList = [] ↔ s.data.toList.all isDig = true)) ∧ Below w.heap.size w w' := by
  refine (Any.strings_Trim_laid Tryz.lays160 (by kernel_rfl) s digitBytes w hs (by decide) (ascii_of_all (by decide +kernel))).mono ?_
  rintro e w' ⟨rfl, hb⟩
  exact ⟨⟨_, rfl, by rw [← trimS_nil]⟩, hb⟩

theorem plainOk_nil {s : ByteArray} (h : s.toList = []) : plainOk s.data.toList = false := by
  rw [ByteArray.toList_eq] at h
  rw [h]; rfl
theorem plainOk_ne {s t : ByteArray} (h : ¬ s.toList = []) (ht : t.data.toList = [] ↔ s.data.toList.all isDig = true) : t.toList.isEmpty = plainOk s.data.toList := by
  rw [ByteArray.toList_eq] at h ⊢
  unfold plainOk
  rw [decide_eq_true h, Bool.true_and]
  cases h2 : s.data.toList.all isDig
  · rw [h2] at ht; simpa using ht
  · rw [h2] at ht; simpa using ht

set_option maxRecDepth 100000 in
set_option maxHeartbeats 2000000 in
theorem plain_any (s : ByteArray) (w : World) (hs : s.size ≤ 1000000) : Calls Tryz.prog 104 #[.string s] w (BoolPost w (plainOk s.data.toList)) := by
  have hT := trim_digits s w (by omega)
  by_cases h0 : s.toList = []
  · have HP := Lib.hid (plainOk_nil h0)
    clear hT
    go_enter Tryz.func104, Tryz.ntmps104
    go_wp2
    go_ret
    refine ⟨?_, Below.refl _ _⟩
    rw [HP.out]; rfl
  · have HP : Hid (∀ t : ByteArray, (t.data.toList = [] ↔ s.data.toList.all isDig = true) → t.toList.isEmpty = plainOk s.data.toList) := fun t ht => plainOk_ne h0 ht
    go_enter Tryz.func104, Tryz.ntmps104
    go_wp2_with fail
    refine hT.mono ?_
    rintro e w1 ⟨⟨t, rfl, ht⟩, hB⟩
    have he := HP.out t ht
    clear hT ht
    have HB := Lib.hid hB
    clear hB
    go_wp2
    go_ret
    refine ⟨?_, HB.out⟩
    have h1 : s.toList.isEmpty = false := List.isEmpty_eq_false_iff.2 h0
    show Ending.returned (Value.bool (!s.toList.isEmpty && plainOk s.data.toList)) = _
    rw [h1]; rfl

theorem isEmpty_all {s t : ByteArray} (ht : t.data.toList = [] ↔ s.data.toList.all isDig = true) : t.toList.isEmpty = s.data.toList.all isDig := by
  rw [ByteArray.toList_eq]
  cases h2 : s.data.toList.all isDig
  · rw [h2] at ht; simpa using ht
  · rw [h2] at ht; simpa using ht

theorem head_is (s : ByteArray) (h : 0 < s.size) : s.data.toList.head? = some 48 ↔ (s[0].toNat : Int) = 48 := by
  have h1 : s.data.toList.head? = some s[0] := by
    have : 0 < s.data.toList.length := by rw [size_len]; exact h
    rw [List.head?_eq_getElem?, List.getElem?_eq_getElem this]
    rfl
  rw [h1]
  constructor
  · intro h2
    have := Option.some.inj h2
    rw [this]; rfl
  · intro h2
    congr 1
    apply UInt8.toNat_inj.1
    show s[0].toNat = 48
    omega

theorem natOk_size {s : ByteArray} (h : s.size = 0 ∨ 600 < s.size) : natOk s.data.toList = false := by
  rw [Bool.eq_false_iff]
  intro hc
  have ⟨h1, h2⟩ := canon_of_nat hc
  rw [size_len] at h2
  have : s.data.toList.length ≠ 0 := fun h => h1.ne (List.eq_nil_of_length_eq_zero h)
  rw [size_len] at this
  omega
theorem natOk_head {s : ByteArray} (h : 1 < s.size) (h2 : s.data.toList.head? = some 48) : natOk s.data.toList = false := by
  rw [Bool.eq_false_iff]
  intro hc
  exact (canon_of_nat hc).1.head (by rw [size_len]; exact h) h2
theorem natOk_else {s : ByteArray} (h0 : s.size ≠ 0) (h1 : s.size ≤ 600) (h2 : 1 < s.size → s.data.toList.head? ≠ some 48) : natOk s.data.toList = s.data.toList.all isDig := by
  have h3 : s.data.toList ≠ [] := fun h => h0 (by rw [← size_len, h]; rfl)
  unfold natOk wholeOk plainOk
  rw [size_len, decide_eq_true h3, decide_eq_true h1, decide_eq_true h2]
  simp

set_option maxRecDepth 100000 in
set_option maxHeartbeats 2000000 in
theorem right_any (s : ByteArray) (w : World) (hs : s.size ≤ 1000000) : Calls Tryz.prog 85 #[.string s] w (BoolPost w (natOk s.data.toList)) := by
  have hT := trim_digits s w (by omega)
  by_cases h0 : s.size = 0
  · have hb : ((s.size : Int) == 0) = true := by simp [h0]
    have HP := Lib.hid (natOk_size (.inl h0))
    clear hT
    go_enter Tryz.func85, Tryz.ntmps85
    go_wp2
    go_ret
    refine ⟨?_, Below.refl _ _⟩
    rw [HP.out]; rfl
  · by_cases h1 : 600 < s.size
    · have hb : ((s.size : Int) == 0) = false := by simp [h0]
      have hb2 : (600 : Int) < s.size := by omega
      have HP := Lib.hid (natOk_size (.inr h1))
      clear hT h0
      go_enter Tryz.func85, Tryz.ntmps85
      go_wp2
      go_ret
      refine ⟨?_, Below.refl _ _⟩
      rw [HP.out]; rfl
    · have hb : ((s.size : Int) == 0) = false := by simp [h0]
      have hb2 : ¬ (600 : Int) < s.size := by omega
      by_cases h2 : 1 < s.size
      · have hb3 : (1 : Int) < s.size := by omega
        by_cases h4 : (s[0].toNat : Int) = 48
        · have hb4 : ((s[0].toNat : Int) == 48) = true := by simpa using h4
          have HP := Lib.hid (natOk_head h2 ((head_is s (by omega)).2 h4))
          clear h4 hT
          go_enter Tryz.func85, Tryz.ntmps85
          go_wp2
          go_ret
          refine ⟨?_, Below.refl _ _⟩
          rw [HP.out, ← hb4]; rfl
        · have hb4 : ((s[0].toNat : Int) == 48) = false := by simpa using h4
          have HP := Lib.hid (natOk_else h0 (by omega) (fun _ h => h4 ((head_is s (by omega)).1 h)))
          clear h4
          go_enter Tryz.func85, Tryz.ntmps85
          go_wp2_with fail
          refine hT.mono ?_
          rintro e w1 ⟨⟨t, rfl, ht⟩, hB⟩
          have HE : Hid (t.toList.isEmpty = natOk s.data.toList) := by show _ = _; rw [HP.out]; exact isEmpty_all ht
          have HB := Lib.hid hB
          clear hB hT ht
          go_wp2
          go_ret
          refine ⟨?_, HB.out⟩
          rw [← HE.out]; rfl
      · have hb3 : ¬ (1 : Int) < s.size := by omega
        have HP := Lib.hid (natOk_else h0 (by omega) (fun h => absurd h h2))
        go_enter Tryz.func85, Tryz.ntmps85
        go_wp2_with fail
        refine hT.mono ?_
        rintro e w1 ⟨⟨t, rfl, ht⟩, hB⟩
        have HE : Hid (t.toList.isEmpty = natOk s.data.toList) := by show _ = _; rw [HP.out]; exact isEmpty_all ht
        have HB := Lib.hid hB
        clear hB hT ht
        go_wp2
        go_ret
        refine ⟨?_, HB.out⟩
        rw [← HE.out]; rfl

theorem whole_not {s : ByteArray} (h : plainOk s.data.toList = false) : wholeOk s.data.toList = false := by unfold wholeOk; rw [h]; rfl
theorem whole_one {s : ByteArray} (h : plainOk s.data.toList = true) (h1 : s.size = 1) : wholeOk s.data.toList = true := by
  unfold wholeOk; rw [h, size_len, h1]; rfl
theorem plain_pos {s : ByteArray} (h : plainOk s.data.toList = true) : 0 < s.size := by
  unfold plainOk at h
  simp only [Bool.and_eq_true, decide_eq_true_eq] at h
  rw [← size_len]
  rcases Nat.eq_zero_or_pos s.data.toList.length with h0 | h0
  · exact absurd (List.eq_nil_of_length_eq_zero h0) h.1
  · exact h0
theorem whole_head {s : ByteArray} (h : plainOk s.data.toList = true) (h1 : s.size ≠ 1) : wholeOk s.data.toList = !((s[0]'(plain_pos h)).toNat == (48 : Int)) := by
  have hp := plain_pos h
  unfold wholeOk
  rw [h, Bool.true_and, size_len]
  cases h2 : (((s[0]'hp).toNat : Int) == 48)
  · have h3 : ¬ s.data.toList.head? = some 48 := fun hc => by
      have := (head_is s hp).1 hc
      rw [this] at h2; exact absurd h2 (by decide)
    simp [h3]
  · have h3 : s.data.toList.head? = some 48 := (head_is s hp).2 (by simpa using h2)
    have h4 : 1 < s.size := by omega
    simp [h3, h4]

set_option maxRecDepth 100000 in
set_option maxHeartbeats 2000000 in
theorem whole_any (s : ByteArray) (w : World) (hs : s.size ≤ 1000000) : Calls Tryz.prog 103 #[.string s] w (BoolPost w (wholeOk s.data.toList)) := by
  have hT := plain_any s w hs
  cases hp : plainOk s.data.toList
  · have HP := Lib.hid (whole_not hp)
    rw [hp] at hT
    clear hp
    go_enter Tryz.func103, Tryz.ntmps103
    go_wp2_with fail
    refine hT.mono ?_
    rintro e w1 ⟨rfl, hB⟩
    have HB := Lib.hid hB
    clear hB hT
    go_wp2
    go_ret
    refine ⟨?_, HB.out⟩
    rw [HP.out]; rfl
  · have hpos := plain_pos hp
    by_cases h1 : s.size = 1
    · have hb : ((s.size : Int) == 1) = true := by simp [h1]
      have HP := Lib.hid (whole_one hp h1)
      rw [hp] at hT
      clear hp h1
      go_enter Tryz.func103, Tryz.ntmps103
      go_wp2_with fail
      refine hT.mono ?_
      rintro e w1 ⟨rfl, hB⟩
      have HB := Lib.hid hB
      clear hB hT
      go_wp2
      go_ret
      refine ⟨?_, HB.out⟩
      rw [HP.out]; rfl
    · have hb : ((s.size : Int) == 1) = false := by simp; omega
      have HP : Hid (wholeOk s.data.toList = !((s[0]'hpos).toNat == (48 : Int))) := whole_head hp h1
      rw [hp] at hT
      clear hp h1
      go_enter Tryz.func103, Tryz.ntmps103
      go_wp2_with fail
      refine hT.mono ?_
      rintro e w1 ⟨rfl, hB⟩
      have HB := Lib.hid hB
      clear hB hT
      go_wp2
      go_ret
      refine ⟨?_, HB.out⟩
      rw [HP.out]; rfl

/-- What an error's number answers. -/
def IntPost (w : World) (n : Int) (e : Ending) (w' : World) : Prop := e = .returned (.int .i64 n) ∧ Below w.heap.size w w'

set_option maxRecDepth 100000 in
theorem checkNat_any (s : ByteArray) (w : World) (hs : s.size ≤ 1000000) : Calls Tryz.prog 51 #[.string s] w (IntPost w (if natOk s.data.toList then 0 else 2)) := by
  have hT := right_any s w hs
  cases hp : natOk s.data.toList
  all_goals
    rw [hp] at hT
    clear hp
    go_enter Tryz.func51, Tryz.ntmps51
    go_wp2_with fail
    refine hT.mono ?_
    rintro e w1 ⟨rfl, hB⟩
    have HB := Lib.hid hB
    clear hB hT
    go_wp2
    go_ret
    exact ⟨rfl, HB.out⟩
end Go.Proofs.YthbpadjhlkdpeaaGreatDoor
