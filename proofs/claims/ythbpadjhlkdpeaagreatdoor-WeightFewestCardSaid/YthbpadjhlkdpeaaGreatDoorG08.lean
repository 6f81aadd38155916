/- The parts Texts, Of, Boxes, Taken, Part, Lim, Check of a proof, put together by program (merge.py). -/
import Derived.Test.YthbpadjhlkdpeaaGreatDoorG07
import Derived.Test.YthbpadjhlkdpeaaGreatDoorG03
import Derived.Test.YthbpadjhlkdpeaaGreatDoorG06
import Derived.OwnWalkIn
import Derived.Test.YthbpadjhlkdpeaaGreatDoorG02
import Derived.Lib.SmallJoins
import Derived.Deep.RegionHeld3
import Derived.RegionTactic
import Derived.Test.YthbpadjhlkdpeaaGreatDoorG01
/- weight's number.text, any number; digits. -/
namespace Go.Proofs.YthbpadjhlkdpeaaGreatDoor
open Go.RowKit Go.Shelf

/-- What one text answers. -/
def TextPost (w : World) (l : List UInt8) (e : Ending) (w' : World) : Prop := ∃ s, e = .returned (.string s) ∧ s = str l ∧ Below w.heap.size w w'

theorem Num.form {w : World} {v : Value} {n : Nat} (h : Num w v n) : ∃ p c, v = .slice p (limbs 1000000000 n).length c := by
  obtain ⟨p, c, rfl, _⟩ := h
  exact ⟨p, c, rfl⟩
theorem Num.form' {w : World} {v : Value} {n : Nat} (h : Num w v n) : ∃ p l c, v = .slice p l c := by
  obtain ⟨p, c, rfl, _⟩ := h
  exact ⟨p, _, c, rfl⟩

set_option maxRecDepth 100000 in
theorem text_zero (p : Option Addr) (c : Nat) (w : World) : Calls Tryz.prog 121 #[.slice p 0 c] w (TextPost w (Lib.decDigits 0)) := by
  go_enter Tryz.func121, Tryz.ntmps121
  go_wp2
  go_ret
  exact ⟨_, rfl, by rw [decDigits_zero]; rfl, Below.refl _ _⟩

theorem text_any {v : Value} {n : Nat} {w : World} (h : Num w v n) (hl : (limbs 1000000000 n).length ≤ 100000) (hT : Tabs w) :
    Calls Tryz.prog 121 #[v] w (TextPost w (Lib.decDigits n)) := by
  obtain ⟨p, c, rfl, h1, h2, h3⟩ := h
  rcases Nat.eq_zero_or_pos n with h0 | h0
  · subst h0
    have e0 : (limbs 1000000000 0).length = 0 := by rw [limbs_zero]; rfl
    rw [e0]
    exact text_zero p c w
  · have hp := (limbs_length_pos (B := 1000000000) (by omega)).2 h0
    obtain ⟨L, hL⟩ : ∃ L, (limbs 1000000000 n).length = L + 1 := ⟨_, (Nat.sub_add_cancel hp).symm⟩
    obtain ⟨b, off, rfl, hb, ha⟩ := h3 (List.ne_nil_of_length_pos hp)
    rw [hL] at h1 ⊢
    refine (text_long b off c L _ n hL rfl hl (by omega) w hb ha hT (fun w' hw => hT.below hw (Nat.le_refl _))).mono ?_
    rintro e w' ⟨rfl, hB⟩
    exact ⟨_, rfl, rfl, hB⟩

set_option maxRecDepth 100000 in
theorem digits_any {v : Value} {n : Nat} {w : World} (h : Num w v n) (hl : (limbs 1000000000 n).length ≤ 100000) (hT : Tabs w) :
    Calls Tryz.prog 105 #[v] w (IntPost w ((Lib.decDigits n).length : Nat)) := by
  have ht := text_any h hl hT
  go_enter Tryz.func105, Tryz.ntmps105
  go_wp2_with fail
  refine ht.mono ?_
  rintro e w' ⟨s, rfl, hs, hB⟩
  have HS : Hid (s.size = (Lib.decDigits n).length) := by show _ = _; rw [hs, str_size]
  have HB := Lib.hid hB
  clear hB hs ht h hT hl
  go_wp2
  go_ret
  refine ⟨?_, HB.out⟩
  rw [← HS.out]; rfl
end Go.Proofs.YthbpadjhlkdpeaaGreatDoor
/- weight's of: the number of some digits. -/
namespace Go.Proofs.YthbpadjhlkdpeaaGreatDoor
open Go.RowKit Go.Shelf
attribute [local go_sem] Oper.semAt_some

theorem own_keeps {S : Nat → Prop} {w w' : World} {base : Nat} {e : TypeId} {size : Nat} {v : Value} {n : Nat} {xs : List Value} (h : w.ownsRow base e size v n xs) (hk : Keeps S w w') (hS : ∀ g, base ≤ g → S g) : w'.ownsRow base e size v n xs := by
  obtain ⟨h1, h2⟩ := h
  refine ⟨h1, ?_⟩
  rcases h2 with h2 | ⟨g, cap, cur, hv, hb, hg, hr⟩
  · exact .inl h2
  · refine .inr ⟨g, cap, cur, hv, hb, ?_, hr⟩
    rw [hk.block g (Array.getElem?_eq_some_iff.1 hg).1 (hS g hb)]; exact hg
theorem own_block {w : World} {base : Nat} {e : TypeId} {size : Nat} {v : Value} {n : Nat} {xs : List Value} (h : w.ownsRow base e size v n xs) : ∀ r, v.ownBlock = some r → base ≤ r := by
  rcases h.2 with ⟨rfl, _⟩ | ⟨g, cap, cur, rfl, hb, _⟩
  · intro r hr; cases hr
  · intro r hr; have := Option.some.inj hr; subst this; exact hb

def groupCells (s : ByteArray) (k : Nat) : List Value := ((List.range k).map (gval s.data.toList)).map fun x : Nat => Value.int .u64 (x : Nat)

set_option maxRecDepth 100000 in
set_option maxHeartbeats 4000000 in
theorem appendSeq_groups (Bs : Nat) (s : ByteArray) (hl : s.size ≤ 1000000) (hd : ∀ c ∈ s.data.toList, isDig c = true) (w : World)
    (hBs : w.cell? ⟨Bs, 0, none⟩ = some (.string s)) (hF : w.frozen? ⟨Bs, 0, none⟩ = false) :
    Calls Tryz.prog 161 #[.slice none 0 0, .func (.func 162) #[] #[.pointer (some ⟨Bs, 0, none⟩)]] w fun e w' =>
      ∃ v, e = .returned v ∧ w'.ownsRow w.heap.size 113 1 v (gcount s.data.toList) (groupCells s (gcount s.data.toList)) ∧ Keeps (fun b => b < w.heap.size ∧ b ≠ Bs) w w' := by
  obtain ⟨i0, hi, hz0, hz1, hz2⟩ := info_parts info_u64
  have hBl := World.block_lt_of_cell? _ _ hBs
  have hfn : ∀ k, Fence.wide.fn k := fun _ => trivial
  refine (callsIn_wide (n := 9)).1 ?_
  refine callsIn_of_wp_marks Tryz.func161 rfl trivial ?_ rfl
  simp only [Tryz.ntmps161, List.size_toArray, List.length_cons, List.length_nil, Nat.reduceAdd, Nat.reduceSub, Array.replicate_succ, Array.replicate_zero, List.push_toArray, List.append_toArray, List.nil_append, List.cons_append]
  gi_wp2
  obtain ⟨w3, hw3⟩ : ∃ w3, w.alloc (.cells #[.slice none 0 0] 91) = w3 := ⟨_, rfl⟩
  rw [hw3]
  have hD : w3.heap.size = w.heap.size + 1 := by rw [← hw3]; simp
  have HK3 : Hid (∀ S : Nat → Prop, Keeps S w w3) := fun S => by rw [← hw3]; exact (Keeps.refl S w).alloc _
  have HV3 : Hid (w3.cell? ⟨w.heap.size, 0, none⟩ = some (.slice none 0 0) ∧ w3.frozen? ⟨w.heap.size, 0, none⟩ = false) := by rw [← hw3]; exact ⟨cell_new _ _ _ _ rfl, frozen_new _ _ _ _ rfl⟩
  refine range_wp (w.heap.size + 1) hD (gf := 162) (lb := #[.pointer (some ⟨Bs, 0, none⟩)])
    (f := fun k => #[.int .u64 (gval s.data.toList k : Nat)]) (N := gcount s.data.toList) (S := fun b => b = Bs) (T := fun b => b ≠ Bs)
    rfl (enters_of Tryz.func162 (by kernel_rfl) rfl) (fun _ => rfl) ?iter (fun b h => by omega) ⟨by omega, by omega⟩
    (fun k W => (∃ v, W.cell? ⟨w.heap.size, 0, none⟩ = some v ∧ W.frozen? ⟨w.heap.size, 0, none⟩ = false ∧ W.ownsRow (w.heap.size + 3) 113 1 v k (groupCells s k)) ∧ Keeps (fun b => b < w.heap.size ∧ b ≠ Bs) w W)
    (fun _ _ _ => False)
    (fun k W1 W2 h hk => ?ci)
    (fun c k W1 W2 h hk => h.elim) ⟨⟨_, HV3.out.1, HV3.out.2, ⟨by simp [groupCells], .inl ⟨rfl, rfl⟩⟩⟩, HK3.out _⟩ ?a1 ?assign ?body ?done ?stop
  case ci =>
    obtain ⟨⟨v, h1, h2, h3⟩, h4⟩ := h
    refine ⟨⟨v, hk.cellAt h1 (by simp; omega), ?_, own_keeps h3 hk (fun g hg => by simp; omega)⟩, h4.trans (hk.mono fun b hb1 hb2 => by simp; omega)⟩
    rw [hk.frozen (World.block_lt_of_cell? _ _ h1) (by simp; omega)]; exact h2
  case iter =>
    exact groups_iter Bs _ s hl hd w3 rfl ((HK3.out (fun _ => True)).cellAt hBs trivial) (by rw [(HK3.out (fun _ => True)).frozen hBl trivial]; exact hF)
  case assign =>
    intro l k W K hK
    gi_wp2
    exact hK
  case body =>
    rintro l k W hk ⟨⟨v, hc, hf, hown⟩, HK⟩ hW
    have HO := Lib.hid hown
    have HKh := Lib.hid HK
    obtain ⟨x, hx⟩ : ∃ x, gval s.data.toList k = x := ⟨_, rfl⟩
    rw [hx]
    have HX := Lib.hid hx
    clear HK hx
    have hkl : k ≤ 1000000 := by unfold gcount at hk; rw [size_len] at hk; omega
    have hm1 : k + 1 ≤ maxLen := by unfold maxLen; omega
    have hm2 : (k + 1) * 8 ≤ 140737488355328 := by omega
    have hm3 : w.heap.size + 3 ≤ (W.alloc (.cells #[.int .u64 (x : Nat)] 113)).heap.size := by simp; omega
    have HVB := Lib.hid (own_block hown)
    have hownA := hown.alloc (.cells #[.int .u64 (x : Nat)] 113)
    gi_wp2_with (gi_at_builtin; go_loud (refine wpListIn_append_own _ rfl (.tmp 8) (.tmp 10) 91 rfl (w.heap.size + 3) 113 i0 (.int .u64 0) 1 8 Tryz.underlying91 hi hz0 hz1 hz2 rfl (by decide) _ k _ rfl hownA ⟨W.heap.size, 0, none⟩ 1 1 [.int .u64 (x : Nat)] rfl rfl (cell_one_new _ _ _) (by simp [Value.oneCell']) hm1 hm2 hm3 ?_); intro v' w4 hown4 hgrow4 hnil4; obtain ⟨g4, cap4, rfl, hgb4, hgl4⟩ := hown4.form (by omega); have hk4 : Keeps (fun b => b < w.heap.size + 3) W w4 := ((Keeps.refl _ W).alloc _).grown hgrow4 (fun r hr => by have := HVB.out r hr; omega); go_loud (have hc4 := hk4.cellAt hc (by simp <;> omega); have hf4 := (hk4.frozen (World.block_lt_of_cell? _ _ hc) (by simp <;> omega)).trans hf; clear hgrow4 hnil4 hc hf))
    have hkk : Keeps (fun b => b < w.heap.size) W (w4.setCell ⟨w.heap.size, 0, none⟩ (.slice (some ⟨g4, 0, none⟩) (k + 1) cap4)) :=
      (hk4.mono (fun b _ hb => by omega)).setCell (by simp) _
    refine ⟨(hk4.mono (fun b _ hb => ?_)).setCell (by simp <;> omega) _, ⟨_, World.cell?_setCell_same' _ _ _ (by rw [hc4]; rfl), by rw [World.frozen?_setCell]; exact hf4, ?_⟩, HKh.out.trans (hkk.mono fun b _ hb => hb.1)⟩
    · rcases hb with rfl | rfl | rfl <;> omega
    · have h5 : groupCells s (k + 1) = groupCells s k ++ [.int .u64 (x : Nat)] := by
        unfold groupCells
        rw [List.range_succ, List.map_append, List.map_append, ← HX.out]; rfl
      rw [h5]
      refine own_keeps (S := fun b => w.heap.size + 3 ≤ b) hown4 ((Keeps.refl _ _).setCell (by simp) _) (fun g hg => hg)
  case done =>
    rintro W ⟨⟨v, hc, hf, hown⟩, HK⟩ hdef
    have HO := Lib.hid hown
    have HKh := Lib.hid HK
    have Hdef := Lib.hid hdef
    have hlt := (Array.getElem?_eq_some_iff.1 hdef).1
    have hbl := Lib.hid (own_block hown)
    clear hown HK hdef
    gi_wp2
    refine ⟨by simp, .inl ⟨_, _, rfl, run_takeDeferred Hdef.out, ?_⟩⟩
    refine ⟨v, by simp [results, Tryz.f161, go_sem], v, rfl, ?_, HKh.out.putObj (by simp; omega) _⟩
    have h1 := own_keeps (S := fun b => w.heap.size + 3 ≤ b) HO.out ((Keeps.refl _ W).putObj (r := w.heap.size + 1) (by simp) (.deferred none)) (fun g hg => hg)
    obtain ⟨h2, h3⟩ := h1
    refine ⟨h2, ?_⟩
    rcases h3 with h3 | ⟨g, cap, cur, hv, hb, hr⟩
    · exact .inl h3
    · exact .inr ⟨g, cap, cur, hv, by omega, hr⟩
  case stop =>
    rintro c k W hk h hdef
    exact h.elim

set_option maxRecDepth 100000 in
set_option maxHeartbeats 2000000 in
theorem of_any (s : ByteArray) (hl : s.size ≤ 1000000) (hd : ∀ c ∈ s.data.toList, isDig c = true) (w : World) :
    Calls Tryz.prog 101 #[.string s] w (NumPost w (decVal s.data.toList)) := by
  have HD := Lib.hid hd
  clear hd
  go_enter Tryz.func101, Tryz.ntmps101
  go_wp2_with (first | (go_at_call 136; go_in) | (go_at_call 135; go_in))
  have hB0 := cell_new w #[.string s] 9 0 rfl
  have hF0 := frozen_new w #[.string s] 9 0 rfl
  have hA := appendSeq_groups w.heap.size s hl HD.out (w.alloc (.cells #[.string s] 9)) hB0 hF0
  clear hB0 hF0
  refine hA.mono ?_
  rintro e w2 ⟨v, rfl, hown, hk⟩
  have hsz : (w.alloc (.cells #[.string s] 9)).heap.size = w.heap.size + 1 := by simp
  have hB2 : Below w.heap.size w w2 := by
    refine ((Below.refl w.heap.size w).alloc (Nat.le_refl _) (.cells #[.string s] 9)).trans ?_
    exact ⟨hk.os, hk.tape, hk.output, hk.size, fun b hb => hk.block b (by rw [hsz]; omega) ⟨by rw [hsz]; omega, by omega⟩⟩
  clear hA hk
  obtain ⟨N, hN⟩ : ∃ N, gcount s.data.toList = N := ⟨_, rfl⟩
  rw [hN] at hown
  obtain ⟨xs, hxs⟩ : ∃ xs, (List.range N).map (gval s.data.toList) = xs := ⟨_, rfl⟩
  have hcells : groupCells s N = xs.map fun x : Nat => Value.int .u64 (x : Nat) := by rw [← hxs]; rfl
  have hxl : xs.length = N := by rw [← hxs]; simp
  have hxd : ∀ x ∈ xs, x < 1000000000 := by
    rw [← hxs]; intro x hx
    obtain ⟨k, _, rfl⟩ := List.mem_map.1 hx
    exact gval_lt HD.out k
  have hval : val 1000000000 xs = decVal s.data.toList := by rw [← hxs, ← hN]; exact val_groups_all _
  rw [hcells] at hown
  have HB2 := Lib.hid hB2
  have HV := Lib.hid hval
  clear hN hxs hcells hB2 hval
  rcases hown.2 with ⟨rfl, h0⟩ | ⟨g, cap, cur, rfl, hgb, hgr, hle, hcap, hr⟩
  · subst h0
    obtain rfl : xs = [] := List.eq_nil_of_length_eq_zero hxl
    have ht := trim_calls none 0 [] w2 (Nat.le_refl _) (Nat.zero_le _) (fun x h => by cases h) (fun h => absurd rfl h)
    have h2 : decVal s.data.toList = 0 := HV.out.symm
    have h3 : limbs 1000000000 (val 1000000000 []) = [] := by rw [show val 1000000000 [] = 0 from rfl, limbs_zero]
    rw [h3] at ht
    have H2 := Lib.hid h2
    clear hown h2 h3
    go_wp2_with fail
    refine ht.mono ?_
    rintro e w' ⟨rfl, rfl⟩
    clear ht
    go_wp2
    go_ret
    exact ⟨_, rfl, by rw [H2.out]; exact num_zero _ _ _ (Nat.zero_le _), HB2.out⟩
  · have hrow : Row .u64 113 w2 0 g cap xs := by subst hxl; exact ⟨hown.1, by
      rcases hown.2 with h | ⟨g', cap', cur', h1, _, h3⟩
      · exact .inl h
      · exact .inr ⟨g', cap', cur', h1, Nat.zero_le _, h3⟩⟩
    have ht := trim_row hrow hxd N hxl.symm (decVal s.data.toList) HV.out
    clear hrow hown hgr hr
    go_wp2_with fail
    refine ht.mono ?_
    rintro e w' ⟨rfl, rfl, hr2⟩
    have HN := Lib.hid (show NewNum 0 w2 _ _ from ⟨_, _, rfl, hr2⟩).num
    clear ht hr2
    go_wp2
    go_ret
    exact ⟨_, rfl, HN.out, HB2.out⟩
end Go.Proofs.YthbpadjhlkdpeaaGreatDoor
/- Blocks that a call has laid at its beginning: what they hold. -/
namespace Go.Proofs.YthbpadjhlkdpeaaGreatDoor
open Go.RowKit

theorem known_cell {w : World} {b : Nat} {cs : Array Value} {T : TypeId} (h : w.heap[b]? = some (.cells cs T (0, 0))) (j : Nat) {v : Value} (hv : cs[j]? = some v) : w.cell? ⟨b, j, none⟩ = some v := by
  unfold World.cell?
  simp only [h]
  exact hv
theorem known_frozen {w : World} {b : Nat} {cs : Array Value} {T : TypeId} (h : w.heap[b]? = some (.cells cs T (0, 0))) (j : Nat) : w.frozen? ⟨b, j, none⟩ = false := by
  unfold World.frozen?
  simp only [h]
  simp

/-- The blocks from B on are these. -/
def Boxes (B : Nat) (os : List Obj) (w : World) : Prop := B + os.length ≤ w.heap.size ∧ ∀ i o, os[i]? = some o → w.heap[B + i]? = some o

theorem Boxes.none (w : World) : Boxes w.heap.size [] w := ⟨by simp, fun i o h => by simp at h⟩
theorem Boxes.snoc {B : Nat} {os : List Obj} {w : World} (h : Boxes B os w) (hs : w.heap.size = B + os.length) (o : Obj) : Boxes B (os ++ [o]) (w.alloc o) := by
  refine ⟨by simp [hs]; omega, fun i x hx => ?_⟩
  rcases Nat.lt_or_ge i os.length with hi | hi
  · rw [List.getElem?_append_left hi] at hx
    rw [Below.heap_alloc _ _ _ (by omega)]
    exact h.2 i x hx
  · rw [List.getElem?_append_right hi] at hx
    rcases Nat.eq_zero_or_pos (i - os.length) with h0 | h0
    · rw [h0] at hx
      simp at hx
      subst hx
      have e : B + i = w.heap.size := by omega
      rw [e]
      exact World.alloc_heap_new w _
    · rw [List.getElem?_eq_none (by simp; omega)] at hx
      cases hx
theorem Boxes.one (w : World) (o : Obj) : Boxes w.heap.size [o] (w.alloc o) := (Boxes.none w).snoc (by simp) o
theorem Boxes.two (w : World) (o p : Obj) : Boxes w.heap.size [o, p] ((w.alloc o).alloc p) := (Boxes.one w o).snoc (by simp) p
theorem Boxes.three (w : World) (o p q : Obj) : Boxes w.heap.size [o, p, q] (((w.alloc o).alloc p).alloc q) := (Boxes.two w o p).snoc (by simp) q
theorem Boxes.four (w : World) (o p q r : Obj) : Boxes w.heap.size [o, p, q, r] ((((w.alloc o).alloc p).alloc q).alloc r) := (Boxes.three w o p q).snoc (by simp) r
theorem Boxes.below {B C : Nat} {os : List Obj} {w w' : World} (h : Boxes B os w) (hb : Below C w w') (hC : B + os.length ≤ C) : Boxes B os w' := by
  refine ⟨Nat.le_trans h.1 hb.size, fun i o ho => ?_⟩
  have hi : i < os.length := by
    rcases Nat.lt_or_ge i os.length with h1 | h1
    · exact h1
    · rw [List.getElem?_eq_none h1] at ho; cases ho
  rw [hb.block _ (by omega)]
  exact h.2 i o ho
theorem Boxes.keeps {B : Nat} {S : Nat → Prop} {os : List Obj} {w w' : World} (h : Boxes B os w) (hb : Keeps S w w') (hS : ∀ i, i < os.length → S (B + i)) : Boxes B os w' := by
  refine ⟨Nat.le_trans h.1 hb.size, fun i o ho => ?_⟩
  have hi : i < os.length := by
    rcases Nat.lt_or_ge i os.length with h1 | h1
    · exact h1
    · rw [List.getElem?_eq_none h1] at ho; cases ho
  rw [hb.block _ (by have := h.1; omega) (hS i hi)]
  exact h.2 i o ho
theorem Boxes.drew {B : Nat} {os : List Obj} {w : World} (h : Boxes B os w) : Boxes B os w.drew := h
theorem Boxes.alloc {B : Nat} {os : List Obj} {w : World} (h : Boxes B os w) (o : Obj) : Boxes B os (w.alloc o) := by
  refine ⟨by have := h.1; simp; omega, fun i x hx => ?_⟩
  have h1 := h.2 i x hx
  rw [Below.heap_alloc _ _ _ (Array.getElem?_eq_some_iff.1 h1).1]
  exact h1
theorem Boxes.block {B : Nat} {os : List Obj} {w : World} (h : Boxes B os w) (i : Nat) {b : Nat} {o : Obj} (hb : b = B + i) (ho : os[i]? = some o) : w.heap[b]? = some o := by subst hb; exact h.2 i o ho
theorem Boxes.cell {B : Nat} {os : List Obj} {w : World} (h : Boxes B os w) (i j : Nat) {b : Nat} {cs : Array Value} {T : TypeId} {v : Value} (hb : b = B + i) (ho : os[i]? = some (.cells cs T (0, 0))) (hv : cs[j]? = some v) : w.cell? ⟨b, j, Option.none⟩ = some v :=
  known_cell (h.block i hb ho) j hv
theorem Boxes.free {B : Nat} {os : List Obj} {w : World} (h : Boxes B os w) (i j : Nat) {b : Nat} {cs : Array Value} {T : TypeId} (hb : b = B + i) (ho : os[i]? = some (.cells cs T (0, 0))) : w.frozen? ⟨b, j, Option.none⟩ = false :=
  known_frozen (h.block i hb ho) j
theorem Boxes.lt {B : Nat} {os : List Obj} {w : World} (h : Boxes B os w) : B + os.length ≤ w.heap.size := h.1
/-- A box of two cells is filled. -/
theorem two_put {w : World} {b : Nat} {u0 u1 : Value} {T : TypeId} (h : w.heap[b]? = some (.cells #[u0, u1] T (0, 0))) (x y : Value) :
    ((w.setCell ⟨b, 0, none⟩ x).setCell ⟨b, 1, none⟩ y).heap[b]? = some (.cells #[x, y] T (0, 0)) :=
  Joins.block_setCell (Joins.block_setCell h x) y
theorem two_put_cells {w : World} {b : Nat} {u0 u1 : Value} {T : TypeId} (h : w.heap[b]? = some (.cells #[u0, u1] T (0, 0))) (x y : Value) :
    ((w.setCell ⟨b, 0, none⟩ x).setCell ⟨b, 1, none⟩ y).cell? ⟨b, 0, none⟩ = some x ∧ ((w.setCell ⟨b, 0, none⟩ x).setCell ⟨b, 1, none⟩ y).cell? ⟨b, 1, none⟩ = some y :=
  ⟨known_cell (two_put h x y) 0 rfl, known_cell (two_put h x y) 1 rfl⟩
theorem two_put_below {B : Nat} {w0 w : World} (h : Below B w0 w) {b : Nat} (hB : B ≤ b) (x y : Value) : Below B w0 ((w.setCell ⟨b, 0, none⟩ x).setCell ⟨b, 1, none⟩ y) :=
  (h.setCell (p := ⟨b, 0, none⟩) hB x).setCell (p := ⟨b, 1, none⟩) hB y
theorem other_put (w : World) (x y : Value) {b c : Nat} (h : c ≠ b) (j : Nat) : ((w.setCell ⟨b, 0, none⟩ x).setCell ⟨b, 1, none⟩ y).cell? ⟨c, j, none⟩ = w.cell? ⟨c, j, none⟩ :=
  (World.cell?_of_block (w := w.setCell ⟨b, 0, none⟩ x) (Below.heap_setCell _ _ _ _ h)).trans (World.cell?_of_block (w := w) (Below.heap_setCell _ _ _ _ h))
end Go.Proofs.YthbpadjhlkdpeaaGreatDoor
/- weight's taken: a valid fraction's numbers. -/
namespace Go.Proofs.YthbpadjhlkdpeaaGreatDoor
open Go.RowKit Go.Shelf

theorem Num.keepsBut {w w' : World} {v : Value} {n b : Nat} {cs : Array Value} {T : TypeId} (h : Num w v n) (hb : w.heap[b]? = some (.cells cs T (0, 0))) (hcs : ∀ (j : Nat) (x : Int), cs[j]? ≠ some (.int .u64 x)) (hk : Keeps (fun i => i ≠ b) w w') : Num w' v n := by
  obtain ⟨p, cap, rfl, h1, h2, h3⟩ := h
  refine ⟨p, cap, rfl, h1, h2, fun hne => ?_⟩
  obtain ⟨b', off, rfl, hlt, ha⟩ := h3 hne
  refine ⟨b', off, rfl, Nat.lt_of_lt_of_le hlt hk.size, ?_⟩
  have hbb : b' ≠ b := by
    rintro rfl
    have hpos : 0 < (limbs 1000000000 n).length := List.length_pos_iff.2 hne
    have h4 := ha 0 hpos
    unfold World.cell? at h4
    simp only [hb] at h4
    exact hcs _ _ h4
  exact ha.keeps hk hbb
theorem no_ints (v1 v2 : Value) (h1 : ∀ x : Int, v1 ≠ .int .u64 x) (h2 : ∀ x : Int, v2 ≠ .int .u64 x) : ∀ (j : Nat) (x : Int), (#[v1, v2] : Array Value)[j]? ≠ some (.int .u64 x)
  | 0, x => by simpa using h1 x
  | 1, x => by simpa using h2 x
  | j + 2, x => by simp

theorem set_other {w : World} {b : Nat} (i j : Nat) (h : i ≠ j) {u : Value} : (w.setCell ⟨b, i, none⟩ u).cell? ⟨b, j, none⟩ = w.cell? ⟨b, j, none⟩ := World.cell?_setCell_other w _ _ u (by simp [h])

/-- A fraction of numbers. -/
def FracPost (w : World) (n d : Nat) (e : Ending) (w' : World) : Prop := ∃ vn vd, e = .returned (.agg #[vn, vd]) ∧ Num w' vn n ∧ Num w' vd d ∧ Below w.heap.size w w'

set_option maxRecDepth 100000 in
set_option maxHeartbeats 4000000 in
theorem taken_any (s t : ByteArray) (hl : s.size ≤ 1000000) (hl2 : t.size ≤ 1000000) (hd : ∀ c ∈ s.data.toList, isDig c = true) (hd2 : ∀ c ∈ t.data.toList, isDig c = true) (w : World) :
    Calls Tryz.prog 86 #[.agg #[.string s, .string t]] w (FracPost w (decVal s.data.toList) (decVal t.data.toList)) := by
  have HD := Lib.hid hd
  have HD2 := Lib.hid hd2
  clear hd hd2
  go_enter Tryz.func86, Tryz.ntmps86
  go_wp2_with fail
  obtain ⟨w3, hw3⟩ : ∃ w3, (w.alloc (.cells #[.string s, .string t] 24)).alloc (.cells #[.slice none 0 0, .slice none 0 0] 94) = w3 := ⟨_, rfl⟩
  have hsz : w3.heap.size = w.heap.size + 2 := by rw [← hw3]; simp
  have c0 : w3.cell? ⟨w.heap.size, 0, none⟩ = some (.string s) := by rw [← hw3, cell_old _ _ _ (by simp)]; exact cell_new _ _ _ _ rfl
  have c1 : w3.cell? ⟨w.heap.size, 1, none⟩ = some (.string t) := by rw [← hw3, cell_old _ _ _ (by simp)]; exact cell_new _ _ _ _ rfl
  have b3 : w3.heap[w.heap.size + 1]? = some (.cells #[.slice none 0 0, .slice none 0 0] 94 (0, 0)) := by
    rw [← hw3]
    have := World.alloc_heap_new (w.alloc (.cells #[.string s, .string t] 24)) (.cells #[.slice none 0 0, .slice none 0 0] 94)
    simpa using this
  have HB3 : Hid (Below w.heap.size w w3) := by rw [← hw3]; exact ((Below.refl _ w).alloc (Nat.le_refl _) _).alloc (by simp) _
  rw [hw3]
  clear hw3
  go_region_with (go_at_call 101; first
    | go_loud (refine (of_any s hl HD.out _).mono ?_; rintro e w4 ⟨v1, rfl, hv1, hB4⟩; have c1' : w4.cell? ⟨w.heap.size, 1, none⟩ = some (.string t) := (hB4.cell (p := ⟨w.heap.size, 1, none⟩) (by show w.heap.size < w3.heap.size; omega)).trans c1; have hsz4 : w3.heap.size ≤ w4.heap.size := hB4.size; have b4 : w4.heap[w.heap.size + 1]? = some (.cells #[.slice none 0 0, .slice none 0 0] 94 (0, 0)) := (hB4.block (w.heap.size + 1) (by show _ < w3.heap.size; omega)).trans b3; have HN4 := Lib.hid hv1; have HB4 : Hid (Below w.heap.size w w4) := HB3.out.drew.trans (hB4.mono (by show w.heap.size ≤ w3.heap.size; omega)); clear hB4; obtain ⟨p1, k1, rfl, _, _, _⟩ := hv1)
    | go_loud (refine (of_any t hl2 HD2.out _).mono ?_; rintro e w5 ⟨v2, rfl, hv2, hB5⟩; have b5 : w5.heap[w.heap.size + 1]? = some (.cells #[.slice none 0 0, .slice none 0 0] 94 (0, 0)) := (hB5.block (w.heap.size + 1) (by show _ < w4.heap.size; omega)).trans b4; have HN5 := Lib.hid (HN4.out.below hB5 (Nat.le_refl _)); have HM5 := Lib.hid hv2; have HB5 : Hid (Below w.heap.size w w5) := HB4.out.trans (hB5.mono (by omega)); have d0 := known_cell b5 0 (v := .slice none 0 0) rfl; have d1 := known_cell b5 1 (v := .slice none 0 0) rfl; have f0 := known_frozen b5 0; have f1 := known_frozen b5 1; clear hB5; obtain ⟨p2, k2, rfl, _, _, _⟩ := hv2))
  all_goals
    obtain ⟨l1, hl1⟩ : ∃ l1, (limbs 1000000000 (decVal s.data.toList)).length = l1 := ⟨_, rfl⟩
    obtain ⟨l2, hl2⟩ : ∃ l2, (limbs 1000000000 (decVal t.data.toList)).length = l2 := ⟨_, rfl⟩
    rw [hl1] at HN5
    rw [hl2] at HM5
    rw [hl1, hl2]
    obtain ⟨w6, hw6⟩ : ∃ w6, (w5.setCell ⟨w.heap.size + 1, 0, none⟩ (.slice p1 l1 k1)).setCell ⟨w.heap.size + 1, 1, none⟩ (.slice p2 l2 k2) = w6 := ⟨_, rfl⟩
    have hk6 : Keeps (fun i => i ≠ w.heap.size + 1) w5 w6 := by rw [← hw6]; exact ((Keeps.refl _ w5).setCell (by simp) _).setCell (by simp) _
    have r0 : w6.cell? ⟨w.heap.size + 1, 0, none⟩ = some (.slice p1 l1 k1) := by
      rw [← hw6, set_other 1 0 (by decide)]
      exact World.cell?_setCell_same' _ _ _ (by rw [d0]; rfl)
    have r1 : w6.cell? ⟨w.heap.size + 1, 1, none⟩ = some (.slice p2 l2 k2) := by
      rw [← hw6]
      exact World.cell?_setCell_same' _ _ _ (by rw [set_other 0 1 (by decide), d1]; rfl)
    have HN6 := Lib.hid (HN5.out.keepsBut b5 (no_ints _ _ (fun x h => by cases h) (fun x h => by cases h)) hk6)
    have HM6 := Lib.hid (HM5.out.keepsBut b5 (no_ints _ _ (fun x h => by cases h) (fun x h => by cases h)) hk6)
    have HB6 : Hid (Below w.heap.size w w6) := HB5.out.trans ⟨hk6.os, hk6.tape, hk6.output, hk6.size, fun k hk => hk6.block k (by have := HB5.out.size; omega) (by omega)⟩
    rw [hw6]
    clear hw6 hk6 c0 c1 c1' d0 d1 f0 f1 b3 b4 b5
    go_wp2
    refine bodyPost_ret (v := .agg #[.slice p1 l1 k1, .slice p2 l2 k2]) ?_ rfl ⟨_, _, rfl, HN6.out, HM6.out, HB6.out⟩
    simp [results, Tryz.f86, go_sem, r0, r1]
end Go.Proofs.YthbpadjhlkdpeaaGreatDoor
/- weight's part: a fraction in lowest terms, as digits. -/
namespace Go.Proofs.YthbpadjhlkdpeaaGreatDoor
open Go.RowKit Go.Shelf

/-- What a fraction with an error answers. -/
def PartPost (R : ByteArray → ByteArray → Int → Prop) (w : World) (e : Ending) (w' : World) : Prop :=
  ∃ s t n, e = .returned (.tuple #[.agg #[.string s, .string t], .int .i64 n]) ∧ R s t n ∧ Below w.heap.size w w'

theorem Num.after {w w' : World} {v : Value} {n B : Nat} (h : Num w v n) (hb : Below B w w') (hB : w.heap.size ≤ B) : Num w' v n := Nums.below h hb hB


set_option maxRecDepth 100000 in
set_option maxHeartbeats 4000000 in
theorem part_any {v1 v2 : Value} {n d : Nat} {w : World} (h1 : Num w v1 n) (h2 : Num w v2 d) (hl1 : (limbs 1000000000 n).length ≤ 100000) (hl2 : (limbs 1000000000 d).length ≤ 100000) (hd : 0 < d) (hT : Tabs w) :
    Calls Tryz.prog 65 #[.agg #[v1, v2]] w (PartPost (Ans (mkRat (n : Nat) d)) w) := by
  obtain ⟨g, hg⟩ : ∃ g, Nat.gcd n d = g := ⟨_, rfl⟩
  have hg0 : 0 < g := by rw [← hg]; exact Nat.gcd_pos_of_pos_right _ hd
  have hgl : (limbs 1000000000 g).length ≤ 100000 := Nat.le_trans (limbs_length_mono (by omega) (by rw [← hg]; exact Nat.gcd_le_right _ hd)) hl2
  have HQ : Hid (numD (mkRat (n : Nat) d) = Lib.decDigits (n / g) ∧ denD (mkRat (n : Nat) d) = Lib.decDigits (d / g)) := by rw [← hg]; exact digits_mkRat n hd
  obtain ⟨p1, l1, c1, rfl⟩ := h1.form'
  obtain ⟨p2, l2, c2, rfl⟩ := h2.form'
  have H1 := Lib.hid h1
  have H2 := Lib.hid h2
  have HT := Lib.hid hT
  have HG0 := Lib.hid hg
  clear h1 h2 hT hg
  go_enter Tryz.func65, Tryz.ntmps65
  go_wp2_with fail
  obtain ⟨w1, hw1⟩ : ∃ w1, (w.alloc (.cells #[.slice p1 l1 c1, .slice p2 l2 c2] 94)).alloc (.cells #[.string ⟨#[]⟩, .string ⟨#[]⟩] 24) = w1 := ⟨_, rfl⟩
  rw [hw1]
  have HX1 : Hid (Boxes w.heap.size [.cells #[.slice p1 l1 c1, .slice p2 l2 c2] 94, .cells #[.string ⟨#[]⟩, .string ⟨#[]⟩] 24] w1) := by rw [← hw1]; exact Boxes.two w _ _
  have HB1 : Hid (Below w.heap.size w w1) := by rw [← hw1]; exact ((Below.refl _ w).alloc (Nat.le_refl _) _).alloc (by simp) _
  clear hw1
  refine (gcd_any (H1.out.after HB1.out (Nat.le_refl _)) (H2.out.after HB1.out (Nat.le_refl _)) hl1 hl2).mono ?_
  rintro e w2 ⟨vg, rfl, hG, hb2⟩
  obtain ⟨pg, lg, cg, rfl⟩ := hG.form'
  rw [HG0.out] at hG
  have HG := Lib.hid hG
  have HB2 := Lib.hid (HB1.out.trans (hb2.mono HB1.out.size))
  have HX2 := Lib.hid (HX1.out.below hb2 HX1.out.lt)
  clear hG hb2
  have c20 := HX2.out.cell 0 0 (b := w.heap.size) rfl rfl rfl
  have c21 := HX2.out.cell 0 1 (b := w.heap.size) rfl rfl rfl
  go_wp2_with fail
  refine (over_any (H1.out.after HB2.out (Nat.le_refl _)) HG.out hl1 hgl hg0).mono ?_
  rintro e w3 ⟨vn, vr, rfl, hN, _, hb3⟩
  obtain ⟨pn, ln, cn, rfl⟩ := hN.form'
  have HN3 := Lib.hid hN
  have HG3 := Lib.hid (HG.out.after hb3 (Nat.le_refl _))
  have HB3 := Lib.hid (HB2.out.trans (hb3.mono HB2.out.size))
  have HX3 := Lib.hid (HX2.out.below hb3 HX2.out.lt)
  clear hN hb3 c20 c21
  have c31 := HX3.out.cell 0 1 (b := w.heap.size) rfl rfl rfl
  go_wp2_with fail
  refine (over_any (H2.out.after HB3.out (Nat.le_refl _)) HG3.out hl2 hgl hg0).mono ?_
  rintro e w4 ⟨vd, vs, rfl, hD, _, hb4⟩
  obtain ⟨pd, ld, cd, rfl⟩ := hD.form'
  have HD4 := Lib.hid hD
  have HN4 := Lib.hid (HN3.out.after hb4 (Nat.le_refl _))
  have HB4 := Lib.hid (HB3.out.trans (hb4.mono HB3.out.size))
  have HX4 := Lib.hid (HX3.out.below hb4 HX3.out.lt)
  clear hD hb4 c31
  have hln : (limbs 1000000000 (n / g)).length ≤ 100000 := Nat.le_trans (limbs_length_mono (by omega) (Nat.div_le_self _ _)) hl1
  have hld : (limbs 1000000000 (d / g)).length ≤ 100000 := Nat.le_trans (limbs_length_mono (by omega) (Nat.div_le_self _ _)) hl2
  go_wp2_with fail
  refine (digits_any HN4.out hln (HT.out.below HB4.out (Nat.le_refl _))).mono ?_
  rintro e w5 ⟨rfl, hb5⟩
  have HD5 := Lib.hid (HD4.out.after hb5 (Nat.le_refl _))
  have HN5 := Lib.hid (HN4.out.after hb5 (Nat.le_refl _))
  have HB5 := Lib.hid (HB4.out.trans (hb5.mono HB4.out.size))
  have HX5 := Lib.hid (HX4.out.below hb5 HX4.out.lt)
  clear hb5
  obtain ⟨m1, hm1⟩ : ∃ m, (Lib.decDigits (n / g)).length = m := ⟨_, rfl⟩
  obtain ⟨m2, hm2⟩ : ∃ m, (Lib.decDigits (d / g)).length = m := ⟨_, rfl⟩
  rw [hm1]
  have HM1 := Lib.hid hm1
  have HM2 := Lib.hid hm2
  clear hm1 hm2
  by_cases hc1 : 600 < m1
  · have e1 : (600 : Int) < (m1 : Nat) := by omega
    have r0 := HX5.out.cell 1 0 (b := w.heap.size + 1) rfl rfl rfl
    have r1 := HX5.out.cell 1 1 (b := w.heap.size + 1) rfl rfl rfl
    have f0 := HX5.out.free 1 0 (b := w.heap.size + 1) rfl rfl
    have f1 := HX5.out.free 1 1 (b := w.heap.size + 1) rfl rfl
    go_wp2
    have q := two_put_cells (HX5.out.block 1 (b := w.heap.size + 1) rfl rfl) (.string ⟨#[]⟩) (.string ⟨#[]⟩)
    have HBQ := Lib.hid (two_put_below HB5.out (b := w.heap.size + 1) (by omega) (.string ⟨#[]⟩) (.string ⟨#[]⟩))
    obtain ⟨w9, hw9⟩ : ∃ w9, (w5.setCell ⟨w.heap.size + 1, 0, none⟩ (.string ⟨#[]⟩)).setCell ⟨w.heap.size + 1, 1, none⟩ (.string ⟨#[]⟩) = w9 := ⟨_, rfl⟩
    rw [hw9] at q HBQ
    obtain ⟨q0, q1⟩ := q
    rw [hw9]
    clear r0 r1 f0 f1 hw9
    go_wp2
    refine bodyPost_ret (v := .tuple #[.agg #[.string ⟨#[]⟩, .string ⟨#[]⟩], .int .i64 4]) (by simp [results, Tryz.f65, go_sem, q0, q1]) rfl ⟨_, _, _, rfl, ?_, HBQ.out⟩
    exact .inr ⟨fun hf => by have := hf.1; rw [HQ.out.1, HM1.out] at this; omega, rfl, rfl, rfl⟩
  · have e1 : ¬ (600 : Int) < (m1 : Nat) := by omega
    go_wp2_with fail
    refine (digits_any HD5.out hld (HT.out.below HB5.out (Nat.le_refl _))).mono ?_
    rintro e w6 ⟨rfl, hb6⟩
    have HD6 := Lib.hid (HD5.out.after hb6 (Nat.le_refl _))
    have HN6 := Lib.hid (HN5.out.after hb6 (Nat.le_refl _))
    have HB6 := Lib.hid (HB5.out.trans (hb6.mono HB5.out.size))
    have HX6 := Lib.hid (HX5.out.below hb6 HX5.out.lt)
    clear hb6
    rw [HM2.out]
    by_cases hc2 : 600 < m2
    · have e2 : (600 : Int) < (m2 : Nat) := by omega
      have r0 := HX6.out.cell 1 0 (b := w.heap.size + 1) rfl rfl rfl
      have r1 := HX6.out.cell 1 1 (b := w.heap.size + 1) rfl rfl rfl
      have f0 := HX6.out.free 1 0 (b := w.heap.size + 1) rfl rfl
      have f1 := HX6.out.free 1 1 (b := w.heap.size + 1) rfl rfl
      go_wp2
      have q := two_put_cells (HX6.out.block 1 (b := w.heap.size + 1) rfl rfl) (.string ⟨#[]⟩) (.string ⟨#[]⟩)
      have HBQ := Lib.hid (two_put_below HB6.out (b := w.heap.size + 1) (by omega) (.string ⟨#[]⟩) (.string ⟨#[]⟩))
      obtain ⟨w9, hw9⟩ : ∃ w9, (w6.setCell ⟨w.heap.size + 1, 0, none⟩ (.string ⟨#[]⟩)).setCell ⟨w.heap.size + 1, 1, none⟩ (.string ⟨#[]⟩) = w9 := ⟨_, rfl⟩
      rw [hw9] at q HBQ
      obtain ⟨q0, q1⟩ := q
      rw [hw9]
      clear r0 r1 f0 f1 hw9
      go_wp2
      refine bodyPost_ret (v := .tuple #[.agg #[.string ⟨#[]⟩, .string ⟨#[]⟩], .int .i64 4]) (by simp [results, Tryz.f65, go_sem, q0, q1]) rfl ⟨_, _, _, rfl, ?_, HBQ.out⟩
      exact .inr ⟨fun hf => by have := hf.2; rw [HQ.out.2, HM2.out] at this; omega, rfl, rfl, rfl⟩
    · have e2 : ¬ (600 : Int) < (m2 : Nat) := by omega
      go_wp2_with fail
      refine (text_any HN6.out hln (HT.out.below HB6.out (Nat.le_refl _))).mono ?_
      rintro e w7 ⟨s, rfl, hs, hb7⟩
      have HS := Lib.hid hs
      have HD7 := Lib.hid (HD6.out.after hb7 (Nat.le_refl _))
      have HB7 := Lib.hid (HB6.out.trans (hb7.mono HB6.out.size))
      have HX7 := Lib.hid (HX6.out.below hb7 HX6.out.lt)
      clear hb7 hs
      go_wp2_with fail
      refine (text_any HD7.out hld (HT.out.below HB7.out (Nat.le_refl _))).mono ?_
      rintro e w8 ⟨t, rfl, ht, hb8⟩
      have HT8 := Lib.hid ht
      have HB8 := Lib.hid (HB7.out.trans (hb8.mono HB7.out.size))
      have HX8 := Lib.hid (HX7.out.below hb8 HX7.out.lt)
      clear hb8 ht
      have r0 := HX8.out.cell 1 0 (b := w.heap.size + 1) rfl rfl rfl
      have r1 := HX8.out.cell 1 1 (b := w.heap.size + 1) rfl rfl rfl
      have f0 := HX8.out.free 1 0 (b := w.heap.size + 1) rfl rfl
      have f1 := HX8.out.free 1 1 (b := w.heap.size + 1) rfl rfl
      go_wp2
      have q := two_put_cells (HX8.out.block 1 (b := w.heap.size + 1) rfl rfl) (.string s) (.string t)
      have HBQ := Lib.hid (two_put_below HB8.out (b := w.heap.size + 1) (by omega) (.string s) (.string t))
      obtain ⟨w9, hw9⟩ : ∃ w9, (w8.setCell ⟨w.heap.size + 1, 0, none⟩ (.string s)).setCell ⟨w.heap.size + 1, 1, none⟩ (.string t) = w9 := ⟨_, rfl⟩
      rw [hw9] at q HBQ
      obtain ⟨q0, q1⟩ := q
      rw [hw9]
      clear r0 r1 f0 f1 hw9
      go_wp2
      refine bodyPost_ret (v := .tuple #[.agg #[.string s, .string t], .int .i64 0]) (by simp [results, Tryz.f65, go_sem, q0, q1]) rfl ⟨_, _, _, rfl, ?_, HBQ.out⟩
      refine .inl ⟨⟨mkRat_nonneg _ _, ?_, ?_, ?_⟩, rfl⟩
      · rw [HS.out, HQ.out.1]
      · rw [HT8.out, HQ.out.2]
      · unfold Fits
        rw [HQ.out.1, HQ.out.2, HM1.out, HM2.out]
        omega
end Go.Proofs.YthbpadjhlkdpeaaGreatDoor
/- How many limbs a number of so many digits has. No program is in sight. -/
namespace Go.Proofs.YthbpadjhlkdpeaaGreatDoor

theorem lim_of_pow {n k j : Nat} (h : n < 10 ^ k) (hj : k ≤ 9 * j) : (limbs 1000000000 n).length ≤ j := by
  refine limbs_length_le (by omega) (Nat.lt_of_lt_of_le h ?_)
  have e : (1000000000 : Nat) ^ j = 10 ^ (9 * j) := by rw [Nat.pow_mul]
  rw [e]
  exact Nat.pow_le_pow_right (by omega) hj
theorem decVal_lim {s : ByteArray} (hd : ∀ c ∈ s.data.toList, isDig c = true) {j : Nat} (hj : s.size ≤ 9 * j) : (limbs 1000000000 (decVal s.data.toList)).length ≤ j :=
  lim_of_pow (decVal_lt hd) (by rw [size_len]; exact hj)
end Go.Proofs.YthbpadjhlkdpeaaGreatDoor
/- weight's Check: whether a fraction is valid. -/
namespace Go.Proofs.YthbpadjhlkdpeaaGreatDoor
open Go.RowKit Go.Shelf

theorem okP_left {s t : ByteArray} (h : natOk s.data.toList = false) : okP s t = false := by unfold okP; rw [h]; rfl
theorem okP_right {s t : ByteArray} (h : natOk t.data.toList = false) : okP s t = false := by unfold okP; rw [h, Bool.and_false]; rfl
theorem okP_zero {s t : ByteArray} (h : decVal t.data.toList = 0) : okP s t = false := by unfold okP; rw [h]; simp
theorem okP_gcd {s t : ByteArray} (h : Nat.gcd (decVal s.data.toList) (decVal t.data.toList) ≠ 1) : okP s t = false := by unfold okP; simp [h]
theorem okP_yes {s t : ByteArray} (h1 : natOk s.data.toList = true) (h2 : natOk t.data.toList = true) (h3 : decVal t.data.toList ≠ 0) (h4 : Nat.gcd (decVal s.data.toList) (decVal t.data.toList) = 1) : okP s t = true :=
  okP_iff.2 ⟨h1, h2, by omega, h4⟩

/-- Check's answer. -/
def okE (s t : ByteArray) : Int := if okP s t then 0 else 2
theorem okE_no {s t : ByteArray} (h : okP s t = false) : okE s t = 2 := by unfold okE; rw [h]; rfl
theorem okE_yes {s t : ByteArray} (h : okP s t = true) : okE s t = 0 := by unfold okE; rw [h]; rfl

/-- "0" is the one valid number of value 0. -/
theorem zero_iff {t : ByteArray} (h : natOk t.data.toList = true) : t = ⟨#[48]⟩ ↔ decVal t.data.toList = 0 := by
  constructor
  · rintro rfl; rfl
  · intro h0
    have h1 := (canon_of_nat h).1.text
    rw [h0, decDigits_zero] at h1
    have h2 := str_eq t
    rw [← h1] at h2
    exact h2.symm

set_option maxRecDepth 100000 in
set_option maxHeartbeats 2000000 in
theorem check_any (s t : ByteArray) (w : World) (hs : s.size ≤ 1000000) (ht : t.size ≤ 1000000) :
    Calls Tryz.prog 34 #[.agg #[.string s, .string t]] w (IntPost w (okE s t)) := by
  cases h1 : natOk s.data.toList
  · have HQ := Lib.hid (okP_left (t := t) h1)
    have H1 := Lib.hid h1
    clear h1
    go_enter Tryz.func34, Tryz.ntmps34
    go_wp2_with fail
    refine (right_any s _ hs).mono ?_
    rintro e w2 ⟨rfl, hb2⟩
    rw [H1.out]
    have HB2 := Lib.hid (((Below.refl _ w).alloc (Nat.le_refl _) (.cells #[.string s, .string t] 24)).trans (hb2.mono (by simp)))
    clear hb2
    go_wp2
    go_ret
    exact ⟨by rw [okE_no HQ.out]; rfl, HB2.out⟩
  · have H1 := Lib.hid h1
    clear h1
    cases h2 : natOk t.data.toList
    · have HQ := Lib.hid (okP_right (s := s) h2)
      have H2 := Lib.hid h2
      clear h2
      go_enter Tryz.func34, Tryz.ntmps34
      go_wp2_with fail
      refine (right_any s _ hs).mono ?_
      rintro e w2 ⟨rfl, hb2⟩
      rw [H1.out]
      have HX2 := Lib.hid ((Boxes.one w _).below hb2 (by simp))
      have HB2 := Lib.hid (((Below.refl _ w).alloc (Nat.le_refl _) (.cells #[.string s, .string t] 24)).trans (hb2.mono (by simp)))
      clear hb2
      have c1 := HX2.out.cell 0 1 (b := w.heap.size) rfl rfl rfl
      go_wp2_with fail
      refine (right_any t _ ht).mono ?_
      rintro e w3 ⟨rfl, hb3⟩
      rw [H2.out]
      have HB3 := Lib.hid (HB2.out.trans (hb3.mono HB2.out.size))
      clear hb3 c1
      go_wp2
      go_ret
      exact ⟨by rw [okE_no HQ.out]; rfl, HB3.out⟩
    · have HZ := Lib.hid (zero_iff h2)
      have H2 := Lib.hid h2
      clear h2
      go_enter Tryz.func34, Tryz.ntmps34
      go_wp2_with fail
      refine (right_any s _ hs).mono ?_
      rintro e w2 ⟨rfl, hb2⟩
      rw [H1.out]
      have HX2 := Lib.hid ((Boxes.one w _).below hb2 (by simp))
      have HB2 := Lib.hid (((Below.refl _ w).alloc (Nat.le_refl _) (.cells #[.string s, .string t] 24)).trans (hb2.mono (by simp)))
      clear hb2
      have c1 := HX2.out.cell 0 1 (b := w.heap.size) rfl rfl rfl
      go_wp2_with fail
      refine (right_any t _ ht).mono ?_
      rintro e w3 ⟨rfl, hb3⟩
      rw [H2.out]
      have HX3 := Lib.hid (HX2.out.below hb3 HX2.out.lt)
      have HB3 := Lib.hid (HB2.out.trans (hb3.mono HB2.out.size))
      clear hb3 c1
      have d0 := HX3.out.cell 0 0 (b := w.heap.size) rfl rfl rfl
      have d1 := HX3.out.cell 0 1 (b := w.heap.size) rfl rfl rfl
      have dl : t.toList = t.data.toList := ByteArray.toList_eq ..
      by_cases h0 : decVal t.data.toList = 0
      · have hz : (t.toList == [48]) = true := by
          rw [dl, HZ.out.2 h0]; rfl
        have HQ := Lib.hid (okP_zero (s := s) h0)
        clear h0 dl
        go_wp2
        go_ret
        exact ⟨by rw [okE_no HQ.out]; rfl, HB3.out⟩
      · have hz : (t.toList == [48]) = false := by
          rw [beq_eq_false_iff_ne, dl]
          intro hc
          refine h0 (HZ.out.1 ?_)
          rw [← str_eq t, hc]; rfl
        have H0 := Lib.hid h0
        clear h0 dl
        obtain ⟨cs1, cs2⟩ := canon_of_nat H1.out
        obtain ⟨ct1, ct2⟩ := canon_of_nat H2.out
        have hls := decVal_lim cs1.dig (j := 70) (by rw [← size_len]; omega)
        have hlt := decVal_lim ct1.dig (j := 70) (by rw [← size_len]; omega)
        have HDS := Lib.hid cs1.dig
        have HDT := Lib.hid ct1.dig
        clear cs1 cs2 ct1 ct2
        go_wp2_with fail
        refine (taken_any s t hs ht HDS.out HDT.out _).mono ?_
        rintro e w4 ⟨vn, vd, rfl, hN, hD, hb4⟩
        obtain ⟨pn, ln, cn, rfl⟩ := hN.form'
        obtain ⟨pd, ld, cd, rfl⟩ := hD.form'
        have HN := Lib.hid hN
        have HD := Lib.hid hD
        have HB4 := Lib.hid (HB3.out.trans (hb4.mono HB3.out.size))
        clear hN hD hb4 d0 d1
        go_wp2_with fail
        obtain ⟨g, hg⟩ : ∃ g, Nat.gcd (decVal s.data.toList) (decVal t.data.toList) = g := ⟨_, rfl⟩
        have hal := (Below.refl w4.heap.size w4).alloc (Nat.le_refl _) (.cells #[.slice pn ln cn, .slice pd ld cd] 94)
        have hgc := gcd_any (HN.out.after hal (Nat.le_refl _)) (HD.out.after hal (Nat.le_refl _)) (by omega) (by omega)
        rw [hg] at hgc
        have HG := Lib.hid hg
        refine hgc.mono ?_
        rintro e w5 ⟨vg, rfl, hG, hb5⟩
        obtain ⟨pg, cg, hv, _, _, hp⟩ := id hG
        have HB5 := Lib.hid (HB4.out.trans ((hal.trans (hb5.mono (by simp))).mono HB4.out.size))
        obtain ⟨lg, hlg⟩ : ∃ l, (limbs 1000000000 g).length = l := ⟨_, rfl⟩
        rw [hlg] at hv
        subst hv
        have HP := Lib.hid hp
        have HLG := Lib.hid hlg
        clear hgc hG hb5 hal hp hlg hg
        by_cases h1 : lg = 1
        · have hb1 : ((lg : Int) != 1) = false := by rw [bne_eq_false_iff_eq]; omega
          have hx : ∃ b off x, pg = some ⟨b, off, none⟩ ∧ w5.cell? ⟨b, off, none⟩ = some (.int .u64 (x : Nat)) ∧ limbs 1000000000 g = [x] := by
            have h2 := HLG.out
            rw [h1] at h2
            obtain ⟨x, hx⟩ := List.length_eq_one_iff.1 h2
            obtain ⟨b, off, rfl, _, ha⟩ := HP.out (by rw [hx]; simp)
            have h3 := ha.getD (j := 0) (x := x) (by rw [hx]; simp) (by rw [hx]; rfl)
            exact ⟨b, off, x, rfl, h3, hx⟩
          obtain ⟨b, off, x, rfl, hc, hx⟩ := hx
          have HXL := Lib.hid hx
          have HV : Hid (x = g) := by
            show _ = _
            have := val_limbs (B := 1000000000) (by omega) g
            rw [hx] at this
            simpa [val] using this
          subst h1
          clear hx
          by_cases h2 : x = 1
          · have hb2 : ((x : Int) != 1) = false := by rw [bne_eq_false_iff_eq]; omega
            have HQ : Hid (okE s t = 0) := okE_yes (okP_yes H1.out H2.out H0.out (by rw [HG.out, ← HV.out]; exact h2))
            clear h2
            go_wp2
            go_ret
            exact ⟨by rw [HQ.out]; rfl, HB5.out⟩
          · have hb2 : ((x : Int) != 1) = true := by rw [bne_iff_ne]; omega
            have HQ : Hid (okE s t = 2) := okE_no (okP_gcd (by rw [HG.out, ← HV.out]; exact h2))
            clear h2
            go_wp2
            go_ret
            exact ⟨by rw [HQ.out]; rfl, HB5.out⟩
        · have hb1 : ((lg : Int) != 1) = true := by rw [bne_iff_ne]; omega
          have HQ : Hid (okE s t = 2) := by
            refine okE_no (okP_gcd ?_)
            rw [HG.out]
            intro hc
            refine h1 ?_
            rw [← HLG.out, hc, limbs_pos (by omega) (by omega), limbs_zero]; rfl
          clear h1
          go_wp2
          go_ret
          exact ⟨by rw [HQ.out]; rfl, HB5.out⟩
end Go.Proofs.YthbpadjhlkdpeaaGreatDoor
