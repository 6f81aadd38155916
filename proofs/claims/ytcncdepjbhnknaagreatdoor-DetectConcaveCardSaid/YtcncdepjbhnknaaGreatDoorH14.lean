/- The parts DTable, WidthM of a proof, put together by program (merge6.py). -/
import Derived.Test.YtcncdepjbhnknaaGreatDoorH12
import Derived.Test.YtcncdepjbhnknaaGreatDoorH13
import Derived.Deep.AppendLies
import Derived.Test.YtcncdepjbhnknaaGreatDoorH11
set_option linter.unusedVariables false
set_option linter.unusedSimpArgs false
/- detect's CheckTable. -/
namespace Go.Proofs.YtcncdepjbhnknaaGreatDoor
open Go.RowKit Go.Shelf Go.ChangeMaps Go.MapKept
attribute [local go_sem ↓] Go.wp_at_zero Go.wp_at_succ

/-- What CheckTable answers. -/
def TablePost (l : List Sg) (w : World) (e : Ending) (w' : World) : Prop := ∃ n, e = .returned (.int .i64 n) ∧ TableE l n ∧ Below w.heap.size w w'
theorem info_sight : (Tryz.prog.info? 30).map (fun i => (i.zero, i.size, i.bytes)) = some (some (.agg #[.int .i64 0, .int .i64 0, .int .i64 0, .int .i64 0, .int .i64 0]), 5, 40) := by kernel_rfl
theorem idx0 (x y z : Int) (w : World) : (Instr.index 73 (kV x y z) (.int .i64 0)).run Tryz.prog w = .ok (.int .i64 x) w := by kernel_rfl
theorem idx1 (x y z : Int) (w : World) : (Instr.index 73 (kV x y z) (.int .i64 1)).run Tryz.prog w = .ok (.int .i64 y) w := by kernel_rfl
theorem idx2 (x y z : Int) (w : World) : (Instr.index 73 (kV x y z) (.int .i64 2)).run Tryz.prog w = .ok (.int .i64 z) w := by kernel_rfl
abbrev MapO : Obj := .map #[] 0
/-- A key's slice lies in a block that was there before. -/
theorem TabM.val_lt {P : Program} {K E t : TypeId} {w V : World} {base b n : Nat} {D : DataW Unit} (h : TabM P K w base b n D) (hV : V.heap[b]? = w.heap[b]?) (KK : Maps.Keyed P K) (ht : P.underlying t = some (.map K E)) (hz : (zeroValue E).run P V = .ok (.slice none 0 0) V)
    {key : Value} {kl : Lit} (hkey : keyOf P K key = some kl) {v : Value} (hrun : (Instr.lookup t (.map (some b)) key false).run P V = .ok v V) {g : Nat} (hg : w.heap.size ≤ g) : v.ownBlock ≠ some g := by
  obtain ⟨es, clock, hb, F, hs, rfl, hbb, hap⟩ := h
  rcases Maps.fit_look false KK ht hz (hV.trans hb) F hkey with ⟨hr, _, _⟩ | ⟨e0, y, hm0, h3, hr, hR, _, _⟩
  · rw [hr] at hrun
    injection hrun with h1
    rw [← h1]
    simp [Value.ownBlock]
  · rw [hr] at hrun
    injection hrun with h1
    obtain ⟨l, ho, _⟩ := tabR_inv hR
    intro hc
    have h2 : e0.val.ownBlock = some g := by rw [show e0.val = v from h1]; exact hc
    have := (World.ownsRow.lt ho g h2).2
    omega
abbrev SB (g : Nat) (x y z s d : Int) (w' : World) : Prop := w'.cell? ⟨g, 0, none⟩ = some (.int .i64 x) ∧ w'.cell? ⟨g, 1, none⟩ = some (.int .i64 y) ∧ w'.cell? ⟨g, 2, none⟩ = some (.int .i64 z) ∧ w'.cell? ⟨g, 3, none⟩ = some (.int .i64 s) ∧ w'.cell? ⟨g, 4, none⟩ = some (.int .i64 d)
theorem SB.of {W : World} {g : Nat} {x y z s d : Int} (h : W.heap[g]? = some (sO x y z s d)) : SB g x y z s d W := ⟨known_cell h 0 rfl, known_cell h 1 rfl, known_cell h 2 rfl, known_cell h 3 rfl, known_cell h 4 rfl⟩
def srt (x y z : Int) (m : Nat) : Int := if m = 0 then x else if m = 1 then y else z
theorem mul_bound {a b : Int} (ha : -9 ≤ a ∧ a ≤ 9) (hb : -100000 ≤ b ∧ b ≤ 100000) : -900000 ≤ a * b ∧ a * b ≤ 900000 := by
  have : a = -9 ∨ a = -8 ∨ a = -7 ∨ a = -6 ∨ a = -5 ∨ a = -4 ∨ a = -3 ∨ a = -2 ∨ a = -1 ∨ a = 0 ∨ a = 1 ∨ a = 2 ∨ a = 3 ∨ a = 4 ∨ a = 5 ∨ a = 6 ∨ a = 7 ∨ a = 8 ∨ a = 9 := by omega
  rcases this with rfl | rfl | rfl | rfl | rfl | rfl | rfl | rfl | rfl | rfl | rfl | rfl | rfl | rfl | rfl | rfl | rfl | rfl | rfl <;> omega
theorem sAt_here {l : List Sg} {i : Nat} (h : i < l.length) : sAt l i ∈ l := by rw [sAt_get h]; exact List.getElem_mem h
theorem OwnS.shape {w : World} {base : Nat} {v : Value} {l : List Sg} (h : OwnS w base v l) : ∃ p m c, v = .slice p m c ∧ l.length = m := by
  obtain ⟨p, c, rfl, _⟩ := h.sl
  exact ⟨p, _, c, rfl, rfl⟩
theorem slice_zero (w : World) : (zeroValue 22).run Tryz.prog w = .ok (.slice none 0 0) w := by kernel_rfl
theorem group_in {l : List Sg} {k : Nat} {a o : Sg} (h : Upto2 l k) (ho : o ∈ group (l.take k) a) : inSg o := by
  obtain ⟨j, hj, _, rfl⟩ := take_mem (List.mem_filter.1 ho).1
  exact (h j hj).1
set_option maxRecDepth 100000 in
set_option maxHeartbeats 8000000 in
theorem table_walk {p : Option Addr} {n c : Nat} {l : List Sg} {w : World} (hv : SL w (.slice p n c) l) (hn : n ≤ 256) : Calls Tryz.prog 17 #[.slice p n c] w (TablePost l w) := by
  obtain ⟨i0, hi, hz0, hz1, hz2⟩ := info_parts info_sight
  obtain ⟨hln, hc, hnc⟩ := hv.len
  have HL := Lib.hid hln
  have HV := Lib.hid hv
  have hno : ¬ (256 : Int) < (n : Int) := by omega
  have hmk : ∀ (t : TypeId) (w : World), (Instr.makeMap t none).run Tryz.prog w = .ok (.map (some w.heap.size)) (w.alloc (.map #[] 0)) := fun _ _ => rfl
  clear hln hv
  go_enter Tryz.func17, Tryz.ntmps17
  go_wp2_with fail
  obtain ⟨w1, hw1⟩ : ∃ z, w.alloc MapO = z := ⟨_, rfl⟩
  have HB1 : Hid (Below w.heap.size w w1) := by rw [← hw1]; exact (Below.refl _ w).alloc (Nat.le_refl _) _
  have HT1 : Hid (∃ D, Holds D (l.take 0) ∧ TabM Tryz.prog 73 w1 (w.heap.size + 1) w.heap.size 0 D) := by
    rw [← hw1]
    exact ⟨_, by rw [List.take_zero]; exact Holds.nil, TabM.made _ _ w⟩
  rw [hw1]
  clear hw1
  go_loopw [16] (fun i wr => ∃ k : Nat, i = .int .i64 k ∧ k ≤ n ∧ Hid (Upto2 l k) ∧ Hid (∃ D, Holds D (l.take k) ∧ TabM Tryz.prog 73 wr (w.heap.size + 1) w.heap.size k D) ∧ Hid (Below w.heap.size w wr)) (fun i _ => n - (intOf i).toNat)
  case atStart => exact ⟨0, rfl, Nat.zero_le _, Upto2.zero l, HT1, HB1⟩
  case round =>
    obtain ⟨k, rfl, hk, HU, HM, HB⟩ := hrel
    by_cases hlt : k < n
    · obtain ⟨b, off, rfl, hb, hat⟩ := HV.out.at HL.out (by omega)
      obtain ⟨a0, a1, a2, a3, a4⟩ := hat wr HB.out k hlt
      obtain ⟨q, hq⟩ : ∃ q, sAt l k = q := ⟨_, rfl⟩
      rw [hq] at a0 a1 a2 a3 a4
      have HQ := Lib.hid hq
      obtain ⟨x, y, z, s, d⟩ := q
      dsimp only at a0 a1 a2 a3 a4
      have i0' : (0 : Int) ≤ (k : Int) := by omega
      have i1' : (k : Int) < (n : Int) := by omega
      clear hat hq
      obtain ⟨g, hg⟩ : ∃ g, wr.heap.size = g := ⟨_, rfl⟩
      obtain ⟨W, hW⟩ : ∃ z0, wr.alloc (sO x y z s d) = z0 := ⟨_, rfl⟩
      have hal : Below wr.heap.size wr W := by rw [← hW]; exact (Below.refl _ wr).alloc (Nat.le_refl _) _
      have HGW : Hid (W.heap[g]? = some (sO x y z s d)) := by rw [← hW, ← hg]; exact World.alloc_heap_new wr _
      have HBW : Hid (Below w.heap.size w W) := HB.out.trans (hal.mono HB.out.size)
      have HMW : Hid (∃ D, Holds D (l.take k) ∧ TabM Tryz.prog 73 W (w.heap.size + 1) w.heap.size k D) := by
        obtain ⟨D, h1, h2⟩ := HM.out
        exact ⟨D, h1, h2.stay fun g _ hg => hal.block g hg⟩
      have HBL : Hid (w.heap.size + 1 ≤ W.heap.size) := by
        obtain ⟨D, _, es, clock, h2, _⟩ := HM.out
        have := (Array.getElem?_eq_some_iff.1 h2).1
        have := hal.size
        show _ ≤ _
        omega
      have HGB : Hid (g ≠ w.heap.size) := by
        obtain ⟨D, _, es, clock, h2, _⟩ := HM.out
        have := (Array.getElem?_eq_some_iff.1 h2).1
        show _ ≠ _
        omega
      have HLT : Hid (∀ V : World, V.heap[w.heap.size]? = W.heap[w.heap.size]? → ∀ v, inSg ⟨x, y, z, s, d⟩ → (Instr.lookup 80 (.map (some w.heap.size)) (kV x y z) false).run Tryz.prog V = .ok v V → v.ownBlock ≠ some g) := fun V hV v hin hrun => by
        obtain ⟨D, _, hT⟩ := HM.out
        have hlt := hT
        obtain ⟨es, clock, h2, _⟩ := hlt
        refine hT.val_lt (hV.trans (hal.block _ (Array.getElem?_eq_some_iff.1 h2).1)) sort_keyed Tryz.underlying80 (slice_zero _) (keyL_of (a := ⟨x, y, z, s, d⟩) hin) hrun (by omega)
      skip
      have c0 : W.cell? ⟨g, 0, none⟩ = some (.int .i64 x) := known_cell HGW.out 0 rfl
      have c1 : W.cell? ⟨g, 1, none⟩ = some (.int .i64 y) := known_cell HGW.out 1 rfl
      have c2 : W.cell? ⟨g, 2, none⟩ = some (.int .i64 z) := known_cell HGW.out 2 rfl
      have c3 : W.cell? ⟨g, 3, none⟩ = some (.int .i64 s) := known_cell HGW.out 3 rfl
      have c4 : W.cell? ⟨g, 4, none⟩ = some (.int .i64 d) := known_cell HGW.out 4 rfl
      clear hal
      go_wp2_with fail
      clear hW hg a0 a1 a2 a3 a4
      refine (of_any' x y z s d _).mono ?_
      rintro e V0 ⟨rfl, hb⟩
      have HV0 : Hid (Below W.heap.size W V0) := hb
      clear hb c0 c1 c2 c3 c4
      go_wp2_with fail
      go_loopw [22] (fun i wr2 => ∃ j : Nat, i = .int .i64 j ∧ j ≤ 3 ∧ Hid (∀ m, m < j → 0 ≤ srt x y z m ∧ srt x y z m ≤ 63) ∧ Hid (Below W.heap.size W wr2)) (fun i _ => 3 - (intOf i).toNat)
      case atStart => exact ⟨0, rfl, by omega, fun m hm => by omega, HV0⟩
      case round =>
        obtain ⟨j, rfl, hj, HJ, HV1⟩ := hrel
        rcases (by omega : j = 0 ∨ j = 1 ∨ j = 2 ∨ j = 3) with rfl | rfl | rfl | rfl
        · skip
          have hix := idx0 x y z
          go_wp2_with fail
          refine (within_any x 0 63 _).mono ?_
          rintro e V2 ⟨rfl, hb⟩
          have HV2 : Hid (Below W.heap.size W V2) := HV1.out.trans (hb.mono HV1.out.size)
          clear hb
          by_cases hin : 0 ≤ x ∧ x ≤ 63
          · have hbt : (decide (0 ≤ x) && decide (x ≤ 63)) = true := by simp; omega
            have HJ2 : Hid (∀ m, m < 0 + 1 → 0 ≤ srt x y z m ∧ srt x y z m ≤ 63) := fun m hm => by
              rcases Nat.lt_or_ge m 0 with h | h
              · exact HJ.out m h
              · obtain rfl : m = 0 := by omega
                exact hin
            rw [hbt]
            clear hin hbt
            go_wp2
            go_roundw
            case rel => exact ⟨0 + 1, by go_num, by omega, HJ2, HV2⟩
            case measure => simp [intOf]
          · have hbt : (decide (0 ≤ x) && decide (x ≤ 63)) = false := by rw [Bool.and_eq_false_iff, decide_eq_false_iff_not, decide_eq_false_iff_not]; omega
            have HNT : Hid (¬ TableP l) := no_table (by rw [HL.out]; exact hlt) (by rw [HQ.out]; intro h; exact hin (by unfold inSg at h; dsimp only at h; omega))
            rw [hbt]
            clear hin hbt
            skip
            go_wp2
            go_ret
            exact ⟨2, rfl, .inr ⟨HNT.out, rfl⟩, HBW.out.trans (HV2.out.mono HBW.out.size)⟩
        · skip
          have hix := idx1 x y z
          go_wp2_with fail
          refine (within_any y 0 63 _).mono ?_
          rintro e V2 ⟨rfl, hb⟩
          have HV2 : Hid (Below W.heap.size W V2) := HV1.out.trans (hb.mono HV1.out.size)
          clear hb
          by_cases hin : 0 ≤ y ∧ y ≤ 63
          · have hbt : (decide (0 ≤ y) && decide (y ≤ 63)) = true := by simp; omega
            have HJ2 : Hid (∀ m, m < 1 + 1 → 0 ≤ srt x y z m ∧ srt x y z m ≤ 63) := fun m hm => by
              rcases Nat.lt_or_ge m 1 with h | h
              · exact HJ.out m h
              · obtain rfl : m = 1 := by omega
                exact hin
            rw [hbt]
            clear hin hbt
            go_wp2
            go_roundw
            case rel => exact ⟨1 + 1, by go_num, by omega, HJ2, HV2⟩
            case measure => simp [intOf]
          · have hbt : (decide (0 ≤ y) && decide (y ≤ 63)) = false := by rw [Bool.and_eq_false_iff, decide_eq_false_iff_not, decide_eq_false_iff_not]; omega
            have HNT : Hid (¬ TableP l) := no_table (by rw [HL.out]; exact hlt) (by rw [HQ.out]; intro h; exact hin (by unfold inSg at h; dsimp only at h; omega))
            rw [hbt]
            clear hin hbt
            skip
            go_wp2
            go_ret
            exact ⟨2, rfl, .inr ⟨HNT.out, rfl⟩, HBW.out.trans (HV2.out.mono HBW.out.size)⟩
        · skip
          have hix := idx2 x y z
          go_wp2_with fail
          refine (within_any z 0 63 _).mono ?_
          rintro e V2 ⟨rfl, hb⟩
          have HV2 : Hid (Below W.heap.size W V2) := HV1.out.trans (hb.mono HV1.out.size)
          clear hb
          by_cases hin : 0 ≤ z ∧ z ≤ 63
          · have hbt : (decide (0 ≤ z) && decide (z ≤ 63)) = true := by simp; omega
            have HJ2 : Hid (∀ m, m < 2 + 1 → 0 ≤ srt x y z m ∧ srt x y z m ≤ 63) := fun m hm => by
              rcases Nat.lt_or_ge m 2 with h | h
              · exact HJ.out m h
              · obtain rfl : m = 2 := by omega
                exact hin
            rw [hbt]
            clear hin hbt
            go_wp2
            go_roundw
            case rel => exact ⟨2 + 1, by go_num, by omega, HJ2, HV2⟩
            case measure => simp [intOf]
          · have hbt : (decide (0 ≤ z) && decide (z ≤ 63)) = false := by rw [Bool.and_eq_false_iff, decide_eq_false_iff_not, decide_eq_false_iff_not]; omega
            have HNT : Hid (¬ TableP l) := no_table (by rw [HL.out]; exact hlt) (by rw [HQ.out]; intro h; exact hin (by unfold inSg at h; dsimp only at h; omega))
            rw [hbt]
            clear hin hbt
            skip
            go_wp2
            go_ret
            exact ⟨2, rfl, .inr ⟨HNT.out, rfl⟩, HBW.out.trans (HV2.out.mono HBW.out.size)⟩
        · have HG1 := Lib.hid ((HV1.out.block g (Array.getElem?_eq_some_iff.1 HGW.out).1).trans HGW.out)
          have HIN3 : Hid ((0 ≤ x ∧ x ≤ 63) ∧ (0 ≤ y ∧ y ≤ 63) ∧ (0 ≤ z ∧ z ≤ 63)) := ⟨HJ.out 0 (by omega), HJ.out 1 (by omega), HJ.out 2 (by omega)⟩
          clear HJ HV0
          skip
          have c0 := known_cell HG1.out 0 (v := .int .i64 x) rfl
          have c1 := known_cell HG1.out 1 (v := .int .i64 y) rfl
          have c2 := known_cell HG1.out 2 (v := .int .i64 z) rfl
          have c3 := known_cell HG1.out 3 (v := .int .i64 s) rfl
          have c4 := known_cell HG1.out 4 (v := .int .i64 d) rfl
          go_wp2_with fail
          refine (within_any s 0 9 _).mono ?_
          rintro e V2 ⟨rfl, hb⟩
          have HV2 : Hid (Below W.heap.size W V2) := HV1.out.trans (hb.mono HV1.out.size)
          clear hb c0 c1 c2 c3 c4 HG1 HV1
          by_cases hs9 : 0 ≤ s ∧ s ≤ 9
          · have hbt : (decide (0 ≤ s) && decide (s ≤ 9)) = true := by simp; omega
            rw [hbt]
            clear hbt
            have HG2 := Lib.hid ((HV2.out.block g (Array.getElem?_eq_some_iff.1 HGW.out).1).trans HGW.out)
            skip
            have c0 := known_cell HG2.out 0 (v := .int .i64 x) rfl
            have c1 := known_cell HG2.out 1 (v := .int .i64 y) rfl
            have c2 := known_cell HG2.out 2 (v := .int .i64 z) rfl
            have c3 := known_cell HG2.out 3 (v := .int .i64 s) rfl
            have c4 := known_cell HG2.out 4 (v := .int .i64 d) rfl
            go_wp2_with fail
            refine (within_any d 0 100000 _).mono ?_
            rintro e V3 ⟨rfl, hb⟩
            have HV3 : Hid (Below W.heap.size W V3) := HV2.out.trans (hb.mono HV2.out.size)
            clear hb c0 c1 c2 c3 c4 HG2 HV2
            by_cases hd9 : 0 ≤ d ∧ d ≤ 100000
            · have hbt : (decide (0 ≤ d) && decide (d ≤ 100000)) = true := by simp; omega
              rw [hbt]
              have HINS : Hid (inSg ⟨x, y, z, s, d⟩) := ⟨HIN3.out.1, HIN3.out.2.1, HIN3.out.2.2, hs9, hd9⟩
              have HG3 := Lib.hid ((HV3.out.block g (Array.getElem?_eq_some_iff.1 HGW.out).1).trans HGW.out)
              clear hbt
              skip
              have c0 := known_cell HG3.out 0 (v := .int .i64 x) rfl
              have c1 := known_cell HG3.out 1 (v := .int .i64 y) rfl
              have c2 := known_cell HG3.out 2 (v := .int .i64 z) rfl
              have c3 := known_cell HG3.out 3 (v := .int .i64 s) rfl
              have c4 := known_cell HG3.out 4 (v := .int .i64 d) rfl
              go_wp2_with fail
              refine (of_any' x y z s d _).mono ?_
              rintro e V4 ⟨rfl, hb⟩
              have HV4 : Hid (Below W.heap.size W V4) := HV3.out.trans (hb.mono HV3.out.size)
              have HG4 := Lib.hid ((HV4.out.block g (Array.getElem?_eq_some_iff.1 HGW.out).1).trans HGW.out)
              clear hb c0 c1 c2 c3 c4 HG3 HV3
              obtain ⟨D, hHD, hTD0⟩ := HMW.out
              have hTD := hTD0.stay (w' := V4) fun g _ hg => HV4.out.block g hg
              have HHD := Lib.hid hHD
              have hk9 : k < maxLen := by unfold maxLen; omega
              clear hHD hTD0
              go_wp2_with (at_lookup; refine wpList_look_tab _ rfl _ _ 80 rfl 73 22 sort_keyed Tryz.underlying80 (slice_zero _) rfl hTD hk9 _ (keyL ⟨x, y, z, s, d⟩) rfl (keyL_of HINS.out) ?_; intro v gl hat hown hback; clear hback; obtain ⟨po, m, co, rfl, hm⟩ := hown.shape)
              have HGL : Hid (gl = group (l.take k) ⟨x, y, z, s, d⟩) := tabD_inj (hat.symm.trans (HHD.out.at' _ HINS.out))
              have HSL := Lib.hid hown.sl
              have HGM := Lib.hid hm
              have HSI : Hid (∀ o ∈ gl, inSg o) := fun o ho => group_in (a := ⟨x, y, z, s, d⟩) HU.out (by rw [← HGL.out]; exact ho)
              have hm256 : m ≤ 256 := by
                have := group_len (l.take k) ⟨x, y, z, s, d⟩
                rw [← HGL.out, hm, List.length_take] at this
                omega
              clear hat hown hm hTD
              go_loopw [44] (fun i wr3 => ∃ j : Nat, i = .int .i64 j ∧ j ≤ m ∧ Hid (∀ o ∈ gl.take j, ¬ (0 < (s - o.se) * (d - o.wi) ∨ s = o.se)) ∧ Hid (Below V4.heap.size V4 wr3)) (fun i _ => m - (intOf i).toNat)
              case atStart => exact ⟨0, rfl, Nat.zero_le _, fun o ho => by simp at ho, Below.refl _ _⟩
              case round =>
                obtain ⟨j, rfl, hj, HN, HV5⟩ := hrel
                by_cases hjm : j < m
                · obtain ⟨b2, off2, rfl, hb2, hat2⟩ := HSL.out.at HGM.out (by omega)
                  obtain ⟨e0, e1, e2, e3, e4⟩ := hat2 _ HV5.out j hjm
                  have hoin := HSI.out (sAt gl j) (sAt_here (by rw [HGM.out]; exact hjm))
                  have HOM : Hid (sAt gl j ∈ group (l.take k) ⟨x, y, z, s, d⟩) := by rw [← HGL.out]; exact sAt_here (by rw [HGM.out]; exact hjm)
                  have HTK : Hid (gl.take (j + 1) = gl.take j ++ [sAt gl j]) := take_snoc (by rw [HGM.out]; exact hjm)
                  obtain ⟨q, hq⟩ : ∃ q, sAt gl j = q := ⟨_, rfl⟩
                  rw [hq] at e0 e1 e2 e3 e4 hoin HOM HTK
                  obtain ⟨ox, oy, oz, os, od⟩ := q
                  dsimp only at e0 e1 e2 e3 e4
                  obtain ⟨_, _, _, ho4, ho5⟩ := hoin
                  dsimp only at ho4 ho5
                  have HG5 := Lib.hid ((HV5.out.block g (by have := (Array.getElem?_eq_some_iff.1 HG4.out).1; exact this)).trans HG4.out)
                  have w1 : IntKind.i64.wrap (s - os) = s - os := IntWalk.i64_in _ (by omega)
                  have w2 : IntKind.i64.wrap (d - od) = d - od := IntWalk.i64_in _ (by omega)
                  have hmb := mul_bound (a := s - os) (b := d - od) (by omega) (by omega)
                  have HCL : Hid (0 < (s - os) * (d - od) ∨ s = os → ¬ TableP l) := fun h => by
                    have h9 := HOM.out
                    rw [← HQ.out] at h9
                    refine group_clash (by rw [HL.out]; exact hlt) h9 ?_
                    rw [HQ.out]
                    exact h
                  have HSN : Hid (¬ (0 < (s - os) * (d - od) ∨ s = os) → ∀ o ∈ gl.take (j + 1), ¬ (0 < (s - o.se) * (d - o.wi) ∨ s = o.se)) := fun h o ho => by
                    rw [HTK.out] at ho
                    rcases List.mem_append.1 ho with h1 | h1
                    · exact HN.out o h1
                    · rw [List.mem_singleton] at h1
                      subst h1
                      exact h
                  obtain ⟨pr, hpr⟩ : ∃ pr, (s - os) * (d - od) = pr := ⟨_, rfl⟩
                  rw [hpr] at hmb HCL HSN
                  have w3 : IntKind.i64.wrap pr = pr := IntWalk.i64_in _ (by omega)
                  obtain ⟨g2, hg2⟩ : ∃ z, wr.heap.size = z := ⟨_, rfl⟩
                  obtain ⟨W5, hW5⟩ : ∃ z, wr.alloc (sO ox oy oz os od) = z := ⟨_, rfl⟩
                  have hal : Below wr.heap.size wr W5 := by rw [← hW5]; exact (Below.refl _ wr).alloc (Nat.le_refl _) _
                  have HV6 : Hid (Below V4.heap.size V4 W5) := HV5.out.trans (hal.mono HV5.out.size)
                  have h5 : W5.heap[g]? = some (sO x y z s d) := (hal.block g (Array.getElem?_eq_some_iff.1 HG5.out).1).trans HG5.out
                  have h6 : W5.heap[g2]? = some (sO ox oy oz os od) := by rw [← hW5, ← hg2]; exact World.alloc_heap_new wr _
                  have c3 := known_cell h5 3 (v := .int .i64 s) rfl
                  have c4 := known_cell h5 4 (v := .int .i64 d) rfl
                  have d0 := known_cell h6 0 (v := .int .i64 ox) rfl
                  have d1 := known_cell h6 1 (v := .int .i64 oy) rfl
                  have d2 := known_cell h6 2 (v := .int .i64 oz) rfl
                  have d3 := known_cell h6 3 (v := .int .i64 os) rfl
                  have d4 := known_cell h6 4 (v := .int .i64 od) rfl
                  have j0' : (0 : Int) ≤ (j : Int) := by omega
                  have j1' : (j : Int) < (m : Int) := by omega
                  clear hal h5 h6 hat2 hq
                  by_cases h1 : 0 < pr
                  · have HNT : Hid (¬ TableP l) := HCL.out (.inl h1)
                    go_wp2
                    go_ret
                    exact ⟨2, rfl, .inr ⟨HNT.out, rfl⟩, HBW.out.trans ((HV4.out.trans (HV6.out.mono HV4.out.size)).mono HBW.out.size)⟩
                  · by_cases h2 : s = os
                    · have HNT : Hid (¬ TableP l) := HCL.out (.inr h2)
                      have h2b : (s == os) = true := by rw [beq_iff_eq]; exact h2
                      clear h2
                      go_wp2
                      go_ret
                      exact ⟨2, rfl, .inr ⟨HNT.out, rfl⟩, HBW.out.trans ((HV4.out.trans (HV6.out.mono HV4.out.size)).mono HBW.out.size)⟩
                    · have HN2 : Hid (∀ o ∈ gl.take (j + 1), ¬ (0 < (s - o.se) * (d - o.wi) ∨ s = o.se)) := HSN.out (fun h => by rcases h with h | h; exact h1 h; exact h2 h)
                      have h2b : (s == os) = false := by rw [beq_eq_false_iff_ne]; exact h2
                      clear h2
                      go_wp2
                      go_roundw
                      case rel => exact ⟨j + 1, by go_num, by omega, HN2, HV6⟩
                      case measure => simp [intOf]; omega
                · have HUN : Hid (Upto2 l (k + 1)) := by
                    refine HU.out.succ (by rw [HQ.out]; exact HINS.out) fun i hi => ?_
                    refine none_clash (k := k) (fun o ho => ?_) i hi (by rw [HL.out]; omega)
                    rw [HQ.out] at ho ⊢
                    rw [← HGL.out] at ho
                    have hjm' : j = gl.length := by rw [HGM.out]; omega
                    have := HN.out o (by rw [hjm', List.take_length]; exact ho)
                    exact this
                  have HRR : Hid (Below W.heap.size W wr) := HV4.out.trans (HV5.out.mono HV4.out.size)
                  have HSB : Hid (∀ V, Below W.heap.size W V → SB g x y z s d V) := fun V hV => SB.of ((hV.block g (Array.getElem?_eq_some_iff.1 HGW.out).1).trans HGW.out)
                  have hj1 : ¬ (j : Int) < (m : Int) := by omega
                  go_wp2_with fail
                  have HR0 : Hid (Below W.heap.size W wr.drew) := HRR.out.drew
                  refine float_plain 8 [(false, 9), (false, 10)] [(true, 0), (true, 1), (true, 3), (true, 4), (true, 7), (false, 2), (false, 5), (false, 6)] (SB g x y z s d)
                    (by kernel_rfl) (by kernel_rfl) (fun _ _ o _ _ h => by cases o <;> exact h) (HSB.out _ HR0.out) ?_
                  obtain ⟨V0, hV0⟩ : ∃ z0, wr.drew = z0 := ⟨_, rfl⟩
                  rw [hV0] at HR0 ⊢
                  clear hV0
                  iterate 5
                    refine float_read _ rfl rfl (fun w' hS => by obtain ⟨c0, c1, c2, c3, c4⟩ := hS; go_simp; rfl) ?_
                    simp only [List.getElem_toArray, List.getElem_cons_succ, List.getElem_cons_zero, Act.put, List.setIfInBounds_toArray, List.set_cons_zero, List.set_cons_succ]
                  refine float_write rfl rfl rfl rfl (fun K hK => ?_) (fun K hK => ?_)
                  · skip
                    go_simp
                    obtain ⟨G, hG⟩ : ∃ G, V0.heap.size = G := ⟨_, rfl⟩
                    obtain ⟨V1, hVV⟩ : ∃ z0, V0.alloc (sO x y z s d) = z0 := ⟨_, rfl⟩
                    have hal : Below V0.heap.size V0 V1 := by rw [← hVV]; exact (Below.refl _ _).alloc (Nat.le_refl _) _
                    have HR1 : Hid (Below W.heap.size W V1) := HR0.out.trans (hal.mono HR0.out.size)
                    have HE1 : Hid (V1.heap[G]? = some (sO x y z s d)) := by rw [← hVV, ← hG]; exact World.alloc_heap_new _ _
                    have HAL : Hid (∀ row, V0.grownBy V1 row) := fun row => by rw [← hVV]; exact World.grownBy_alloc _ _ _
                    rw [hG, hVV]
                    refine hK _ _ (HSB.out _ HR1.out) ?_
                    clear hK K hal hVV hG
                    refine steps_write rfl rfl fun K hK => ?_
                    go_simp
                    go_at_call 46
                    refine (of_any' x y z s d _).mono ?_
                    rintro e V2 ⟨rfl, hb⟩
                    have HR2 : Hid (Below W.heap.size W V2) := HR1.out.trans (hb.mono HR1.out.size)
                    have HE2 : Hid (V2.heap[G]? = some (sO x y z s d)) := (hb.block G (Array.getElem?_eq_some_iff.1 HE1.out).1).trans HE1.out
                    refine hK _ _ (.inr (HSB.out _ HR2.out)) ?_
                    clear hK K hb
                    refine steps_write rfl rfl fun K hK => ?_
                    go_simp
                    go_at_call 46
                    refine (of_any' x y z s d _).mono ?_
                    rintro e V3 ⟨rfl, hb⟩
                    have HR3 : Hid (Below W.heap.size W V3) := HR2.out.trans (hb.mono HR2.out.size)
                    have HE3 : Hid (V3.heap[G]? = some (sO x y z s d)) := (hb.block G (Array.getElem?_eq_some_iff.1 HE2.out).1).trans HE2.out
                    refine hK _ _ (.inr (HSB.out _ HR3.out)) ?_
                    clear hK K hb
                    skip
                    obtain ⟨D, hHD, hT0⟩ := HMW.out
                    have hTV := hT0.stay (w' := V3) fun g _ hg => HR3.out.block g hg
                    obtain ⟨v, gl2, hrun, hat, hown, hback⟩ := hTV.look (t := 80) sort_keyed Tryz.underlying80 (slice_zero _) hk9 (keyL_of HINS.out)
                    have HNE := Lib.hid (HLT.out V3 (HR3.out.block _ HBL.out) v HINS.out hrun)
                    have HBK := Lib.hid hback
                    obtain ⟨po, m2, co, rfl, hm2⟩ := hown.shape
                    have HGL2 : Hid (gl2 = group (l.take k) ⟨x, y, z, s, d⟩) := tabD_inj (hat.symm.trans (hHD.at' _ HINS.out))
                    have HHD2 := Lib.hid hHD
                    have HO := Lib.hid hown
                    have HM2 := Lib.hid hm2
                    clear hat hback hTV hT0 hHD hown hm2
                    have HGR : Hid (∀ row, V3.grownBy V3 row) := fun row => ⟨rfl, rfl, rfl, Nat.le_refl _, fun _ _ _ => rfl⟩
                    refine steps_write rfl rfl fun K hK => ?_
                    go_simp
                    refine hK _ _ (.inr (HSB.out _ HR3.out)) ?_
                    clear hK K
                    skip
                    have hownA : V3.ownsRow (w.heap.size + 1) 30 5 (.slice po m2 co) gl2.length (scells gl2) := World.ownsRow.kept HO.out (HGR.out none) (by cases po <;> simp [Value.ownBlock])
                    have hlen256 : gl2.length ≤ 256 := by
                      have := group_len (l.take k) ⟨x, y, z, s, d⟩
                      rw [← HGL2.out, List.length_take] at this
                      omega
                    have hm1 : gl2.length + 1 ≤ maxLen := by unfold maxLen; omega
                    have hm2' : (gl2.length + 1) * 40 ≤ 140737488355328 := by omega
                    have hWV : W.heap.size ≤ V3.heap.size := HR3.out.size
                    have hWb : w.heap.size + 1 ≤ W.heap.size := HBL.out
                    have hm3 : w.heap.size + 1 ≤ V3.heap.size := Nat.le_trans hWb hWV
                    have hnews : ∀ (j : Nat) (u : Value), ([.int .i64 x, .int .i64 y, .int .i64 z, .int .i64 s, .int .i64 d] : List Value)[j]? = some u → V3.cell? ((⟨G, 0, none⟩ : Addr).add j) = some u := World.news_of_block HE3.out
                    refine steps_write rfl rfl fun K hK => ?_
                    refine wp_append_lies _ _ _ _ rfl (w.heap.size + 1) 30 i0 (.agg #[.int .i64 0, .int .i64 0, .int .i64 0, .int .i64 0, .int .i64 0]) 5 40 Tryz.underlying22 hi hz0 hz1 hz2 rfl (by decide) (.slice po m2 co) gl2.length (scells gl2) rfl hownA ⟨G, 0, none⟩ 1 1 [.int .i64 x, .int .i64 y, .int .i64 z, .int .i64 s, .int .i64 d] rfl rfl hnews (by simp [Value.oneCell']) (by decide) hm1 hm2' hm3 (V3.heap.size) rfl ?_
                    intro gg cap5 V10 hown5 hgrow hat5 hlt5
                    have hbg := (HR3.out.block g (Array.getElem?_eq_some_iff.1 HGW.out).1).trans HGW.out
                    have hbg10 : V10.heap[g]? = some (sO x y z s d) := (hgrow.block g (Array.getElem?_eq_some_iff.1 hbg).1 (fun h => HNE.out h.symm)).trans hbg
                    have hown6 : OwnS V10 (w.heap.size + 1) (.slice (some ⟨gg, 0, none⟩) (gl2.length + 1) cap5) (gl2 ++ [⟨x, y, z, s, d⟩]) := by
                      unfold OwnS
                      rw [List.length_append, scells_append]
                      exact hown5
                    have hloc : (Value.slice (some ⟨gg, 0, none⟩) (gl2.length + 1) cap5).ownBlock = (Value.slice po m2 co).ownBlock ∨ ∃ g3, (Value.slice (some ⟨gg, 0, none⟩) (gl2.length + 1) cap5).ownBlock = some g3 ∧ V3.heap.size ≤ g3 := by
                      rcases hat5 with h | h
                      · exact .inl h.symm
                      · exact .inr ⟨gg, rfl, by rw [h]; exact (HGR.out none).size⟩
                    obtain ⟨w2, hrun2, hT2, hgrow2⟩ := HBK.out V10 _ _ ((HGR.out _).trans hgrow) hown6 hloc
                    have hbg11 : w2.heap[g]? = some (sO x y z s d) := (hgrow2.block g (Array.getElem?_eq_some_iff.1 hbg10).1 (fun h => by injection h with h; exact HGB.out h)).trans hbg10
                    have HBN : Hid (Below w.heap.size w w2) := by
                      have h1 := HBW.out.trans (HR3.out.mono HBW.out.size)
                      have h2 := h1.grown hgrow (Nat.le_trans HBW.out.size hWV) (fun z hz => by have := (World.ownsRow.lt hownA z hz).1; omega)
                      exact h2.grown hgrow2 (Nat.le_trans (Nat.le_trans HBW.out.size hWV) hgrow.size) (fun z hz => by injection hz with hz; omega)
                    have HTN : Hid (∃ D, Holds D (l.take (k + 1)) ∧ TabM Tryz.prog 73 w2 (w.heap.size + 1) w.heap.size (k + 1) D) := by
                      refine ⟨_, ?_, hT2⟩
                      have h := HHD2.out.snoc HINS.out (by have := hT2.isMap; rw [HGL2.out] at this; exact this)
                      rw [take_snoc (by rw [HL.out]; exact hlt), HQ.out, HGL2.out]
                      exact h
                    refine hK _ _ (.inr (SB.of hbg10)) ?_
                    clear hK K hown5 hown6 hloc hgrow hgrow2 hat5 hlt5 hnews hm3 hm1 hm2' hownA hT2 hbg
                    refine steps_write rfl rfl fun K hK => ?_
                    go_simp
                    refine hK _ _ (.inr (SB.of hbg11)) ?_
                    clear hK K
                    refine steps_end ?_
                    clear hrun hrun2 hbg10 hbg11
                    go_wp2
                    go_roundw
                    case rel => exact ⟨k + 1, by go_num, by omega, HUN, HTN, HBN⟩
                    case measure => simp [intOf]; omega
                  · skip
                    go_simp
                    go_at_call 46
                    refine (of_any' x y z s d _).mono ?_
                    rintro e V1 ⟨rfl, hb⟩
                    have HR1 : Hid (Below W.heap.size W V1) := HR0.out.trans (hb.mono HR0.out.size)
                    refine hK _ _ (HSB.out _ HR1.out) ?_
                    clear hK K hb
                    refine float_write rfl rfl rfl rfl (fun K hK => ?_) (fun K hK => ?_)
                    · skip
                      go_simp
                      obtain ⟨G, hG⟩ : ∃ G, V1.heap.size = G := ⟨_, rfl⟩
                      obtain ⟨V2, hVV⟩ : ∃ z0, V1.alloc (sO x y z s d) = z0 := ⟨_, rfl⟩
                      have hal : Below V1.heap.size V1 V2 := by rw [← hVV]; exact (Below.refl _ _).alloc (Nat.le_refl _) _
                      have HR2 : Hid (Below W.heap.size W V2) := HR1.out.trans (hal.mono HR1.out.size)
                      have HE2 : Hid (V2.heap[G]? = some (sO x y z s d)) := by rw [← hVV, ← hG]; exact World.alloc_heap_new _ _
                      have HAL : Hid (∀ row, V1.grownBy V2 row) := fun row => by rw [← hVV]; exact World.grownBy_alloc _ _ _
                      rw [hG, hVV]
                      refine hK _ _ (HSB.out _ HR2.out) ?_
                      clear hK K hal hVV hG
                      refine steps_write rfl rfl fun K hK => ?_
                      go_simp
                      go_at_call 46
                      refine (of_any' x y z s d _).mono ?_
                      rintro e V3 ⟨rfl, hb⟩
                      have HR3 : Hid (Below W.heap.size W V3) := HR2.out.trans (hb.mono HR2.out.size)
                      have HE3 : Hid (V3.heap[G]? = some (sO x y z s d)) := (hb.block G (Array.getElem?_eq_some_iff.1 HE2.out).1).trans HE2.out
                      refine hK _ _ (.inr (HSB.out _ HR3.out)) ?_
                      clear hK K hb
                      skip
                      obtain ⟨D, hHD, hT0⟩ := HMW.out
                      have hTV := hT0.stay (w' := V3) fun g _ hg => HR3.out.block g hg
                      obtain ⟨v, gl2, hrun, hat, hown, hback⟩ := hTV.look (t := 80) sort_keyed Tryz.underlying80 (slice_zero _) hk9 (keyL_of HINS.out)
                      have HNE := Lib.hid (HLT.out V3 (HR3.out.block _ HBL.out) v HINS.out hrun)
                      have HBK := Lib.hid hback
                      obtain ⟨po, m2, co, rfl, hm2⟩ := hown.shape
                      have HGL2 : Hid (gl2 = group (l.take k) ⟨x, y, z, s, d⟩) := tabD_inj (hat.symm.trans (hHD.at' _ HINS.out))
                      have HHD2 := Lib.hid hHD
                      have HO := Lib.hid hown
                      have HM2 := Lib.hid hm2
                      clear hat hback hTV hT0 hHD hown hm2
                      have HGR : Hid (∀ row, V3.grownBy V3 row) := fun row => ⟨rfl, rfl, rfl, Nat.le_refl _, fun _ _ _ => rfl⟩
                      refine steps_write rfl rfl fun K hK => ?_
                      go_simp
                      refine hK _ _ (.inr (HSB.out _ HR3.out)) ?_
                      clear hK K
                      skip
                      have hownA : V3.ownsRow (w.heap.size + 1) 30 5 (.slice po m2 co) gl2.length (scells gl2) := World.ownsRow.kept HO.out (HGR.out none) (by cases po <;> simp [Value.ownBlock])
                      have hlen256 : gl2.length ≤ 256 := by
                        have := group_len (l.take k) ⟨x, y, z, s, d⟩
                        rw [← HGL2.out, List.length_take] at this
                        omega
                      have hm1 : gl2.length + 1 ≤ maxLen := by unfold maxLen; omega
                      have hm2' : (gl2.length + 1) * 40 ≤ 140737488355328 := by omega
                      have hWV : W.heap.size ≤ V3.heap.size := HR3.out.size
                      have hWb : w.heap.size + 1 ≤ W.heap.size := HBL.out
                      have hm3 : w.heap.size + 1 ≤ V3.heap.size := Nat.le_trans hWb hWV
                      have hnews : ∀ (j : Nat) (u : Value), ([.int .i64 x, .int .i64 y, .int .i64 z, .int .i64 s, .int .i64 d] : List Value)[j]? = some u → V3.cell? ((⟨G, 0, none⟩ : Addr).add j) = some u := World.news_of_block HE3.out
                      refine steps_write rfl rfl fun K hK => ?_
                      refine wp_append_lies _ _ _ _ rfl (w.heap.size + 1) 30 i0 (.agg #[.int .i64 0, .int .i64 0, .int .i64 0, .int .i64 0, .int .i64 0]) 5 40 Tryz.underlying22 hi hz0 hz1 hz2 rfl (by decide) (.slice po m2 co) gl2.length (scells gl2) rfl hownA ⟨G, 0, none⟩ 1 1 [.int .i64 x, .int .i64 y, .int .i64 z, .int .i64 s, .int .i64 d] rfl rfl hnews (by simp [Value.oneCell']) (by decide) hm1 hm2' hm3 (V3.heap.size) rfl ?_
                      intro gg cap5 V10 hown5 hgrow hat5 hlt5
                      have hbg := (HR3.out.block g (Array.getElem?_eq_some_iff.1 HGW.out).1).trans HGW.out
                      have hbg10 : V10.heap[g]? = some (sO x y z s d) := (hgrow.block g (Array.getElem?_eq_some_iff.1 hbg).1 (fun h => HNE.out h.symm)).trans hbg
                      have hown6 : OwnS V10 (w.heap.size + 1) (.slice (some ⟨gg, 0, none⟩) (gl2.length + 1) cap5) (gl2 ++ [⟨x, y, z, s, d⟩]) := by
                        unfold OwnS
                        rw [List.length_append, scells_append]
                        exact hown5
                      have hloc : (Value.slice (some ⟨gg, 0, none⟩) (gl2.length + 1) cap5).ownBlock = (Value.slice po m2 co).ownBlock ∨ ∃ g3, (Value.slice (some ⟨gg, 0, none⟩) (gl2.length + 1) cap5).ownBlock = some g3 ∧ V3.heap.size ≤ g3 := by
                        rcases hat5 with h | h
                        · exact .inl h.symm
                        · exact .inr ⟨gg, rfl, by rw [h]; exact (HGR.out none).size⟩
                      obtain ⟨w2, hrun2, hT2, hgrow2⟩ := HBK.out V10 _ _ ((HGR.out _).trans hgrow) hown6 hloc
                      have hbg11 : w2.heap[g]? = some (sO x y z s d) := (hgrow2.block g (Array.getElem?_eq_some_iff.1 hbg10).1 (fun h => by injection h with h; exact HGB.out h)).trans hbg10
                      have HBN : Hid (Below w.heap.size w w2) := by
                        have h1 := HBW.out.trans (HR3.out.mono HBW.out.size)
                        have h2 := h1.grown hgrow (Nat.le_trans HBW.out.size hWV) (fun z hz => by have := (World.ownsRow.lt hownA z hz).1; omega)
                        exact h2.grown hgrow2 (Nat.le_trans (Nat.le_trans HBW.out.size hWV) hgrow.size) (fun z hz => by injection hz with hz; omega)
                      have HTN : Hid (∃ D, Holds D (l.take (k + 1)) ∧ TabM Tryz.prog 73 w2 (w.heap.size + 1) w.heap.size (k + 1) D) := by
                        refine ⟨_, ?_, hT2⟩
                        have h := HHD2.out.snoc HINS.out (by have := hT2.isMap; rw [HGL2.out] at this; exact this)
                        rw [take_snoc (by rw [HL.out]; exact hlt), HQ.out, HGL2.out]
                        exact h
                      refine hK _ _ (.inr (SB.of hbg10)) ?_
                      clear hK K hown5 hown6 hloc hgrow hgrow2 hat5 hlt5 hnews hm3 hm1 hm2' hownA hT2 hbg
                      refine steps_write rfl rfl fun K hK => ?_
                      go_simp
                      refine hK _ _ (.inr (SB.of hbg11)) ?_
                      clear hK K
                      refine steps_end ?_
                      clear hrun hrun2 hbg10 hbg11
                      go_wp2
                      go_roundw
                      case rel => exact ⟨k + 1, by go_num, by omega, HUN, HTN, HBN⟩
                      case measure => simp [intOf]; omega
                    · skip
                      go_simp
                      go_at_call 46
                      refine (of_any' x y z s d _).mono ?_
                      rintro e V2 ⟨rfl, hb⟩
                      have HR2 : Hid (Below W.heap.size W V2) := HR1.out.trans (hb.mono HR1.out.size)
                      refine hK _ _ (HSB.out _ HR2.out) ?_
                      clear hK K hb
                      skip
                      obtain ⟨D, hHD, hT0⟩ := HMW.out
                      have hTV := hT0.stay (w' := V2) fun g _ hg => HR2.out.block g hg
                      obtain ⟨v, gl2, hrun, hat, hown, hback⟩ := hTV.look (t := 80) sort_keyed Tryz.underlying80 (slice_zero _) hk9 (keyL_of HINS.out)
                      have HNE := Lib.hid (HLT.out V2 (HR2.out.block _ HBL.out) v HINS.out hrun)
                      have HBK := Lib.hid hback
                      obtain ⟨po, m2, co, rfl, hm2⟩ := hown.shape
                      have HGL2 : Hid (gl2 = group (l.take k) ⟨x, y, z, s, d⟩) := tabD_inj (hat.symm.trans (hHD.at' _ HINS.out))
                      have HHD2 := Lib.hid hHD
                      have HO := Lib.hid hown
                      have HM2 := Lib.hid hm2
                      clear hat hback hTV hT0 hHD hown hm2
                      refine float_write rfl rfl rfl rfl (fun K hK => ?_) (fun K hK => ?_)
                      · clear hrun HNE HBK HHD2 HO HM2 HGL2
                        skip
                        go_simp
                        obtain ⟨G, hG⟩ : ∃ G, V2.heap.size = G := ⟨_, rfl⟩
                        obtain ⟨V3, hVV⟩ : ∃ z0, V2.alloc (sO x y z s d) = z0 := ⟨_, rfl⟩
                        have hal : Below V2.heap.size V2 V3 := by rw [← hVV]; exact (Below.refl _ _).alloc (Nat.le_refl _) _
                        have HR3 : Hid (Below W.heap.size W V3) := HR2.out.trans (hal.mono HR2.out.size)
                        have HE3 : Hid (V3.heap[G]? = some (sO x y z s d)) := by rw [← hVV, ← hG]; exact World.alloc_heap_new _ _
                        have HAL : Hid (∀ row, V2.grownBy V3 row) := fun row => by rw [← hVV]; exact World.grownBy_alloc _ _ _
                        rw [hG, hVV]
                        refine hK _ _ (HSB.out _ HR3.out) ?_
                        clear hK K hal hVV hG
                        skip
                        obtain ⟨D, hHD, hT0⟩ := HMW.out
                        have hTV := hT0.stay (w' := V3) fun g _ hg => HR3.out.block g hg
                        obtain ⟨v, gl2, hrun, hat, hown, hback⟩ := hTV.look (t := 80) sort_keyed Tryz.underlying80 (slice_zero _) hk9 (keyL_of HINS.out)
                        have HNE := Lib.hid (HLT.out V3 (HR3.out.block _ HBL.out) v HINS.out hrun)
                        have HBK := Lib.hid hback
                        obtain ⟨po, m2, co, rfl, hm2⟩ := hown.shape
                        have HGL2 : Hid (gl2 = group (l.take k) ⟨x, y, z, s, d⟩) := tabD_inj (hat.symm.trans (hHD.at' _ HINS.out))
                        have HHD2 := Lib.hid hHD
                        have HO := Lib.hid hown
                        have HM2 := Lib.hid hm2
                        clear hat hback hTV hT0 hHD hown hm2
                        have HGR : Hid (∀ row, V3.grownBy V3 row) := fun row => ⟨rfl, rfl, rfl, Nat.le_refl _, fun _ _ _ => rfl⟩
                        refine steps_write rfl rfl fun K hK => ?_
                        go_simp
                        refine hK _ _ (.inr (HSB.out _ HR3.out)) ?_
                        clear hK K
                        skip
                        have hownA : V3.ownsRow (w.heap.size + 1) 30 5 (.slice po m2 co) gl2.length (scells gl2) := World.ownsRow.kept HO.out (HGR.out none) (by cases po <;> simp [Value.ownBlock])
                        have hlen256 : gl2.length ≤ 256 := by
                          have := group_len (l.take k) ⟨x, y, z, s, d⟩
                          rw [← HGL2.out, List.length_take] at this
                          omega
                        have hm1 : gl2.length + 1 ≤ maxLen := by unfold maxLen; omega
                        have hm2' : (gl2.length + 1) * 40 ≤ 140737488355328 := by omega
                        have hWV : W.heap.size ≤ V3.heap.size := HR3.out.size
                        have hWb : w.heap.size + 1 ≤ W.heap.size := HBL.out
                        have hm3 : w.heap.size + 1 ≤ V3.heap.size := Nat.le_trans hWb hWV
                        have hnews : ∀ (j : Nat) (u : Value), ([.int .i64 x, .int .i64 y, .int .i64 z, .int .i64 s, .int .i64 d] : List Value)[j]? = some u → V3.cell? ((⟨G, 0, none⟩ : Addr).add j) = some u := World.news_of_block HE3.out
                        refine steps_write rfl rfl fun K hK => ?_
                        refine wp_append_lies _ _ _ _ rfl (w.heap.size + 1) 30 i0 (.agg #[.int .i64 0, .int .i64 0, .int .i64 0, .int .i64 0, .int .i64 0]) 5 40 Tryz.underlying22 hi hz0 hz1 hz2 rfl (by decide) (.slice po m2 co) gl2.length (scells gl2) rfl hownA ⟨G, 0, none⟩ 1 1 [.int .i64 x, .int .i64 y, .int .i64 z, .int .i64 s, .int .i64 d] rfl rfl hnews (by simp [Value.oneCell']) (by decide) hm1 hm2' hm3 (V3.heap.size) rfl ?_
                        intro gg cap5 V10 hown5 hgrow hat5 hlt5
                        have hbg := (HR3.out.block g (Array.getElem?_eq_some_iff.1 HGW.out).1).trans HGW.out
                        have hbg10 : V10.heap[g]? = some (sO x y z s d) := (hgrow.block g (Array.getElem?_eq_some_iff.1 hbg).1 (fun h => HNE.out h.symm)).trans hbg
                        have hown6 : OwnS V10 (w.heap.size + 1) (.slice (some ⟨gg, 0, none⟩) (gl2.length + 1) cap5) (gl2 ++ [⟨x, y, z, s, d⟩]) := by
                          unfold OwnS
                          rw [List.length_append, scells_append]
                          exact hown5
                        have hloc : (Value.slice (some ⟨gg, 0, none⟩) (gl2.length + 1) cap5).ownBlock = (Value.slice po m2 co).ownBlock ∨ ∃ g3, (Value.slice (some ⟨gg, 0, none⟩) (gl2.length + 1) cap5).ownBlock = some g3 ∧ V3.heap.size ≤ g3 := by
                          rcases hat5 with h | h
                          · exact .inl h.symm
                          · exact .inr ⟨gg, rfl, by rw [h]; exact (HGR.out none).size⟩
                        obtain ⟨w2, hrun2, hT2, hgrow2⟩ := HBK.out V10 _ _ ((HGR.out _).trans hgrow) hown6 hloc
                        have hbg11 : w2.heap[g]? = some (sO x y z s d) := (hgrow2.block g (Array.getElem?_eq_some_iff.1 hbg10).1 (fun h => by injection h with h; exact HGB.out h)).trans hbg10
                        have HBN : Hid (Below w.heap.size w w2) := by
                          have h1 := HBW.out.trans (HR3.out.mono HBW.out.size)
                          have h2 := h1.grown hgrow (Nat.le_trans HBW.out.size hWV) (fun z hz => by have := (World.ownsRow.lt hownA z hz).1; omega)
                          exact h2.grown hgrow2 (Nat.le_trans (Nat.le_trans HBW.out.size hWV) hgrow.size) (fun z hz => by injection hz with hz; omega)
                        have HTN : Hid (∃ D, Holds D (l.take (k + 1)) ∧ TabM Tryz.prog 73 w2 (w.heap.size + 1) w.heap.size (k + 1) D) := by
                          refine ⟨_, ?_, hT2⟩
                          have h := HHD2.out.snoc HINS.out (by have := hT2.isMap; rw [HGL2.out] at this; exact this)
                          rw [take_snoc (by rw [HL.out]; exact hlt), HQ.out, HGL2.out]
                          exact h
                        refine hK _ _ (.inr (SB.of hbg10)) ?_
                        clear hK K hown5 hown6 hloc hgrow hgrow2 hat5 hlt5 hnews hm3 hm1 hm2' hownA hT2 hbg
                        refine steps_write rfl rfl fun K hK => ?_
                        go_simp
                        refine hK _ _ (.inr (SB.of hbg11)) ?_
                        clear hK K
                        refine steps_end ?_
                        clear hrun hrun2 hbg10 hbg11
                        go_wp2
                        go_roundw
                        case rel => exact ⟨k + 1, by go_num, by omega, HUN, HTN, HBN⟩
                        case measure => simp [intOf]; omega
                      · go_simp
                        refine hK _ _ (HSB.out _ HR2.out) ?_
                        clear hK K
                        refine float_last rfl rfl fun K hK => ?_
                        skip
                        go_simp
                        obtain ⟨G, hG⟩ : ∃ G, V2.heap.size = G := ⟨_, rfl⟩
                        obtain ⟨V3, hVV⟩ : ∃ z0, V2.alloc (sO x y z s d) = z0 := ⟨_, rfl⟩
                        have hal : Below V2.heap.size V2 V3 := by rw [← hVV]; exact (Below.refl _ _).alloc (Nat.le_refl _) _
                        have HR3 : Hid (Below W.heap.size W V3) := HR2.out.trans (hal.mono HR2.out.size)
                        have HE3 : Hid (V3.heap[G]? = some (sO x y z s d)) := by rw [← hVV, ← hG]; exact World.alloc_heap_new _ _
                        have HAL : Hid (∀ row, V2.grownBy V3 row) := fun row => by rw [← hVV]; exact World.grownBy_alloc _ _ _
                        rw [hG, hVV]
                        refine hK _ _ (HSB.out _ HR3.out) ?_
                        clear hK K hal hVV hG
                        have HGR := HAL
                        skip
                        have hownA : V3.ownsRow (w.heap.size + 1) 30 5 (.slice po m2 co) gl2.length (scells gl2) := World.ownsRow.kept HO.out (HGR.out none) (by cases po <;> simp [Value.ownBlock])
                        have hlen256 : gl2.length ≤ 256 := by
                          have := group_len (l.take k) ⟨x, y, z, s, d⟩
                          rw [← HGL2.out, List.length_take] at this
                          omega
                        have hm1 : gl2.length + 1 ≤ maxLen := by unfold maxLen; omega
                        have hm2' : (gl2.length + 1) * 40 ≤ 140737488355328 := by omega
                        have hWV : W.heap.size ≤ V3.heap.size := HR3.out.size
                        have hWb : w.heap.size + 1 ≤ W.heap.size := HBL.out
                        have hm3 : w.heap.size + 1 ≤ V3.heap.size := Nat.le_trans hWb hWV
                        have hnews : ∀ (j : Nat) (u : Value), ([.int .i64 x, .int .i64 y, .int .i64 z, .int .i64 s, .int .i64 d] : List Value)[j]? = some u → V3.cell? ((⟨G, 0, none⟩ : Addr).add j) = some u := World.news_of_block HE3.out
                        refine steps_write rfl rfl fun K hK => ?_
                        refine wp_append_lies _ _ _ _ rfl (w.heap.size + 1) 30 i0 (.agg #[.int .i64 0, .int .i64 0, .int .i64 0, .int .i64 0, .int .i64 0]) 5 40 Tryz.underlying22 hi hz0 hz1 hz2 rfl (by decide) (.slice po m2 co) gl2.length (scells gl2) rfl hownA ⟨G, 0, none⟩ 1 1 [.int .i64 x, .int .i64 y, .int .i64 z, .int .i64 s, .int .i64 d] rfl rfl hnews (by simp [Value.oneCell']) (by decide) hm1 hm2' hm3 (V3.heap.size) rfl ?_
                        intro gg cap5 V10 hown5 hgrow hat5 hlt5
                        have hbg := (HR3.out.block g (Array.getElem?_eq_some_iff.1 HGW.out).1).trans HGW.out
                        have hbg10 : V10.heap[g]? = some (sO x y z s d) := (hgrow.block g (Array.getElem?_eq_some_iff.1 hbg).1 (fun h => HNE.out h.symm)).trans hbg
                        have hown6 : OwnS V10 (w.heap.size + 1) (.slice (some ⟨gg, 0, none⟩) (gl2.length + 1) cap5) (gl2 ++ [⟨x, y, z, s, d⟩]) := by
                          unfold OwnS
                          rw [List.length_append, scells_append]
                          exact hown5
                        have hloc : (Value.slice (some ⟨gg, 0, none⟩) (gl2.length + 1) cap5).ownBlock = (Value.slice po m2 co).ownBlock ∨ ∃ g3, (Value.slice (some ⟨gg, 0, none⟩) (gl2.length + 1) cap5).ownBlock = some g3 ∧ V2.heap.size ≤ g3 := by
                          rcases hat5 with h | h
                          · exact .inl h.symm
                          · exact .inr ⟨gg, rfl, by rw [h]; exact (HGR.out none).size⟩
                        obtain ⟨w2, hrun2, hT2, hgrow2⟩ := HBK.out V10 _ _ ((HGR.out _).trans hgrow) hown6 hloc
                        have hbg11 : w2.heap[g]? = some (sO x y z s d) := (hgrow2.block g (Array.getElem?_eq_some_iff.1 hbg10).1 (fun h => by injection h with h; exact HGB.out h)).trans hbg10
                        have HBN : Hid (Below w.heap.size w w2) := by
                          have h1 := HBW.out.trans (HR3.out.mono HBW.out.size)
                          have h2 := h1.grown hgrow (Nat.le_trans HBW.out.size hWV) (fun z hz => by have := (World.ownsRow.lt hownA z hz).1; omega)
                          exact h2.grown hgrow2 (Nat.le_trans (Nat.le_trans HBW.out.size hWV) hgrow.size) (fun z hz => by injection hz with hz; omega)
                        have HTN : Hid (∃ D, Holds D (l.take (k + 1)) ∧ TabM Tryz.prog 73 w2 (w.heap.size + 1) w.heap.size (k + 1) D) := by
                          refine ⟨_, ?_, hT2⟩
                          have h := HHD2.out.snoc HINS.out (by have := hT2.isMap; rw [HGL2.out] at this; exact this)
                          rw [take_snoc (by rw [HL.out]; exact hlt), HQ.out, HGL2.out]
                          exact h
                        refine hK _ _ (.inr (SB.of hbg10)) ?_
                        clear hK K hown5 hown6 hloc hgrow hgrow2 hat5 hlt5 hnews hm3 hm1 hm2' hownA hT2 hbg
                        refine steps_write rfl rfl fun K hK => ?_
                        go_simp
                        refine hK _ _ (.inr (SB.of hbg11)) ?_
                        clear hK K
                        refine steps_end ?_
                        clear hrun hrun2 hbg10 hbg11
                        go_wp2
                        go_roundw
                        case rel => exact ⟨k + 1, by go_num, by omega, HUN, HTN, HBN⟩
                        case measure => simp [intOf]; omega
            · have hbt : (decide (0 ≤ d) && decide (d ≤ 100000)) = false := by rw [Bool.and_eq_false_iff, decide_eq_false_iff_not, decide_eq_false_iff_not]; omega
              have HNT : Hid (¬ TableP l) := no_table (by rw [HL.out]; exact hlt) (by rw [HQ.out]; intro h; exact hd9 (by unfold inSg at h; dsimp only at h; omega))
              rw [hbt]
              clear hd9 hbt
              skip
              go_wp2
              go_ret
              exact ⟨2, rfl, .inr ⟨HNT.out, rfl⟩, HBW.out.trans (HV3.out.mono HBW.out.size)⟩
          · have hbt : (decide (0 ≤ s) && decide (s ≤ 9)) = false := by rw [Bool.and_eq_false_iff, decide_eq_false_iff_not, decide_eq_false_iff_not]; omega
            have HNT : Hid (¬ TableP l) := no_table (by rw [HL.out]; exact hlt) (by rw [HQ.out]; intro h; exact hs9 (by unfold inSg at h; dsimp only at h; omega))
            rw [hbt]
            clear hs9 hbt
            skip
            go_wp2
            go_ret
            exact ⟨2, rfl, .inr ⟨HNT.out, rfl⟩, HBW.out.trans (HV2.out.mono HBW.out.size)⟩
    · obtain rfl : k = n := by omega
      go_wp2
      go_ret
      have h := HU.out
      rw [← HL.out] at h
      exact ⟨0, rfl, .inl ⟨h.table (by rw [HL.out]; omega), rfl⟩, HB.out⟩
/-- CheckTable. -/
theorem checkTable_any {v : Value} {l : List Sg} {w : World} (hv : SL w v l) : Calls Tryz.prog 17 #[v] w (TablePost l w) := by
  obtain ⟨n, hn⟩ : ∃ n, l.length = n := ⟨_, rfl⟩
  obtain ⟨p, c, rfl⟩ : ∃ p c, v = .slice p n c := by obtain ⟨p, c, h, _⟩ := id hv; exact ⟨_, _, by rw [← hn]; exact h⟩
  by_cases h : n ≤ 256
  · exact table_walk hv h
  · have hno : (256 : Int) < (n : Int) := by omega
    have HNT : Hid (¬ TableP l) := fun ht => h (by rw [← hn]; exact ht.1)
    clear hv hn h
    go_enter Tryz.func17, Tryz.ntmps17
    go_wp2
    go_ret
    exact ⟨2, rfl, .inr ⟨HNT.out, rfl⟩, Below.refl _ _⟩
end Go.Proofs.YtcncdepjbhnknaaGreatDoor
/- The least of the sights that fit, in plain words. -/
namespace Go.Proofs.YtcncdepjbhnknaaGreatDoor
open Go.RowKit Go.Shelf

def fitB (sn ob li se : Int) (a : Sg) : Bool := decide (a.sn = sn) && decide (a.ob = ob) && decide (a.li = li) && decide (se ≤ a.se)
theorem fitB_iff {sn ob li se : Int} {a : Sg} : fitB sn ob li se a = true ↔ fitS a sn ob li se := by simp [fitB, fitS, and_assoc]
def fitL (l : List Sg) (sn ob li se : Int) : List Sg := l.filter (fitB sn ob li se)
theorem fitL_mem {l : List Sg} {sn ob li se : Int} {m : Sg} (h : m ∈ fitL l sn ob li se) : ∃ i, i < l.length ∧ sAt l i = m ∧ fitS m sn ob li se := by
  obtain ⟨h1, h2⟩ := List.mem_filter.1 h
  obtain ⟨i, hi, rfl⟩ := List.getElem_of_mem h1
  exact ⟨i, hi, sAt_get hi, fitB_iff.1 h2⟩
theorem mem_fitL {l : List Sg} {sn ob li se : Int} {i : Nat} (hi : i < l.length) (h : fitS (sAt l i) sn ob li se) : sAt l i ∈ fitL l sn ob li se :=
  List.mem_filter.2 ⟨by rw [sAt_get hi]; exact List.getElem_mem hi, fitB_iff.2 h⟩
theorem width_none {l : List Sg} {sn ob li se : Int} (h : TableP l) (hf : fitL l sn ob li se = []) : WidthA l sn ob li se 0 7 :=
  .inr (.inl ⟨h, fun i hi hc => (by have := mem_fitL hi hc; rw [hf] at this; cases this), rfl, rfl⟩)
theorem width_least {l : List Sg} {sn ob li se : Int} {m : Sg} (h : TableP l) (hm : m ∈ fitL l sn ob li se) (hle : ∀ x ∈ fitL l sn ob li se, m.se ≤ x.se) : WidthA l sn ob li se m.wi 0 := by
  obtain ⟨i, hi, rfl, hs⟩ := fitL_mem hm
  exact .inr (.inr ⟨h, i, hi, hs, fun j hj hc => hle _ (mem_fitL hj hc), rfl, rfl⟩)
theorem width_arg {l : List Sg} {sn ob li se : Int} (h : ¬ TableP l) : WidthA l sn ob li se 0 2 := .inl ⟨h, rfl, rfl⟩
theorem sAt_mem {l : List Sg} {i : Nat} (h : i < l.length) : sAt l i ∈ l := by rw [sAt_get h]; exact List.getElem_mem h
theorem fit_take {l : List Sg} {sn ob li se : Int} {k : Nat} (hk : k < l.length) : fitL (l.take (k + 1)) sn ob li se = fitL (l.take k) sn ob li se ++ (if fitB sn ob li se (sAt l k) = true then [sAt l k] else []) := by
  unfold fitL
  rw [List.take_add_one, List.getElem?_eq_getElem hk, List.filter_append, sAt_get hk]
  simp [List.filter_cons]
end Go.Proofs.YtcncdepjbhnknaaGreatDoor
