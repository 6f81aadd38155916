/- The parts RCheck, RPlus, RTwo of a proof, put together by program (merge6.py). -/
import Derived.Test.YtcncdepjbhnknaaGreatDoorR02
import Derived.Test.YtcncdepjbhnknaaGreatDoorR01
import Derived.Test.YtcncdepjbhnknaaGreatDoorH11
set_option linter.unusedVariables false
set_option linter.unusedSimpArgs false
namespace Go.Proofs.YtcncdepjbhnknaaGreatDoor
open Go.RowKit Go.Shelf
attribute [local go_sem ↓] Go.wp_at_zero Go.wp_at_succ



theorem decVal_rlim {s : ByteArray} (hd : ∀ c ∈ s.data.toList, isDig c = true) {j : Nat} (hj : s.size ≤ 4 * j) : (limbs 10000 (decVal s.data.toList)).length ≤ j := by
  refine limbs_length_le (by omega) (Nat.lt_of_lt_of_le (decVal_lt hd) ?_)
  have e : (10000 : Nat) ^ j = 10 ^ (4 * j) := by rw [Nat.pow_mul]
  rw [e, size_len]
  exact Nat.pow_le_pow_right (by omega) hj
structure ROk (s t : ByteArray) (n d : Nat) : Prop where
  ds : ∀ c ∈ s.data.toList, isDig c = true
  dt : ∀ c ∈ t.data.toList, isDig c = true
  ls : (limbs 10000 n).length ≤ 150
  lt : (limbs 10000 d).length ≤ 150
  pos : 0 < d
theorem rnok {s : ByteArray} (h : natOk s.data.toList = true) : (∀ c ∈ s.data.toList, isDig c = true) ∧ (limbs 10000 (decVal s.data.toList)).length ≤ 150 := by
  obtain ⟨h1, h2⟩ := canon_of_nat h
  exact ⟨h1.dig, decVal_rlim h1.dig (by rw [← size_len]; omega)⟩
theorem rok {s t : ByteArray} (h : okP s t = true) : ROk s t (decVal s.data.toList) (decVal t.data.toList) := by
  obtain ⟨h1, h2, h3, h4⟩ := okP_iff.1 h
  exact ⟨(rnok h1).1, (rnok h2).1, (rnok h1).2, (rnok h2).2, h3⟩
theorem one_text {g : Nat} : ((str (Lib.decDigits g)).toList == [49]) = decide (g = 1) := by
  rw [ByteArray.toList_eq, str_data]
  by_cases h : g = 1
  · subst h; rw [decDigits_one']; rfl
  · have h2 : ¬ Lib.decDigits g = [49] := fun hc => h (decDigits_inj (by rw [hc, decDigits_one']))
    rw [decide_eq_false h, beq_eq_false_iff_ne]
    exact h2

set_option maxRecDepth 100000 in
set_option maxHeartbeats 4000000 in
theorem rcheck_any (s t : ByteArray) (w : World) (hs : s.size ≤ 1000000) (ht : t.size ≤ 1000000) :
    Calls Tryz.prog 120 #[.agg #[.string s, .string t]] w (IntPost w (okE s t)) := by
  cases h1 : natOk s.data.toList
  · have HQ := Lib.hid (okP_left (t := t) h1)
    have H1 := Lib.hid h1
    obtain ⟨b2, hb2⟩ : ∃ b, natOk t.data.toList = b := ⟨_, rfl⟩
    have H2 := Lib.hid hb2
    clear h1 hb2
    go_enter Tryz.func120, Tryz.ntmps120
    go_wp2_with fail
    refine (rnat_any s _ hs).mono ?_
    rintro e w2 ⟨rfl, rfl⟩
    rw [H1.out]
    have HX1 := Lib.hid (Boxes.one w (.cells #[.string s, .string t] 46))
    have HB1 := Lib.hid ((Below.refl _ w).alloc (Nat.le_refl _) (.cells #[.string s, .string t] 46))
    have c1 := HX1.out.cell 0 1 (b := w.heap.size) rfl rfl rfl
    go_wp2_with fail
    refine (rnat_any t _ ht).mono ?_
    rintro e w3 ⟨rfl, rfl⟩
    rw [H2.out]
    go_wp2
    go_ret
    exact ⟨by rw [okE_no HQ.out]; rfl, HB1.out⟩
  · have H1 := Lib.hid h1
    clear h1
    cases h2 : natOk t.data.toList
    · have HQ := Lib.hid (okP_right (s := s) h2)
      have H2 := Lib.hid h2
      clear h2
      go_enter Tryz.func120, Tryz.ntmps120
      go_wp2_with fail
      refine (rnat_any s _ hs).mono ?_
      rintro e w2 ⟨rfl, rfl⟩
      rw [H1.out]
      have HX1 := Lib.hid (Boxes.one w (.cells #[.string s, .string t] 46))
      have HB1 := Lib.hid ((Below.refl _ w).alloc (Nat.le_refl _) (.cells #[.string s, .string t] 46))
      have c1 := HX1.out.cell 0 1 (b := w.heap.size) rfl rfl rfl
      go_wp2_with fail
      refine (rnat_any t _ ht).mono ?_
      rintro e w3 ⟨rfl, rfl⟩
      rw [H2.out]
      go_wp2
      go_ret
      exact ⟨by rw [okE_no HQ.out]; rfl, HB1.out⟩
    · have HZ := Lib.hid (zero_iff h2)
      have H2 := Lib.hid h2
      clear h2
      have dl : t.toList = t.data.toList := ByteArray.toList_eq ..
      by_cases h0 : decVal t.data.toList = 0
      · have hz : (t.toList == [48]) = true := by
          rw [dl, HZ.out.2 h0]; rfl
        have HQ := Lib.hid (okP_zero (s := s) h0)
        clear h0 dl
        go_enter Tryz.func120, Tryz.ntmps120
        go_wp2_with fail
        refine (rnat_any s _ hs).mono ?_
        rintro e w2 ⟨rfl, rfl⟩
        rw [H1.out]
        have HX1 := Lib.hid (Boxes.one w (.cells #[.string s, .string t] 46))
        have HB1 := Lib.hid ((Below.refl _ w).alloc (Nat.le_refl _) (.cells #[.string s, .string t] 46))
        have c1 := HX1.out.cell 0 1 (b := w.heap.size) rfl rfl rfl
        go_wp2_with fail
        refine (rnat_any t _ ht).mono ?_
        rintro e w3 ⟨rfl, rfl⟩
        rw [H2.out]
        go_wp2
        go_ret
        exact ⟨by rw [okE_no HQ.out]; rfl, HB1.out⟩
      · have hz : (t.toList == [48]) = false := by
          rw [beq_eq_false_iff_ne, dl]
          intro hc
          refine h0 (HZ.out.1 ?_)
          rw [← str_eq t, hc]; rfl
        obtain ⟨ds, ls⟩ := rnok H1.out
        obtain ⟨dt, lt⟩ := rnok H2.out
        have HG : Hid ((Nat.gcd (decVal s.data.toList) (decVal t.data.toList) = 1 → okE s t = 0) ∧ (Nat.gcd (decVal s.data.toList) (decVal t.data.toList) ≠ 1 → okE s t = 2)) :=
          ⟨fun hg => okE_yes (okP_yes H1.out H2.out h0 hg), fun hg => okE_no (okP_gcd hg)⟩
        obtain ⟨n1, hn1⟩ : ∃ n, decVal s.data.toList = n := ⟨_, rfl⟩
        obtain ⟨d1, hd1⟩ : ∃ n, decVal t.data.toList = n := ⟨_, rfl⟩
        have HPS : Hid (∀ W, Calls Tryz.prog 119 #[.string s] W (PPost W n1)) := fun W => by rw [← hn1]; exact rparts_any s hs ds W
        have HPT : Hid (∀ W, Calls Tryz.prog 119 #[.string t] W (PPost W d1)) := fun W => by rw [← hd1]; exact rparts_any t ht dt W
        have hd0 : 0 < d1 := by omega
        rw [hn1] at ls HG
        rw [hd1] at lt HG
        clear h0 dl ds dt hn1 hd1
        go_enter Tryz.func120, Tryz.ntmps120
        go_wp2_with fail
        refine (rnat_any s _ hs).mono ?_
        rintro e w2 ⟨rfl, rfl⟩
        rw [H1.out]
        have HX1 := Lib.hid (Boxes.one w (.cells #[.string s, .string t] 46))
        have HB1 := Lib.hid ((Below.refl _ w).alloc (Nat.le_refl _) (.cells #[.string s, .string t] 46))
        have c1 := HX1.out.cell 0 1 (b := w.heap.size) rfl rfl rfl
        go_wp2_with fail
        refine (rnat_any t _ ht).mono ?_
        rintro e w3 ⟨rfl, rfl⟩
        rw [H2.out]
        have HX1d : Hid (Boxes w.heap.size [.cells #[.string s, .string t] 46] (w.alloc (.cells #[.string s, .string t] 46))) := HX1
        obtain ⟨w1, hw1⟩ : ∃ w1, w.alloc (.cells #[.string s, .string t] 46) = w1 := ⟨_, rfl⟩
        rw [hw1] at HX1 HB1 c1 ⊢
        clear hw1 HX1d c1
        have ka1 := HX1.out.cell 0 0 (b := w.heap.size) rfl rfl rfl
        have kb1 := HX1.out.cell 0 1 (b := w.heap.size) rfl rfl rfl
        go_wp2_with fail
        go_region_held3
          (fun w' => w'.cell? ⟨w.heap.size, 0, none⟩ = some (.string s) ∧ w'.cell? ⟨w.heap.size, 1, none⟩ = some (.string t))
          (first | exact ⟨ka1, kb1⟩ | exact ⟨ka2, kb2⟩ | exact ⟨ka3, kb3⟩ | exact ⟨ka4, kb4⟩)
          (first
            | (go_at_call_of 119 (Value.string s); refine (HPS.out _).mono ?_; rintro e w2 ⟨va, rfl, hv, hb⟩; obtain ⟨pa, ma, ca, rfl⟩ := hv.form; have HA := Lib.hid hv; have HX2 := Lib.hid (HX1.out.drew.below hb HX1.out.lt); have HB2 : Hid (Below w.heap.size w w2) := HB1.out.drew.trans (hb.mono HB1.out.size); have ka2 := HX2.out.cell 0 0 (b := w.heap.size) rfl rfl rfl; have kb2 := HX2.out.cell 0 1 (b := w.heap.size) rfl rfl rfl; clear hv hb)
            | (go_at_call_of 119 (Value.string t); refine (HPT.out _).mono ?_; rintro e w3 ⟨vb, rfl, hv, hb⟩; obtain ⟨pb, mb, cb, rfl⟩ := hv.form; have HC := Lib.hid hv; have HA3 := Lib.hid (HA.out.after hb (Nat.le_refl _)); have HX3 := Lib.hid (HX2.out.below hb HX2.out.lt); have HB3 : Hid (Below w.heap.size w w3) := HB2.out.trans (hb.mono HB2.out.size); have ka3 := HX3.out.cell 0 0 (b := w.heap.size) rfl rfl rfl; have kb3 := HX3.out.cell 0 1 (b := w.heap.size) rfl rfl rfl; clear hv hb)
            | (go_at_call 148; refine (rgcd_any HA3.out HC.out (by omega) (by omega)).mono ?_; rintro e w4 ⟨vg, rfl, hv, hb⟩; obtain ⟨pg, mg, cg, rfl⟩ := hv.form; have HGG := Lib.hid hv; have HX4 := Lib.hid (HX3.out.below hb HX3.out.lt); have HB4 : Hid (Below w.heap.size w w4) := HB3.out.trans (hb.mono HB3.out.size); have ka4 := HX4.out.cell 0 0 (b := w.heap.size) rfl rfl rfl; have kb4 := HX4.out.cell 0 1 (b := w.heap.size) rfl rfl rfl; clear hv hb))
        clear ka1 kb1
        have hgl : (limbs 10000 (Nat.gcd n1 d1)).length ≤ 1000000 := Nat.le_trans (limbs_length_mono (by omega) (Nat.gcd_le_right _ hd0)) (by omega)
        obtain ⟨g, hg⟩ : ∃ g, Nat.gcd n1 d1 = g := ⟨_, rfl⟩
        rw [hg] at hgl HG HGG
        go_wp2_with fail
        refine (rdigits_any HGG.out hgl).mono ?_
        rintro e w5 ⟨rfl, hb5⟩
        have HB5 := Lib.hid (HB4.out.trans (hb5.mono HB4.out.size))
        have h1 := one_text (g := g)
        obtain ⟨z, hz1⟩ : ∃ z, str (Lib.decDigits g) = z := ⟨_, rfl⟩
        rw [hz1] at h1 ⊢
        clear hb5 hz1 hg
        by_cases hg1 : g = 1
        · rw [decide_eq_true hg1] at h1
          have HG := Lib.hid (HG.out.1 hg1)
          clear hg1
          go_wp2
          go_ret
          exact ⟨by rw [HG.out]; rfl, HB5.out⟩
        · rw [decide_eq_false hg1] at h1
          have HG := Lib.hid (HG.out.2 hg1)
          clear hg1
          go_wp2
          go_ret
          exact ⟨by rw [HG.out]; rfl, HB5.out⟩

def bothE (s t u v : ByteArray) : Int := max (okE s t) (okE u v)
theorem bothE_no {s t u v : ByteArray} (h : (okP s t && okP u v) = false) : bothE s t u v = 2 := by
  unfold bothE okE
  cases h1 : okP s t <;> cases h2 : okP u v <;> first | rfl | (rw [h1, h2] at h; exact absurd h (by decide))
theorem bothE_yes {s t u v : ByteArray} (h : (okP s t && okP u v) = true) : bothE s t u v = 0 := by
  unfold bothE okE
  rw [Bool.and_eq_true] at h
  rw [h.1, h.2]; rfl
end Go.Proofs.YtcncdepjbhnknaaGreatDoor
namespace Go.Proofs.YtcncdepjbhnknaaGreatDoor
open Go.RowKit
set_option maxRecDepth 100000 in
set_option maxHeartbeats 4000000 in
theorem rplus_any {v1 v2 : Value} {n m : Nat} {w : World} (h1 : PNum w v1 n) (h2 : PNum w v2 m) (hl1 : (limbs 10000 n).length ≤ 1000000) (hl2 : (limbs 10000 m).length ≤ 1000000) :
    Calls Tryz.prog 123 #[v1, v2] w (PPost w (n + m)) := by
  obtain ⟨i0, hi, hz0, hz1, hz2⟩ := info_parts info_int
  obtain ⟨p1, c1, rfl, _, _, hp1⟩ := h1.1
  obtain ⟨p2, c2, rfl, _, _, hp2⟩ := h2.1
  obtain ⟨xs, hxs⟩ : ∃ xs, limbs 10000 n = xs := ⟨_, rfl⟩
  obtain ⟨ys, hys⟩ : ∃ ys, limbs 10000 m = ys := ⟨_, rfl⟩
  have HXS : Hid (limbs 10000 n = xs ∧ limbs 10000 m = ys) := ⟨hxs, hys⟩
  rw [hxs] at hl1 hp1 ⊢
  rw [hys] at hl2 hp2 ⊢
  have HX : Hid (∀ x ∈ xs, x < 10000) := by rw [← hxs]; exact limbs_lt (by omega) n
  have HY : Hid (∀ x ∈ ys, x < 10000) := by rw [← hys]; exact limbs_lt (by omega) m
  have HP1 := Lib.hid hp1
  have HP2 := Lib.hid hp2
  clear hxs hys hp1 hp2
  go_enter Tryz.func123, Tryz.ntmps123
  go_wp2
  go_loopw [5, 6, 7] (fun vo vc vi wr => ∃ (k c : Nat) (out : List Nat), vi = .int .i64 k ∧ vc = .int .i64 c ∧ k ≤ 1000001 ∧ c ≤ 1 ∧ Hid (SumInv 10000 xs ys k out c) ∧ Hid (Grow .i64 3 wr w.heap.size vo out) ∧ Hid (out.length = k) ∧ Hid (Below w.heap.size w wr)) (fun _ vc vi _ => 2 * 1000002 - 2 * (intOf vi).toNat + (intOf vc).toNat)
  case atStart => exact ⟨0, 0, [], rfl, rfl, by omega, by omega, SumInv.start _ _ _, Grow.nil, rfl, Below.refl _ _⟩
  case round =>
    obtain ⟨k, c, out, rfl, rfl, hk6, hc1, HI, HO, HLEN, HB⟩ := hrel
    obtain ⟨po, no, co, rfl⟩ : ∃ p n c, u5 = .slice p n c := by obtain ⟨q, c, h⟩ := HO.out.form; exact ⟨_, _, _, h⟩
    by_cases hgo : k < xs.length ∨ k < ys.length ∨ 0 < c
    · have hm1 : k + 1 ≤ maxLen := by unfold maxLen; omega
      have hm2 : (k + 1) * 8 ≤ 140737488355328 := by omega
      have HGO : Hid (k < (limbs 10000 n).length ∨ k < (limbs 10000 m).length ∨ 0 < c) := by rw [HXS.out.1, HXS.out.2]; exact hgo
      have HST : Hid (∀ x, x = xs.getD k 0 + c + ys.getD k 0 → SumInv 10000 xs ys (k + 1) (out ++ [x % 10000]) (x / 10000)) := fun x hx => by
        have h1 := HI.out
        have h2 := HGO.out
        obtain ⟨e1, e2⟩ := HXS.out
        rw [← e1, ← e2] at h1 hx ⊢
        exact h1.step (by omega) hx h2
      by_cases hlt1 : k < xs.length
      · obtain ⟨b1, o1, rfl, hb1, a1⟩ := HP1.out (List.ne_nil_of_length_pos (by omega))
        obtain ⟨x, hx⟩ : ∃ x, xs.getD k 0 = x := ⟨_, rfl⟩
        have hxl : x < 10000 := by rw [← hx]; exact getD_lt (by omega) HX.out k
        have cx : wr.cell? ⟨b1, o1 + k, none⟩ = some (.int .i64 (x : Nat)) := (HB.out.cell (p := ⟨b1, o1 + k, none⟩) hb1).trans (a1.getD hlt1 hx)
        have Hx := Lib.hid hx
        clear hx a1 hgo
        by_cases hlt2 : k < ys.length
        · obtain ⟨b2, o2, rfl, hb2, a2⟩ := HP2.out (List.ne_nil_of_length_pos (by omega))
          obtain ⟨y, hy⟩ : ∃ y, ys.getD k 0 = y := ⟨_, rfl⟩
          have hyl : y < 10000 := by rw [← hy]; exact getD_lt (by omega) HY.out k
          have cy : wr.cell? ⟨b2, o2 + k, none⟩ = some (.int .i64 (y : Nat)) := (HB.out.cell (p := ⟨b2, o2 + k, none⟩) hb2).trans (a2.getD hlt2 hy)
          have Hy := Lib.hid hy
          clear hy a2
          have HS := Lib.hid (HST.out (x + c + y) (by first | (rw [Hx.out, Hy.out]; done) | (rw [Hx.out, Hy.out]; omega)))
          have e1 : ((c : Int) + x + y) % 10000 = (((x + c + y) % 10000 : Nat) : Int) := by omega
          have e2 : ((c : Int) + x + y) / 10000 = (((x + c + y) / 10000 : Nat) : Int) := by omega
          have hq1 : (x + c + y) / 10000 ≤ 1 := by omega
          have E1 := Lib.hid e1
          have E2 := Lib.hid e2
          have HQ : Hid (k + 1 ≤ 1000001) := by
            have h1 := HS.out
            obtain ⟨e1, e2⟩ := HXS.out
            rw [← e1, ← e2] at h1
            exact h1.bound (by rw [e1]; exact hl1) (by rw [e2]; exact hl2)
          have HMS : Hid ((x + c + y) / 10000 ≤ 1) := hq1
          clear e1 e2 hq1
          have hown : wr.ownsRow w.heap.size 3 1 (.slice po no co) k ((out).map fun x => Value.int .i64 (x : Nat)) := by
            have := HO.out; unfold Grow at this; rwa [HLEN.out] at this
          have hsz := HB.out.size
          have hownA := hown.alloc (.cells #[.int .i64 (((c : Int) + x + y) % 10000)] 3)
          have hm3 : w.heap.size ≤ (wr.alloc (.cells #[.int .i64 (((c : Int) + x + y) % 10000)] 3)).heap.size := by simp; omega
          go_wp2_with (at_builtin; go_loud (refine wpList_append_own _ rfl _ _ 142 rfl w.heap.size 3 i0 (.int .i64 0) 1 8 Tryz.underlying142 hi hz0 hz1 hz2 rfl (by decide) _ k _ rfl hownA ⟨wr.heap.size, 0, none⟩ 1 1 [.int .i64 (((c : Int) + x + y) % 10000)] rfl rfl (cell_one_new _ _ _) (by simp [Value.oneCell']) hm1 hm2 hm3 ?_); intro v' w1 hown1 hgrow1 _)
          have HG : Hid (Grow .i64 3 w1 w.heap.size v' (out ++ [(x + c + y) % 10000])) := Grow.snoc HLEN.out E1.out hown1
          have HB1 : Hid (Below w.heap.size w w1) := (HB.out.alloc hsz _).grown hgrow1 hm3 (fun z hz => (World.ownsRow.lt hownA z hz).1)
          clear hown hownA hown1 hgrow1
          go_roundw
          case rel => exact ⟨k + 1, _, _, by go_num, by rw [E2.out], HQ.out, HMS.out, HS, HG, by show _ = _; rw [List.length_append, HLEN.out]; rfl, HB1⟩
          case measure => rw [E2.out]; have := HMS.out; have := HQ.out; simp [intOf]; omega
        · have Hy : Hid (ys.getD k 0 = 0) := by show _ = _; simp [List.getD, hlt2]
          have HS := Lib.hid (HST.out (x + c) (by first | (rw [Hx.out, Hy.out]; done) | (rw [Hx.out, Hy.out]; omega)))
          have e1 : ((c : Int) + x) % 10000 = (((x + c) % 10000 : Nat) : Int) := by omega
          have e2 : ((c : Int) + x) / 10000 = (((x + c) / 10000 : Nat) : Int) := by omega
          have hq1 : (x + c) / 10000 ≤ 1 := by omega
          have E1 := Lib.hid e1
          have E2 := Lib.hid e2
          have HQ : Hid (k + 1 ≤ 1000001) := by
            have h1 := HS.out
            obtain ⟨e1, e2⟩ := HXS.out
            rw [← e1, ← e2] at h1
            exact h1.bound (by rw [e1]; exact hl1) (by rw [e2]; exact hl2)
          have HMS : Hid ((x + c) / 10000 ≤ 1) := hq1
          clear e1 e2 hq1
          have hown : wr.ownsRow w.heap.size 3 1 (.slice po no co) k ((out).map fun x => Value.int .i64 (x : Nat)) := by
            have := HO.out; unfold Grow at this; rwa [HLEN.out] at this
          have hsz := HB.out.size
          have hownA := hown.alloc (.cells #[.int .i64 (((c : Int) + x) % 10000)] 3)
          have hm3 : w.heap.size ≤ (wr.alloc (.cells #[.int .i64 (((c : Int) + x) % 10000)] 3)).heap.size := by simp; omega
          go_wp2_with (at_builtin; go_loud (refine wpList_append_own _ rfl _ _ 142 rfl w.heap.size 3 i0 (.int .i64 0) 1 8 Tryz.underlying142 hi hz0 hz1 hz2 rfl (by decide) _ k _ rfl hownA ⟨wr.heap.size, 0, none⟩ 1 1 [.int .i64 (((c : Int) + x) % 10000)] rfl rfl (cell_one_new _ _ _) (by simp [Value.oneCell']) hm1 hm2 hm3 ?_); intro v' w1 hown1 hgrow1 _)
          have HG : Hid (Grow .i64 3 w1 w.heap.size v' (out ++ [(x + c) % 10000])) := Grow.snoc HLEN.out E1.out hown1
          have HB1 : Hid (Below w.heap.size w w1) := (HB.out.alloc hsz _).grown hgrow1 hm3 (fun z hz => (World.ownsRow.lt hownA z hz).1)
          clear hown hownA hown1 hgrow1
          go_roundw
          case rel => exact ⟨k + 1, _, _, by go_num, by rw [E2.out], HQ.out, HMS.out, HS, HG, by show _ = _; rw [List.length_append, HLEN.out]; rfl, HB1⟩
          case measure => rw [E2.out]; have := HMS.out; have := HQ.out; simp [intOf]; omega
      · have Hx : Hid (xs.getD k 0 = 0) := by show _ = _; simp [List.getD, hlt1]
        by_cases hlt2 : k < ys.length
        · obtain ⟨b2, o2, rfl, hb2, a2⟩ := HP2.out (List.ne_nil_of_length_pos (by omega))
          obtain ⟨y, hy⟩ : ∃ y, ys.getD k 0 = y := ⟨_, rfl⟩
          have hyl : y < 10000 := by rw [← hy]; exact getD_lt (by omega) HY.out k
          have cy : wr.cell? ⟨b2, o2 + k, none⟩ = some (.int .i64 (y : Nat)) := (HB.out.cell (p := ⟨b2, o2 + k, none⟩) hb2).trans (a2.getD hlt2 hy)
          have Hy := Lib.hid hy
          clear hy a2 hgo
          have HS := Lib.hid (HST.out (c + y) (by first | (rw [Hx.out, Hy.out]; done) | (rw [Hx.out, Hy.out]; omega)))
          have e1 : ((c : Int) + y) % 10000 = (((c + y) % 10000 : Nat) : Int) := by omega
          have e2 : ((c : Int) + y) / 10000 = (((c + y) / 10000 : Nat) : Int) := by omega
          have hq1 : (c + y) / 10000 ≤ 1 := by omega
          have E1 := Lib.hid e1
          have E2 := Lib.hid e2
          have HQ : Hid (k + 1 ≤ 1000001) := by
            have h1 := HS.out
            obtain ⟨e1, e2⟩ := HXS.out
            rw [← e1, ← e2] at h1
            exact h1.bound (by rw [e1]; exact hl1) (by rw [e2]; exact hl2)
          have HMS : Hid ((c + y) / 10000 ≤ 1) := hq1
          clear e1 e2 hq1
          have hown : wr.ownsRow w.heap.size 3 1 (.slice po no co) k ((out).map fun x => Value.int .i64 (x : Nat)) := by
            have := HO.out; unfold Grow at this; rwa [HLEN.out] at this
          have hsz := HB.out.size
          have hownA := hown.alloc (.cells #[.int .i64 (((c : Int) + y) % 10000)] 3)
          have hm3 : w.heap.size ≤ (wr.alloc (.cells #[.int .i64 (((c : Int) + y) % 10000)] 3)).heap.size := by simp; omega
          go_wp2_with (at_builtin; go_loud (refine wpList_append_own _ rfl _ _ 142 rfl w.heap.size 3 i0 (.int .i64 0) 1 8 Tryz.underlying142 hi hz0 hz1 hz2 rfl (by decide) _ k _ rfl hownA ⟨wr.heap.size, 0, none⟩ 1 1 [.int .i64 (((c : Int) + y) % 10000)] rfl rfl (cell_one_new _ _ _) (by simp [Value.oneCell']) hm1 hm2 hm3 ?_); intro v' w1 hown1 hgrow1 _)
          have HG : Hid (Grow .i64 3 w1 w.heap.size v' (out ++ [(c + y) % 10000])) := Grow.snoc HLEN.out E1.out hown1
          have HB1 : Hid (Below w.heap.size w w1) := (HB.out.alloc hsz _).grown hgrow1 hm3 (fun z hz => (World.ownsRow.lt hownA z hz).1)
          clear hown hownA hown1 hgrow1
          go_roundw
          case rel => exact ⟨k + 1, _, _, by go_num, by rw [E2.out], HQ.out, HMS.out, HS, HG, by show _ = _; rw [List.length_append, HLEN.out]; rfl, HB1⟩
          case measure => rw [E2.out]; have := HMS.out; have := HQ.out; simp [intOf]; omega
        · have Hy : Hid (ys.getD k 0 = 0) := by show _ = _; simp [List.getD, hlt2]
          have hc0 : (0 : Int) < c := by omega
          clear hgo
          have HS := Lib.hid (HST.out (c) (by first | (rw [Hx.out, Hy.out]; done) | (rw [Hx.out, Hy.out]; omega)))
          have e1 : ((c : Int)) % 10000 = (((c) % 10000 : Nat) : Int) := by omega
          have e2 : ((c : Int)) / 10000 = (((c) / 10000 : Nat) : Int) := by omega
          have hq1 : (c) / 10000 ≤ 1 := by omega
          have E1 := Lib.hid e1
          have E2 := Lib.hid e2
          have HQ : Hid (k + 1 ≤ 1000001) := by
            have h1 := HS.out
            obtain ⟨e1, e2⟩ := HXS.out
            rw [← e1, ← e2] at h1
            exact h1.bound (by rw [e1]; exact hl1) (by rw [e2]; exact hl2)
          have HMS : Hid ((c) / 10000 ≤ 1) := hq1
          clear e1 e2 hq1
          have hown : wr.ownsRow w.heap.size 3 1 (.slice po no co) k ((out).map fun x => Value.int .i64 (x : Nat)) := by
            have := HO.out; unfold Grow at this; rwa [HLEN.out] at this
          have hsz := HB.out.size
          have hownA := hown.alloc (.cells #[.int .i64 (((c : Int)) % 10000)] 3)
          have hm3 : w.heap.size ≤ (wr.alloc (.cells #[.int .i64 (((c : Int)) % 10000)] 3)).heap.size := by simp; omega
          go_wp2_with (at_builtin; go_loud (refine wpList_append_own _ rfl _ _ 142 rfl w.heap.size 3 i0 (.int .i64 0) 1 8 Tryz.underlying142 hi hz0 hz1 hz2 rfl (by decide) _ k _ rfl hownA ⟨wr.heap.size, 0, none⟩ 1 1 [.int .i64 (((c : Int)) % 10000)] rfl rfl (cell_one_new _ _ _) (by simp [Value.oneCell']) hm1 hm2 hm3 ?_); intro v' w1 hown1 hgrow1 _)
          have HG : Hid (Grow .i64 3 w1 w.heap.size v' (out ++ [(c) % 10000])) := Grow.snoc HLEN.out E1.out hown1
          have HB1 : Hid (Below w.heap.size w w1) := (HB.out.alloc hsz _).grown hgrow1 hm3 (fun z hz => (World.ownsRow.lt hownA z hz).1)
          clear hown hownA hown1 hgrow1
          go_roundw
          case rel => exact ⟨k + 1, _, _, by go_num, by rw [E2.out], HQ.out, HMS.out, HS, HG, by show _ = _; rw [List.length_append, HLEN.out]; rfl, HB1⟩
          case measure => rw [E2.out]; have := HMS.out; have := HQ.out; simp [intOf]; omega
    · have hc0 : c = 0 := by omega
      subst hc0
      have hn1 : ¬ (k : Int) < xs.length := by omega
      have hn2 : ¬ (k : Int) < ys.length := by omega
      have HD : Hid (out = limbs 10000 (n + m)) := by
        have h1 := HI.out
        obtain ⟨e1, e2⟩ := HXS.out
        rw [← e1, ← e2] at h1
        exact h1.done (by omega) (by rw [e1]; omega) (by rw [e2]; omega)
      clear hgo
      go_wp2
      go_ret
      refine ⟨_, rfl, ?_, HB.out⟩
      have := HO.out.nums
      rw [HD.out] at this
      exact ⟨this, HO.out.pform⟩
end Go.Proofs.YtcncdepjbhnknaaGreatDoor
namespace Go.Proofs.YtcncdepjbhnknaaGreatDoor
open Go.RowKit Go.Shelf
attribute [local go_sem ↓] Go.wp_at_zero Go.wp_at_succ

set_option maxRecDepth 100000 in
set_option maxHeartbeats 4000000 in
theorem rboth_any (s t u v : ByteArray) (w : World) (hs : s.size ≤ 1000000) (ht : t.size ≤ 1000000) (hu : u.size ≤ 1000000) (hv : v.size ≤ 1000000) :
    Calls Tryz.prog 116 #[.agg #[.string s, .string t], .agg #[.string u, .string v]] w (IntPost w (bothE s t u v)) := by
  obtain ⟨c1, hc1⟩ : ∃ c, okE s t = c := ⟨_, rfl⟩
  obtain ⟨c2, hc2⟩ : ∃ c, okE u v = c := ⟨_, rfl⟩
  have HM : Hid (max c1 c2 = bothE s t u v) := by show _ = _; unfold bothE; rw [hc1, hc2]
  have HC1 := Lib.hid hc1
  have HC2 := Lib.hid hc2
  clear hc1 hc2
  go_enter Tryz.func116, Tryz.ntmps116
  go_wp2_with fail
  obtain ⟨w1, hw1⟩ : ∃ w1, (w.alloc (.cells #[.string s, .string t] 46)).alloc (.cells #[.string u, .string v] 46) = w1 := ⟨_, rfl⟩
  rw [hw1]
  have HX1 : Hid (Boxes w.heap.size [.cells #[.string s, .string t] 46, .cells #[.string u, .string v] 46] w1) := by rw [← hw1]; exact Boxes.two w _ _
  have HB1 : Hid (Below w.heap.size w w1) := by rw [← hw1]; exact ((Below.refl _ w).alloc (Nat.le_refl _) _).alloc (by simp) _
  clear hw1
  have ka1 := HX1.out.cell 0 0 (b := w.heap.size) rfl rfl rfl
  have kb1 := HX1.out.cell 0 1 (b := w.heap.size) rfl rfl rfl
  have kc1 := HX1.out.cell 1 0 (b := w.heap.size + 1) rfl rfl rfl
  have kd1 := HX1.out.cell 1 1 (b := w.heap.size + 1) rfl rfl rfl
  go_region_held3
    (fun w' => w'.cell? ⟨w.heap.size, 0, none⟩ = some (.string s) ∧ w'.cell? ⟨w.heap.size, 1, none⟩ = some (.string t) ∧ w'.cell? ⟨w.heap.size + 1, 0, none⟩ = some (.string u) ∧ w'.cell? ⟨w.heap.size + 1, 1, none⟩ = some (.string v))
    (first | exact ⟨ka1, kb1, kc1, kd1⟩ | exact ⟨ka2, kb2, kc2, kd2⟩ | exact ⟨ka3, kb3, kc3, kd3⟩ | exact ⟨ka4, kb4, kc4, kd4⟩ | exact ⟨ka5, kb5, kc5, kd5⟩ | exact ⟨ka6, kb6, kc6, kd6⟩ | exact ⟨ka7, kb7, kc7, kd7⟩ | exact ⟨ka8, kb8, kc8, kd8⟩ | exact ⟨(other_put _ _ _ (by omega) _).trans ka9, (other_put _ _ _ (by omega) _).trans kb9, (other_put _ _ _ (by omega) _).trans kc9, (other_put _ _ _ (by omega) _).trans kd9⟩ | exact ⟨ka9, kb9, kc9, kd9⟩)
    (first
      | (go_at_call_of 120 (Value.agg #[.string s, .string t]); refine (rcheck_any s t _ hs ht).mono ?_; rintro e w2 ⟨rfl, hb⟩; rw [HC1.out]; have HX2 := Lib.hid (HX1.out.drew.below hb HX1.out.lt); have HB2 : Hid (Below w.heap.size w w2) := HB1.out.drew.trans (hb.mono HB1.out.size); have ka2 := HX2.out.cell 0 0 (b := w.heap.size) rfl rfl rfl; have kb2 := HX2.out.cell 0 1 (b := w.heap.size) rfl rfl rfl; have kc2 := HX2.out.cell 1 0 (b := w.heap.size + 1) rfl rfl rfl; have kd2 := HX2.out.cell 1 1 (b := w.heap.size + 1) rfl rfl rfl; clear hb)
      | (go_at_call_of 120 (Value.agg #[.string u, .string v]); refine (rcheck_any u v _ hu hv).mono ?_; rintro e w3 ⟨rfl, hb⟩; rw [HC2.out]; have HX3 := Lib.hid (HX2.out.below hb HX2.out.lt); have HB3 : Hid (Below w.heap.size w w3) := HB2.out.trans (hb.mono HB2.out.size); have ka3 := HX3.out.cell 0 0 (b := w.heap.size) rfl rfl rfl; have kb3 := HX3.out.cell 0 1 (b := w.heap.size) rfl rfl rfl; have kc3 := HX3.out.cell 1 0 (b := w.heap.size + 1) rfl rfl rfl; have kd3 := HX3.out.cell 1 1 (b := w.heap.size + 1) rfl rfl rfl; clear hb))
  go_wp2
  go_ret
  exact ⟨by rw [← HM.out]; rfl, HB3.out⟩

theorem radd_lims {n m k : Nat} (h1 : (limbs 10000 n).length ≤ k) (h2 : (limbs 10000 m).length ≤ k) : (limbs 10000 (n + m)).length ≤ k + 1 := by
  refine limbs_length_le (by omega) ?_
  have a1 := val_lt (limbs_lt (B := 10000) (by omega) n)
  have a2 := val_lt (limbs_lt (B := 10000) (by omega) m)
  rw [val_limbs (by omega)] at a1 a2
  have b1 := Nat.pow_le_pow_right (n := 10000) (by omega) h1
  have b2 := Nat.pow_le_pow_right (n := 10000) (by omega) h2
  rw [Nat.pow_succ]
  omega

set_option maxRecDepth 100000 in
set_option maxHeartbeats 4000000 in
theorem rmul0 (s t u v : ByteArray) (w : World) (hs : s.size ≤ 1000000) (ht : t.size ≤ 1000000) (hu : u.size ≤ 1000000) (hv : v.size ≤ 1000000) :
    Calls Tryz.prog 78 #[.agg #[.string s, .string t], .agg #[.string u, .string v]] w (PartPost (Bi s t u v (Ans (mkRat ((decVal s.data.toList * decVal u.data.toList : Nat) : Int) (decVal t.data.toList * decVal v.data.toList)))) w) := by
  cases hq : (okP s t && okP u v)
  · skip
    have HQ : Hid (bothE s t u v = 2) := bothE_no hq
    have HK := Lib.hid hq
    clear hq
    go_enter Tryz.func78, Tryz.ntmps78
    go_wp2_with fail
    obtain ⟨w1, hw1⟩ : ∃ w1, ((w.alloc (.cells #[.string s, .string t] 46)).alloc (.cells #[.string u, .string v] 46)).alloc (.cells #[.string ⟨#[]⟩, .string ⟨#[]⟩] 46) = w1 := ⟨_, rfl⟩
    rw [hw1]
    have HX1 : Hid (Boxes w.heap.size [.cells #[.string s, .string t] 46, .cells #[.string u, .string v] 46, .cells #[.string ⟨#[]⟩, .string ⟨#[]⟩] 46] w1) := by rw [← hw1]; exact Boxes.three w _ _ _
    have HB1 : Hid (Below w.heap.size w w1) := by rw [← hw1]; exact (((Below.refl _ w).alloc (Nat.le_refl _) _).alloc (by simp) _).alloc (by simp <;> omega) _
    clear hw1
    refine (rboth_any s t u v _ hs ht hu hv).mono ?_
    rintro e w2 ⟨rfl, hb2⟩
    rw [HQ.out]
    have HX2 := Lib.hid (HX1.out.below hb2 HX1.out.lt)
    have HB2 := Lib.hid (HB1.out.trans (hb2.mono HB1.out.size))
    clear hb2
    have r0 := HX2.out.cell 2 0 (b := w.heap.size + 1 + 1) rfl rfl rfl
    have r1 := HX2.out.cell 2 1 (b := w.heap.size + 1 + 1) rfl rfl rfl
    have f0 := HX2.out.free 2 0 (b := w.heap.size + 1 + 1) rfl rfl
    have f1 := HX2.out.free 2 1 (b := w.heap.size + 1 + 1) rfl rfl
    go_wp2
    have q := two_put_cells (HX2.out.block 2 (b := w.heap.size + 1 + 1) rfl rfl) (.string ⟨#[]⟩) (.string ⟨#[]⟩)
    have HBQ := Lib.hid (two_put_below HB2.out (b := w.heap.size + 1 + 1) (by omega) (.string ⟨#[]⟩) (.string ⟨#[]⟩))
    refine bodyPost_ret (v := .tuple #[.agg #[.string ⟨#[]⟩, .string ⟨#[]⟩], .int .i64 2]) (by simp [results, Tryz.f78, go_sem, q.1, q.2]) rfl ⟨_, _, _, rfl, .inl ⟨HK.out, rfl, rfl, rfl⟩, HBQ.out⟩
  · skip
    have HQ : Hid (bothE s t u v = 0) := bothE_yes hq
    have HK := Lib.hid hq
    have hq2 := hq
    rw [Bool.and_eq_true] at hq2
    have g1 := rok hq2.1
    have g2 := rok hq2.2
    obtain ⟨n1, hn1⟩ : ∃ n, decVal s.data.toList = n := ⟨_, rfl⟩
    obtain ⟨d1, hd1⟩ : ∃ n, decVal t.data.toList = n := ⟨_, rfl⟩
    obtain ⟨n2, hn2⟩ : ∃ n, decVal u.data.toList = n := ⟨_, rfl⟩
    obtain ⟨d2, hd2⟩ : ∃ n, decVal v.data.toList = n := ⟨_, rfl⟩
    rw [hn1, hd1] at g1
    rw [hn2, hd2] at g2
    have HPS : Hid (∀ W, Calls Tryz.prog 119 #[.string s] W (PPost W n1)) := fun W => by rw [← hn1]; exact rparts_any s hs g1.ds W
    have HPT : Hid (∀ W, Calls Tryz.prog 119 #[.string t] W (PPost W d1)) := fun W => by rw [← hd1]; exact rparts_any t ht g1.dt W
    have HPU : Hid (∀ W, Calls Tryz.prog 119 #[.string u] W (PPost W n2)) := fun W => by rw [← hn2]; exact rparts_any u hu g2.ds W
    have HPV : Hid (∀ W, Calls Tryz.prog 119 #[.string v] W (PPost W d2)) := fun W => by rw [← hd2]; exact rparts_any v hv g2.dt W
    have l1 := g1.ls
    have l2 := g1.lt
    have l3 := g2.ls
    have l4 := g2.lt
    have z1 := g1.pos
    have z2 := g2.pos
    rw [hn1, hd1, hn2, hd2]
    have HN := Lib.hid (And.intro hn1 (And.intro hd1 (And.intro hn2 hd2)))
    clear hq hq2 g1 g2 hn1 hd1 hn2 hd2
    have HL1 : Hid ((limbs 10000 (n1 * n2)).length ≤ 100000) := Nat.le_trans (rmul_lims l1 l3) (by omega)
    have HL2 : Hid ((limbs 10000 (d1 * d2)).length ≤ 100000) := Nat.le_trans (rmul_lims l2 l4) (by omega)
    have HD0 : Hid (0 < d1 * d2) := Nat.mul_pos z1 z2
    go_enter Tryz.func78, Tryz.ntmps78
    go_wp2_with fail
    obtain ⟨w1, hw1⟩ : ∃ w1, ((w.alloc (.cells #[.string s, .string t] 46)).alloc (.cells #[.string u, .string v] 46)).alloc (.cells #[.string ⟨#[]⟩, .string ⟨#[]⟩] 46) = w1 := ⟨_, rfl⟩
    rw [hw1]
    have HX1 : Hid (Boxes w.heap.size [.cells #[.string s, .string t] 46, .cells #[.string u, .string v] 46, .cells #[.string ⟨#[]⟩, .string ⟨#[]⟩] 46] w1) := by rw [← hw1]; exact Boxes.three w _ _ _
    have HB1 : Hid (Below w.heap.size w w1) := by rw [← hw1]; exact (((Below.refl _ w).alloc (Nat.le_refl _) _).alloc (by simp) _).alloc (by simp <;> omega) _
    clear hw1
    refine (rboth_any s t u v _ hs ht hu hv).mono ?_
    rintro e w2 ⟨rfl, hb2⟩
    rw [HQ.out]
    have HX2 := Lib.hid (HX1.out.below hb2 HX1.out.lt)
    have HB2 := Lib.hid (HB1.out.trans (hb2.mono HB1.out.size))
    clear hb2
    have ka2 := HX2.out.cell 0 0 (b := w.heap.size) rfl rfl rfl
    have kb2 := HX2.out.cell 0 1 (b := w.heap.size) rfl rfl rfl
    have kc2 := HX2.out.cell 1 0 (b := w.heap.size + 1) rfl rfl rfl
    have kd2 := HX2.out.cell 1 1 (b := w.heap.size + 1) rfl rfl rfl
    go_wp2_with fail
    go_region_held3
      (fun w' => w'.cell? ⟨w.heap.size, 0, none⟩ = some (.string s) ∧ w'.cell? ⟨w.heap.size, 1, none⟩ = some (.string t) ∧ w'.cell? ⟨w.heap.size + 1, 0, none⟩ = some (.string u) ∧ w'.cell? ⟨w.heap.size + 1, 1, none⟩ = some (.string v))
      (first | exact ⟨ka1, kb1, kc1, kd1⟩ | exact ⟨ka2, kb2, kc2, kd2⟩ | exact ⟨ka3, kb3, kc3, kd3⟩ | exact ⟨ka4, kb4, kc4, kd4⟩ | exact ⟨ka5, kb5, kc5, kd5⟩ | exact ⟨ka6, kb6, kc6, kd6⟩ | exact ⟨ka7, kb7, kc7, kd7⟩ | exact ⟨ka8, kb8, kc8, kd8⟩ | exact ⟨(other_put _ _ _ (by omega) _).trans ka9, (other_put _ _ _ (by omega) _).trans kb9, (other_put _ _ _ (by omega) _).trans kc9, (other_put _ _ _ (by omega) _).trans kd9⟩ | exact ⟨ka9, kb9, kc9, kd9⟩)
      (first
        | (go_at_call_of 119 (Value.string s); refine (HPS.out _).mono ?_; rintro e w3 ⟨va, rfl, hv, hb⟩; obtain ⟨pa, ma, ca, rfl⟩ := hv.form; have NA := Lib.hid hv;  have HX3 := Lib.hid (HX2.out.drew.below hb HX2.out.lt); have HB3 : Hid (Below w.heap.size w w3) := HB2.out.drew.trans (hb.mono HB2.out.drew.size); have ka3 := HX3.out.cell 0 0 (b := w.heap.size) rfl rfl rfl; have kb3 := HX3.out.cell 0 1 (b := w.heap.size) rfl rfl rfl; have kc3 := HX3.out.cell 1 0 (b := w.heap.size + 1) rfl rfl rfl; have kd3 := HX3.out.cell 1 1 (b := w.heap.size + 1) rfl rfl rfl; clear hv hb)
        | (go_at_call_of 119 (Value.string u); refine (HPU.out _).mono ?_; rintro e w4 ⟨vb, rfl, hv, hb⟩; obtain ⟨pb, mb, cb, rfl⟩ := hv.form; have NB := Lib.hid hv; have NA4 := Lib.hid (NA.out.after hb (Nat.le_refl _)); have HX4 := Lib.hid (HX3.out.below hb HX3.out.lt); have HB4 : Hid (Below w.heap.size w w4) := HB3.out.trans (hb.mono HB3.out.size); have ka4 := HX4.out.cell 0 0 (b := w.heap.size) rfl rfl rfl; have kb4 := HX4.out.cell 0 1 (b := w.heap.size) rfl rfl rfl; have kc4 := HX4.out.cell 1 0 (b := w.heap.size + 1) rfl rfl rfl; have kd4 := HX4.out.cell 1 1 (b := w.heap.size + 1) rfl rfl rfl; clear hv hb)
        | (go_at_call_of 118 (Value.slice pa ma ca); refine (rtimes_any NA4.out NB.out (by omega) (by omega)).mono ?_; rintro e w5 ⟨vc, rfl, hv, hb⟩; obtain ⟨pc, mc, cc, rfl⟩ := hv.form; have NC := Lib.hid hv;  have HX5 := Lib.hid (HX4.out.below hb HX4.out.lt); have HB5 : Hid (Below w.heap.size w w5) := HB4.out.trans (hb.mono HB4.out.size); have ka5 := HX5.out.cell 0 0 (b := w.heap.size) rfl rfl rfl; have kb5 := HX5.out.cell 0 1 (b := w.heap.size) rfl rfl rfl; have kc5 := HX5.out.cell 1 0 (b := w.heap.size + 1) rfl rfl rfl; have kd5 := HX5.out.cell 1 1 (b := w.heap.size + 1) rfl rfl rfl; clear hv hb)
        | (go_at_call_of 119 (Value.string t); refine (HPT.out _).mono ?_; rintro e w6 ⟨vd, rfl, hv, hb⟩; obtain ⟨pd, md, cd, rfl⟩ := hv.form; have ND := Lib.hid hv; have NC6 := Lib.hid (NC.out.after hb (Nat.le_refl _)); have HX6 := Lib.hid (HX5.out.below hb HX5.out.lt); have HB6 : Hid (Below w.heap.size w w6) := HB5.out.trans (hb.mono HB5.out.size); have ka6 := HX6.out.cell 0 0 (b := w.heap.size) rfl rfl rfl; have kb6 := HX6.out.cell 0 1 (b := w.heap.size) rfl rfl rfl; have kc6 := HX6.out.cell 1 0 (b := w.heap.size + 1) rfl rfl rfl; have kd6 := HX6.out.cell 1 1 (b := w.heap.size + 1) rfl rfl rfl; clear hv hb)
        | (go_at_call_of 119 (Value.string v); refine (HPV.out _).mono ?_; rintro e w7 ⟨ve, rfl, hv, hb⟩; obtain ⟨pe, me, ce, rfl⟩ := hv.form; have NE := Lib.hid hv; have NC7 := Lib.hid (NC6.out.after hb (Nat.le_refl _)); have ND7 := Lib.hid (ND.out.after hb (Nat.le_refl _)); have HX7 := Lib.hid (HX6.out.below hb HX6.out.lt); have HB7 : Hid (Below w.heap.size w w7) := HB6.out.trans (hb.mono HB6.out.size); have ka7 := HX7.out.cell 0 0 (b := w.heap.size) rfl rfl rfl; have kb7 := HX7.out.cell 0 1 (b := w.heap.size) rfl rfl rfl; have kc7 := HX7.out.cell 1 0 (b := w.heap.size + 1) rfl rfl rfl; have kd7 := HX7.out.cell 1 1 (b := w.heap.size + 1) rfl rfl rfl; clear hv hb)
        | (go_at_call_of 118 (Value.slice pd md cd); refine (rtimes_any ND7.out NE.out (by omega) (by omega)).mono ?_; rintro e w8 ⟨vf, rfl, hv, hb⟩; obtain ⟨pf, mf, cf, rfl⟩ := hv.form; have NF := Lib.hid hv; have NC8 := Lib.hid (NC7.out.after hb (Nat.le_refl _)); have HX8 := Lib.hid (HX7.out.below hb HX7.out.lt); have HB8 : Hid (Below w.heap.size w w8) := HB7.out.trans (hb.mono HB7.out.size); have ka8 := HX8.out.cell 0 0 (b := w.heap.size) rfl rfl rfl; have kb8 := HX8.out.cell 0 1 (b := w.heap.size) rfl rfl rfl; have kc8 := HX8.out.cell 1 0 (b := w.heap.size + 1) rfl rfl rfl; have kd8 := HX8.out.cell 1 1 (b := w.heap.size + 1) rfl rfl rfl; clear hv hb)
        | (go_at_call 117; refine (made_any NC8.out NF.out HL1.out HL2.out HD0.out).mono ?_; rintro e w9 ⟨x, y, n, rfl, hR, hb9⟩; have HR := Lib.hid hR; have HX9 := Lib.hid (HX8.out.below hb9 HX8.out.lt); have HB9 : Hid (Below w.heap.size w w9) := HB8.out.trans (hb9.mono HB8.out.size); have ka9 := HX9.out.cell 0 0 (b := w.heap.size) rfl rfl rfl; have kb9 := HX9.out.cell 0 1 (b := w.heap.size) rfl rfl rfl; have kc9 := HX9.out.cell 1 0 (b := w.heap.size + 1) rfl rfl rfl; have kd9 := HX9.out.cell 1 1 (b := w.heap.size + 1) rfl rfl rfl; have r0 := HX9.out.cell 2 0 (b := w.heap.size + 1 + 1) rfl rfl rfl; have r1 := HX9.out.cell 2 1 (b := w.heap.size + 1 + 1) rfl rfl rfl; have f0 := HX9.out.free 2 0 (b := w.heap.size + 1 + 1) rfl rfl; have f1 := HX9.out.free 2 1 (b := w.heap.size + 1 + 1) rfl rfl; clear hR hb9)
      )
    all_goals
      have q := two_put_cells (HX9.out.block 2 (b := w.heap.size + 1 + 1) rfl rfl) (.string x) (.string y)
      have HBQ := Lib.hid (two_put_below HB9.out (b := w.heap.size + 1 + 1) (by omega) (.string x) (.string y))
      obtain ⟨wz, hwz⟩ : ∃ wz, (w9.setCell ⟨w.heap.size + 1 + 1, 0, none⟩ (.string x)).setCell ⟨w.heap.size + 1 + 1, 1, none⟩ (.string y) = wz := ⟨_, rfl⟩
      rw [hwz] at q HBQ
      obtain ⟨q0, q1⟩ := q
      rw [hwz]
      clear r0 r1 f0 f1 hwz
      go_wp2
      refine bodyPost_ret (v := .tuple #[.agg #[.string x, .string y], .int .i64 n]) (by simp [results, Tryz.f78, go_sem, q0, q1]) rfl ⟨_, _, _, rfl, ?_, HBQ.out⟩
      exact .inr ⟨HK.out, HR.out⟩

set_option maxRecDepth 100000 in
set_option maxHeartbeats 4000000 in
theorem radd0 (s t u v : ByteArray) (w : World) (hs : s.size ≤ 1000000) (ht : t.size ≤ 1000000) (hu : u.size ≤ 1000000) (hv : v.size ≤ 1000000) :
    Calls Tryz.prog 83 #[.agg #[.string s, .string t], .agg #[.string u, .string v]] w (PartPost (Bi s t u v (Ans (mkRat ((decVal s.data.toList * decVal v.data.toList + decVal u.data.toList * decVal t.data.toList : Nat) : Int) (decVal t.data.toList * decVal v.data.toList)))) w) := by
  cases hq : (okP s t && okP u v)
  · skip
    have HQ : Hid (bothE s t u v = 2) := bothE_no hq
    have HK := Lib.hid hq
    clear hq
    go_enter Tryz.func83, Tryz.ntmps83
    go_wp2_with fail
    obtain ⟨w1, hw1⟩ : ∃ w1, ((w.alloc (.cells #[.string s, .string t] 46)).alloc (.cells #[.string u, .string v] 46)).alloc (.cells #[.string ⟨#[]⟩, .string ⟨#[]⟩] 46) = w1 := ⟨_, rfl⟩
    rw [hw1]
    have HX1 : Hid (Boxes w.heap.size [.cells #[.string s, .string t] 46, .cells #[.string u, .string v] 46, .cells #[.string ⟨#[]⟩, .string ⟨#[]⟩] 46] w1) := by rw [← hw1]; exact Boxes.three w _ _ _
    have HB1 : Hid (Below w.heap.size w w1) := by rw [← hw1]; exact (((Below.refl _ w).alloc (Nat.le_refl _) _).alloc (by simp) _).alloc (by simp <;> omega) _
    clear hw1
    refine (rboth_any s t u v _ hs ht hu hv).mono ?_
    rintro e w2 ⟨rfl, hb2⟩
    rw [HQ.out]
    have HX2 := Lib.hid (HX1.out.below hb2 HX1.out.lt)
    have HB2 := Lib.hid (HB1.out.trans (hb2.mono HB1.out.size))
    clear hb2
    have r0 := HX2.out.cell 2 0 (b := w.heap.size + 1 + 1) rfl rfl rfl
    have r1 := HX2.out.cell 2 1 (b := w.heap.size + 1 + 1) rfl rfl rfl
    have f0 := HX2.out.free 2 0 (b := w.heap.size + 1 + 1) rfl rfl
    have f1 := HX2.out.free 2 1 (b := w.heap.size + 1 + 1) rfl rfl
    go_wp2
    have q := two_put_cells (HX2.out.block 2 (b := w.heap.size + 1 + 1) rfl rfl) (.string ⟨#[]⟩) (.string ⟨#[]⟩)
    have HBQ := Lib.hid (two_put_below HB2.out (b := w.heap.size + 1 + 1) (by omega) (.string ⟨#[]⟩) (.string ⟨#[]⟩))
    refine bodyPost_ret (v := .tuple #[.agg #[.string ⟨#[]⟩, .string ⟨#[]⟩], .int .i64 2]) (by simp [results, Tryz.f83, go_sem, q.1, q.2]) rfl ⟨_, _, _, rfl, .inl ⟨HK.out, rfl, rfl, rfl⟩, HBQ.out⟩
  · skip
    have HQ : Hid (bothE s t u v = 0) := bothE_yes hq
    have HK := Lib.hid hq
    have hq2 := hq
    rw [Bool.and_eq_true] at hq2
    have g1 := rok hq2.1
    have g2 := rok hq2.2
    obtain ⟨n1, hn1⟩ : ∃ n, decVal s.data.toList = n := ⟨_, rfl⟩
    obtain ⟨d1, hd1⟩ : ∃ n, decVal t.data.toList = n := ⟨_, rfl⟩
    obtain ⟨n2, hn2⟩ : ∃ n, decVal u.data.toList = n := ⟨_, rfl⟩
    obtain ⟨d2, hd2⟩ : ∃ n, decVal v.data.toList = n := ⟨_, rfl⟩
    rw [hn1, hd1] at g1
    rw [hn2, hd2] at g2
    have HPS : Hid (∀ W, Calls Tryz.prog 119 #[.string s] W (PPost W n1)) := fun W => by rw [← hn1]; exact rparts_any s hs g1.ds W
    have HPT : Hid (∀ W, Calls Tryz.prog 119 #[.string t] W (PPost W d1)) := fun W => by rw [← hd1]; exact rparts_any t ht g1.dt W
    have HPU : Hid (∀ W, Calls Tryz.prog 119 #[.string u] W (PPost W n2)) := fun W => by rw [← hn2]; exact rparts_any u hu g2.ds W
    have HPV : Hid (∀ W, Calls Tryz.prog 119 #[.string v] W (PPost W d2)) := fun W => by rw [← hd2]; exact rparts_any v hv g2.dt W
    have l1 := g1.ls
    have l2 := g1.lt
    have l3 := g2.ls
    have l4 := g2.lt
    have z1 := g1.pos
    have z2 := g2.pos
    rw [hn1, hd1, hn2, hd2]
    have HN := Lib.hid (And.intro hn1 (And.intro hd1 (And.intro hn2 hd2)))
    clear hq hq2 g1 g2 hn1 hd1 hn2 hd2
    have M1 : Hid ((limbs 10000 (n1 * d2)).length ≤ 300) := Nat.le_trans (rmul_lims l1 l4) (by omega)
    have M2 : Hid ((limbs 10000 (n2 * d1)).length ≤ 300) := Nat.le_trans (rmul_lims l3 l2) (by omega)
    have HL2 : Hid ((limbs 10000 (d1 * d2)).length ≤ 100000) := Nat.le_trans (rmul_lims l2 l4) (by omega)
    have HD0 : Hid (0 < d1 * d2) := Nat.mul_pos z1 z2
    have HL1 : Hid ((limbs 10000 (n1 * d2 + n2 * d1)).length ≤ 100000) := Nat.le_trans (radd_lims M1.out M2.out) (by omega)
    go_enter Tryz.func83, Tryz.ntmps83
    go_wp2_with fail
    obtain ⟨w1, hw1⟩ : ∃ w1, ((w.alloc (.cells #[.string s, .string t] 46)).alloc (.cells #[.string u, .string v] 46)).alloc (.cells #[.string ⟨#[]⟩, .string ⟨#[]⟩] 46) = w1 := ⟨_, rfl⟩
    rw [hw1]
    have HX1 : Hid (Boxes w.heap.size [.cells #[.string s, .string t] 46, .cells #[.string u, .string v] 46, .cells #[.string ⟨#[]⟩, .string ⟨#[]⟩] 46] w1) := by rw [← hw1]; exact Boxes.three w _ _ _
    have HB1 : Hid (Below w.heap.size w w1) := by rw [← hw1]; exact (((Below.refl _ w).alloc (Nat.le_refl _) _).alloc (by simp) _).alloc (by simp <;> omega) _
    clear hw1
    refine (rboth_any s t u v _ hs ht hu hv).mono ?_
    rintro e w2 ⟨rfl, hb2⟩
    rw [HQ.out]
    have HX2 := Lib.hid (HX1.out.below hb2 HX1.out.lt)
    have HB2 := Lib.hid (HB1.out.trans (hb2.mono HB1.out.size))
    clear hb2
    have ka2 := HX2.out.cell 0 0 (b := w.heap.size) rfl rfl rfl
    have kb2 := HX2.out.cell 0 1 (b := w.heap.size) rfl rfl rfl
    have kc2 := HX2.out.cell 1 0 (b := w.heap.size + 1) rfl rfl rfl
    have kd2 := HX2.out.cell 1 1 (b := w.heap.size + 1) rfl rfl rfl
    go_wp2_with fail
    go_region_held3
      (fun w' => w'.cell? ⟨w.heap.size, 0, none⟩ = some (.string s) ∧ w'.cell? ⟨w.heap.size, 1, none⟩ = some (.string t) ∧ w'.cell? ⟨w.heap.size + 1, 0, none⟩ = some (.string u) ∧ w'.cell? ⟨w.heap.size + 1, 1, none⟩ = some (.string v))
      (first | exact ⟨ka1, kb1, kc1, kd1⟩ | exact ⟨ka2, kb2, kc2, kd2⟩ | exact ⟨ka3, kb3, kc3, kd3⟩ | exact ⟨ka4, kb4, kc4, kd4⟩ | exact ⟨ka5, kb5, kc5, kd5⟩ | exact ⟨ka6, kb6, kc6, kd6⟩ | exact ⟨ka7, kb7, kc7, kd7⟩ | exact ⟨ka8, kb8, kc8, kd8⟩ | exact ⟨(other_put _ _ _ (by omega) _).trans ka9, (other_put _ _ _ (by omega) _).trans kb9, (other_put _ _ _ (by omega) _).trans kc9, (other_put _ _ _ (by omega) _).trans kd9⟩ | exact ⟨ka9, kb9, kc9, kd9⟩)
      (first
        | (go_at_call_of 119 (Value.string s); refine (HPS.out _).mono ?_; rintro e w3 ⟨va, rfl, hv, hb⟩; obtain ⟨pa, ma, ca, rfl⟩ := hv.form; have NA := Lib.hid hv;  have HX3 := Lib.hid (HX2.out.drew.below hb HX2.out.lt); have HB3 : Hid (Below w.heap.size w w3) := HB2.out.drew.trans (hb.mono HB2.out.drew.size); have ka3 := HX3.out.cell 0 0 (b := w.heap.size) rfl rfl rfl; have kb3 := HX3.out.cell 0 1 (b := w.heap.size) rfl rfl rfl; have kc3 := HX3.out.cell 1 0 (b := w.heap.size + 1) rfl rfl rfl; have kd3 := HX3.out.cell 1 1 (b := w.heap.size + 1) rfl rfl rfl; clear hv hb)
        | (go_at_call_of 119 (Value.string v); refine (HPV.out _).mono ?_; rintro e w4 ⟨vb, rfl, hv, hb⟩; obtain ⟨pb, mb, cb, rfl⟩ := hv.form; have NB := Lib.hid hv; have NA4 := Lib.hid (NA.out.after hb (Nat.le_refl _)); have HX4 := Lib.hid (HX3.out.below hb HX3.out.lt); have HB4 : Hid (Below w.heap.size w w4) := HB3.out.trans (hb.mono HB3.out.size); have ka4 := HX4.out.cell 0 0 (b := w.heap.size) rfl rfl rfl; have kb4 := HX4.out.cell 0 1 (b := w.heap.size) rfl rfl rfl; have kc4 := HX4.out.cell 1 0 (b := w.heap.size + 1) rfl rfl rfl; have kd4 := HX4.out.cell 1 1 (b := w.heap.size + 1) rfl rfl rfl; clear hv hb)
        | (go_at_call_of 118 (Value.slice pa ma ca); refine (rtimes_any NA4.out NB.out (by omega) (by omega)).mono ?_; rintro e w5 ⟨vc, rfl, hv, hb⟩; obtain ⟨pc, mc, cc, rfl⟩ := hv.form; have NC := Lib.hid hv;  have HX5 := Lib.hid (HX4.out.below hb HX4.out.lt); have HB5 : Hid (Below w.heap.size w w5) := HB4.out.trans (hb.mono HB4.out.size); have ka5 := HX5.out.cell 0 0 (b := w.heap.size) rfl rfl rfl; have kb5 := HX5.out.cell 0 1 (b := w.heap.size) rfl rfl rfl; have kc5 := HX5.out.cell 1 0 (b := w.heap.size + 1) rfl rfl rfl; have kd5 := HX5.out.cell 1 1 (b := w.heap.size + 1) rfl rfl rfl; clear hv hb)
      )
    go_wp2_with fail
    go_region_held3
      (fun w' => w'.cell? ⟨w.heap.size, 0, none⟩ = some (.string s) ∧ w'.cell? ⟨w.heap.size, 1, none⟩ = some (.string t) ∧ w'.cell? ⟨w.heap.size + 1, 0, none⟩ = some (.string u) ∧ w'.cell? ⟨w.heap.size + 1, 1, none⟩ = some (.string v))
      (first | exact ⟨ka1, kb1, kc1, kd1⟩ | exact ⟨ka2, kb2, kc2, kd2⟩ | exact ⟨ka3, kb3, kc3, kd3⟩ | exact ⟨ka4, kb4, kc4, kd4⟩ | exact ⟨ka5, kb5, kc5, kd5⟩ | exact ⟨ka6, kb6, kc6, kd6⟩ | exact ⟨ka7, kb7, kc7, kd7⟩ | exact ⟨ka8, kb8, kc8, kd8⟩ | exact ⟨(other_put _ _ _ (by omega) _).trans ka9, (other_put _ _ _ (by omega) _).trans kb9, (other_put _ _ _ (by omega) _).trans kc9, (other_put _ _ _ (by omega) _).trans kd9⟩ | exact ⟨ka9, kb9, kc9, kd9⟩)
      (first
        | (go_at_call_of 119 (Value.string u); refine (HPU.out _).mono ?_; rintro e w6 ⟨vd, rfl, hv, hb⟩; obtain ⟨pd, md, cd, rfl⟩ := hv.form; have ND := Lib.hid hv; have NC6 := Lib.hid (PNum.after (w := w5.drew) NC.out hb (Nat.le_refl _)); have HX6 := Lib.hid (HX5.out.drew.below hb HX5.out.lt); have HB6 : Hid (Below w.heap.size w w6) := HB5.out.drew.trans (hb.mono HB5.out.drew.size); have ka6 := HX6.out.cell 0 0 (b := w.heap.size) rfl rfl rfl; have kb6 := HX6.out.cell 0 1 (b := w.heap.size) rfl rfl rfl; have kc6 := HX6.out.cell 1 0 (b := w.heap.size + 1) rfl rfl rfl; have kd6 := HX6.out.cell 1 1 (b := w.heap.size + 1) rfl rfl rfl; clear hv hb)
        | (go_at_call_of 119 (Value.string t); refine (HPT.out _).mono ?_; rintro e w7 ⟨ve, rfl, hv, hb⟩; obtain ⟨pe, me, ce, rfl⟩ := hv.form; have NE := Lib.hid hv; have NC7 := Lib.hid (NC6.out.after hb (Nat.le_refl _)); have ND7 := Lib.hid (ND.out.after hb (Nat.le_refl _)); have HX7 := Lib.hid (HX6.out.below hb HX6.out.lt); have HB7 : Hid (Below w.heap.size w w7) := HB6.out.trans (hb.mono HB6.out.size); have ka7 := HX7.out.cell 0 0 (b := w.heap.size) rfl rfl rfl; have kb7 := HX7.out.cell 0 1 (b := w.heap.size) rfl rfl rfl; have kc7 := HX7.out.cell 1 0 (b := w.heap.size + 1) rfl rfl rfl; have kd7 := HX7.out.cell 1 1 (b := w.heap.size + 1) rfl rfl rfl; clear hv hb)
        | (go_at_call_of 118 (Value.slice pd md cd); refine (rtimes_any ND7.out NE.out (by omega) (by omega)).mono ?_; rintro e w8 ⟨vf, rfl, hv, hb⟩; obtain ⟨pf, mf, cf, rfl⟩ := hv.form; have NF := Lib.hid hv; have NC8 := Lib.hid (NC7.out.after hb (Nat.le_refl _)); have HX8 := Lib.hid (HX7.out.below hb HX7.out.lt); have HB8 : Hid (Below w.heap.size w w8) := HB7.out.trans (hb.mono HB7.out.size); have ka8 := HX8.out.cell 0 0 (b := w.heap.size) rfl rfl rfl; have kb8 := HX8.out.cell 0 1 (b := w.heap.size) rfl rfl rfl; have kc8 := HX8.out.cell 1 0 (b := w.heap.size + 1) rfl rfl rfl; have kd8 := HX8.out.cell 1 1 (b := w.heap.size + 1) rfl rfl rfl; clear hv hb)
      )
    go_wp2_with fail
    go_region_held3
      (fun w' => w'.cell? ⟨w.heap.size, 0, none⟩ = some (.string s) ∧ w'.cell? ⟨w.heap.size, 1, none⟩ = some (.string t) ∧ w'.cell? ⟨w.heap.size + 1, 0, none⟩ = some (.string u) ∧ w'.cell? ⟨w.heap.size + 1, 1, none⟩ = some (.string v))
      (first | exact ⟨ka1, kb1, kc1, kd1⟩ | exact ⟨ka2, kb2, kc2, kd2⟩ | exact ⟨ka3, kb3, kc3, kd3⟩ | exact ⟨ka4, kb4, kc4, kd4⟩ | exact ⟨ka5, kb5, kc5, kd5⟩ | exact ⟨ka6, kb6, kc6, kd6⟩ | exact ⟨ka7, kb7, kc7, kd7⟩ | exact ⟨ka8, kb8, kc8, kd8⟩ | exact ⟨(other_put _ _ _ (by omega) _).trans ka9, (other_put _ _ _ (by omega) _).trans kb9, (other_put _ _ _ (by omega) _).trans kc9, (other_put _ _ _ (by omega) _).trans kd9⟩ | exact ⟨ka9, kb9, kc9, kd9⟩)
      (first
        | (go_at_call_of 123 (Value.slice pc mc cc); refine (rplus_any (NC8.out.after (Below.refl w8.heap.size w8).drew (Nat.le_refl _)) (NF.out.after (Below.refl w8.heap.size w8).drew (Nat.le_refl _)) (by have := M1.out; omega) (by have := M2.out; omega)).mono ?_; rintro e w11 ⟨vg, rfl, hv, hb⟩; obtain ⟨pg, mg, cg, rfl⟩ := hv.form; have NG := Lib.hid hv;  have HX11 := Lib.hid (HX8.out.drew.below hb HX8.out.lt); have HB11 : Hid (Below w.heap.size w w11) := HB8.out.drew.trans (hb.mono HB8.out.drew.size); have ka3 := HX11.out.cell 0 0 (b := w.heap.size) rfl rfl rfl; have kb3 := HX11.out.cell 0 1 (b := w.heap.size) rfl rfl rfl; have kc3 := HX11.out.cell 1 0 (b := w.heap.size + 1) rfl rfl rfl; have kd3 := HX11.out.cell 1 1 (b := w.heap.size + 1) rfl rfl rfl; clear hv hb)
        | (go_at_call_of 119 (Value.string t); refine (HPT.out _).mono ?_; rintro e w12 ⟨vh, rfl, hv, hb⟩; obtain ⟨ph, mh, ch, rfl⟩ := hv.form; have NH := Lib.hid hv; have NG12 := Lib.hid (NG.out.after hb (Nat.le_refl _)); have HX12 := Lib.hid (HX11.out.below hb HX11.out.lt); have HB12 : Hid (Below w.heap.size w w12) := HB11.out.trans (hb.mono HB11.out.size); have ka4 := HX12.out.cell 0 0 (b := w.heap.size) rfl rfl rfl; have kb4 := HX12.out.cell 0 1 (b := w.heap.size) rfl rfl rfl; have kc4 := HX12.out.cell 1 0 (b := w.heap.size + 1) rfl rfl rfl; have kd4 := HX12.out.cell 1 1 (b := w.heap.size + 1) rfl rfl rfl; clear hv hb)
        | (go_at_call_of 119 (Value.string v); refine (HPV.out _).mono ?_; rintro e w13 ⟨vi, rfl, hv, hb⟩; obtain ⟨pi, mi, ci, rfl⟩ := hv.form; have NI := Lib.hid hv; have NG13 := Lib.hid (NG12.out.after hb (Nat.le_refl _)); have NH13 := Lib.hid (NH.out.after hb (Nat.le_refl _)); have HX13 := Lib.hid (HX12.out.below hb HX12.out.lt); have HB13 : Hid (Below w.heap.size w w13) := HB12.out.trans (hb.mono HB12.out.size); have ka5 := HX13.out.cell 0 0 (b := w.heap.size) rfl rfl rfl; have kb5 := HX13.out.cell 0 1 (b := w.heap.size) rfl rfl rfl; have kc5 := HX13.out.cell 1 0 (b := w.heap.size + 1) rfl rfl rfl; have kd5 := HX13.out.cell 1 1 (b := w.heap.size + 1) rfl rfl rfl; clear hv hb)
        | (go_at_call_of 118 (Value.slice ph mh ch); refine (rtimes_any NH13.out NI.out (by omega) (by omega)).mono ?_; rintro e w14 ⟨vj, rfl, hv, hb⟩; obtain ⟨pj, mj, cj, rfl⟩ := hv.form; have NJ := Lib.hid hv; have NG14 := Lib.hid (NG13.out.after hb (Nat.le_refl _)); have HX14 := Lib.hid (HX13.out.below hb HX13.out.lt); have HB14 : Hid (Below w.heap.size w w14) := HB13.out.trans (hb.mono HB13.out.size); have ka6 := HX14.out.cell 0 0 (b := w.heap.size) rfl rfl rfl; have kb6 := HX14.out.cell 0 1 (b := w.heap.size) rfl rfl rfl; have kc6 := HX14.out.cell 1 0 (b := w.heap.size + 1) rfl rfl rfl; have kd6 := HX14.out.cell 1 1 (b := w.heap.size + 1) rfl rfl rfl; clear hv hb)
        | (go_at_call 117; refine (made_any NG14.out NJ.out HL1.out HL2.out HD0.out).mono ?_; rintro e w9 ⟨x, y, n, rfl, hR, hb9⟩; have HR := Lib.hid hR; have HX9 := Lib.hid (HX14.out.below hb9 HX14.out.lt); have HB9 : Hid (Below w.heap.size w w9) := HB14.out.trans (hb9.mono HB14.out.size); have ka9 := HX9.out.cell 0 0 (b := w.heap.size) rfl rfl rfl; have kb9 := HX9.out.cell 0 1 (b := w.heap.size) rfl rfl rfl; have kc9 := HX9.out.cell 1 0 (b := w.heap.size + 1) rfl rfl rfl; have kd9 := HX9.out.cell 1 1 (b := w.heap.size + 1) rfl rfl rfl; have r0 := HX9.out.cell 2 0 (b := w.heap.size + 1 + 1) rfl rfl rfl; have r1 := HX9.out.cell 2 1 (b := w.heap.size + 1 + 1) rfl rfl rfl; have f0 := HX9.out.free 2 0 (b := w.heap.size + 1 + 1) rfl rfl; have f1 := HX9.out.free 2 1 (b := w.heap.size + 1 + 1) rfl rfl; clear hR hb9)
      )
    all_goals
      have q := two_put_cells (HX9.out.block 2 (b := w.heap.size + 1 + 1) rfl rfl) (.string x) (.string y)
      have HBQ := Lib.hid (two_put_below HB9.out (b := w.heap.size + 1 + 1) (by omega) (.string x) (.string y))
      obtain ⟨wz, hwz⟩ : ∃ wz, (w9.setCell ⟨w.heap.size + 1 + 1, 0, none⟩ (.string x)).setCell ⟨w.heap.size + 1 + 1, 1, none⟩ (.string y) = wz := ⟨_, rfl⟩
      rw [hwz] at q HBQ
      obtain ⟨q0, q1⟩ := q
      rw [hwz]
      clear r0 r1 f0 f1 hwz
      go_wp2
      refine bodyPost_ret (v := .tuple #[.agg #[.string x, .string y], .int .i64 n]) (by simp [results, Tryz.f83, go_sem, q0, q1]) rfl ⟨_, _, _, rfl, ?_, HBQ.out⟩
      exact .inr ⟨HK.out, HR.out⟩
end Go.Proofs.YtcncdepjbhnknaaGreatDoor
