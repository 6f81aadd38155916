/- The parts Errors, Tried, Steps, Update of a proof, put together by program (merge.py). -/
import Derived.Test.YthbpadjhlkdpeaaGreatDoorG14
import Derived.Test.YthbpadjhlkdpeaaGreatDoorG13
import Derived.Recover
import Derived.Test.YthbpadjhlkdpeaaGreatDoorG03
/- weight's checked, paired: the errors of lists. -/
namespace Go.Proofs.YthbpadjhlkdpeaaGreatDoor
open Go.RowKit Go.Shelf

/-- A list of lists. -/
def LL (w : World) (v : Value) (ls : List (List PP)) : Prop :=
  ∃ b cap, v = .slice (some ⟨b, 0, none⟩) ls.length cap ∧ ls.length ≤ cap ∧ cap ≤ maxLen ∧ b < w.heap.size ∧ ∀ j (h : j < ls.length), ∃ u, w.cell? ⟨b, j, none⟩ = some u ∧ PL w u ls[j]
theorem LL.after {w w' : World} {v : Value} {ls : List (List PP)} {B : Nat} (h : LL w v ls) (hb : Below B w w') (hB : w.heap.size ≤ B) : LL w' v ls := by
  obtain ⟨b, cap, h1, h2, h3, h4, h5⟩ := h
  refine ⟨b, cap, h1, h2, h3, Nat.lt_of_lt_of_le h4 hb.size, fun j hj => ?_⟩
  obtain ⟨u, h6, h7⟩ := h5 j hj
  exact ⟨u, (hb.cell (p := ⟨b, j, none⟩) (by show b < B; omega)).trans h6, h7.after hb hB⟩

/-- What checked answers. -/
def chkL (ls : List (List PP)) : Int := if ls.any (fun l => decide (512 < l.length)) then 3 else if ls.all (fun l => l.all fun p => okP p.1 p.2) then 0 else 2
theorem chkL_long {ls : List (List PP)} {l : List PP} (h : l ∈ ls) (hl : 512 < l.length) : chkL ls = 3 := by
  unfold chkL
  rw [if_pos]
  exact List.any_eq_true.2 ⟨l, h, by simpa using hl⟩
theorem chkL_bad {ls : List (List PP)} (hs : ∀ l ∈ ls, l.length ≤ 512) {l : List PP} (h : l ∈ ls) {p : PP} (hp : p ∈ l) (hb : okP p.1 p.2 = false) : chkL ls = 2 := by
  unfold chkL
  rw [if_neg, if_neg]
  · rw [Bool.not_eq_true, List.all_eq_false]
    exact ⟨l, h, by rw [Bool.not_eq_true, List.all_eq_false]; exact ⟨p, hp, by simp [hb]⟩⟩
  · rw [Bool.not_eq_true, List.any_eq_false]
    intro l hl
    have := hs l hl
    simp; omega
theorem chkL_ok {ls : List (List PP)} (hs : ∀ l ∈ ls, l.length ≤ 512) (h : ∀ l ∈ ls, ∀ p ∈ l, okP p.1 p.2 = true) : chkL ls = 0 := by
  unfold chkL
  rw [if_neg, if_pos]
  · exact List.all_eq_true.2 fun l hl => List.all_eq_true.2 fun p hp => h l hl p hp
  · rw [Bool.not_eq_true, List.any_eq_false]
    intro l hl
    have := hs l hl
    simp; omega

set_option maxRecDepth 100000 in
set_option maxHeartbeats 4000000 in
theorem checked_any {v : Value} {ls : List (List PP)} {w : World} (hv : LL w v ls) (hn : ls.length ≤ 1000) (hsm : (∀ l ∈ ls, l.length ≤ 512) → ∀ l ∈ ls, ∀ p ∈ l, p.1.size ≤ 1000000 ∧ p.2.size ≤ 1000000) :
    Calls Tryz.prog 80 #[v] w (IntPost w (chkL ls)) := by
  obtain ⟨b, cap, rfl, hcap, hmax, hbl, hat⟩ := hv
  obtain ⟨n, hn'⟩ : ∃ n, ls.length = n := ⟨_, rfl⟩
  rw [hn'] at hcap hn ⊢
  unfold maxLen at hmax
  have HN := Lib.hid hn'
  have HA := Lib.hid hat
  have HS := Lib.hid hsm
  clear hn' hat hsm
  go_enter Tryz.func80, Tryz.ntmps80
  go_wp2
  go_loopw [12] (fun i wr => ∃ (k : Nat), i = .int .i64 k ∧ k ≤ n ∧ Hid (∀ j (h : j < ls.length), j < k → ls[j].length ≤ 512) ∧ wr = w) (fun i _ => n - (intOf i).toNat)
  case atStart => exact ⟨0, rfl, Nat.zero_le _, fun j _ h => by omega, rfl⟩
  case round =>
    obtain ⟨k, rfl, hk, HK, rfl⟩ := hrel
    by_cases hlt : k < n
    · have hkl : k < ls.length := by rw [HN.out]; exact hlt
      obtain ⟨u, hc, hpl⟩ := HA.out k hkl
      obtain ⟨q, qc, rfl, _, _, _⟩ := hpl
      obtain ⟨m, hm⟩ : ∃ m, ls[k].length = m := ⟨_, rfl⟩
      rw [hm] at hc
      have HM := Lib.hid hm
      clear hm
      by_cases hg : 512 < m
      · have hg' : (512 : Int) < (m : Nat) := by omega
        have HQ : Hid (chkL ls = 3) := chkL_long (List.getElem_mem hkl) (by rw [HM.out]; exact hg)
        go_wp2
        go_ret
        exact ⟨by rw [HQ.out]; rfl, Below.refl _ _⟩
      · have hg' : ¬ (512 : Int) < (m : Nat) := by omega
        have HK2 : Hid (∀ j (h : j < ls.length), j < k + 1 → ls[j].length ≤ 512) := fun j h1 h2 => by
          rcases Nat.lt_or_ge j k with h3 | h3
          · exact HK.out j h1 h3
          · obtain rfl : j = k := by omega
            rw [HM.out]; omega
        go_wp2
        go_roundw
        case rel => exact ⟨k + 1, by go_num, by omega, HK2, by first | rfl | trivial⟩
        case measure => simp [intOf]; omega
    · have HL : Hid (∀ l ∈ ls, l.length ≤ 512) := fun l hl => by
        obtain ⟨j, hj, rfl⟩ := List.getElem_of_mem hl
        exact HK.out j hj (by rw [HN.out] at hj; omega)
      clear HK
      go_wp2
      obtain ⟨w0, rfl⟩ : ∃ w0 : World, w0 = wr := ⟨_, rfl⟩
      go_loopw [22] (fun i wx => ∃ (k : Nat), i = .int .i64 k ∧ k ≤ n ∧ Hid (∀ j (h : j < ls.length), j < k → ∀ p ∈ ls[j], okP p.1 p.2 = true) ∧ Hid (Below w0.heap.size w0 wx)) (fun i _ => n - (intOf i).toNat)
      case atStart => exact ⟨0, rfl, Nat.zero_le _, fun j _ h => by omega, Below.refl _ _⟩
      case round =>
        obtain ⟨k, rfl, hk, HK, HB⟩ := hrel
        obtain ⟨wx, rfl⟩ : ∃ wx : World, wx = wr := ⟨_, rfl⟩
        by_cases hlt : k < n
        · have hkl : k < ls.length := by rw [HN.out]; exact hlt
          obtain ⟨u, hc, hpl⟩ := HA.out k hkl
          obtain ⟨m, hm⟩ : ∃ m, ls[k].length = m := ⟨_, rfl⟩
          obtain ⟨q, qc, rfl, hqc, hqm, hq⟩ := hpl
          rw [hm] at hc hqc
          have hc' := (HB.out.cell (p := ⟨b, k, none⟩) hbl).trans hc
          have HQ := Lib.hid hq
          have HM := Lib.hid hm
          have hm512 : m ≤ 512 := by rw [← hm]; exact HL.out _ (List.getElem_mem hkl)
          clear hm hq hc
          go_wp2
          go_loopw [28] (fun i wy => ∃ (j : Nat), i = .int .i64 j ∧ j ≤ m ∧ Hid (∀ z (h : z < ls[k].length), z < j → okP ls[k][z].1 ls[k][z].2 = true) ∧ Hid (Below w0.heap.size w0 wy)) (fun i _ => m - (intOf i).toNat)
          case atStart => exact ⟨0, rfl, Nat.zero_le _, fun j _ h => by omega, HB⟩
          case round =>
            obtain ⟨j, rfl, hj, HJ, HY⟩ := hrel
            obtain ⟨wy, rfl⟩ : ∃ wy : World, wy = wr := ⟨_, rfl⟩
            by_cases hjm : j < m
            · have hjl : j < ls[k].length := by rw [HM.out]; exact hjm
              obtain ⟨bb, off, rfl, hbb, hat⟩ := HQ.out (List.ne_nil_of_length_pos (by omega))
              obtain ⟨e0, e1⟩ := (hat.below HY.out hbb) j hjl
              obtain ⟨hz1, hz2⟩ := HS.out HL.out _ (List.getElem_mem hkl) _ (List.getElem_mem hjl)
              obtain ⟨s, hs⟩ : ∃ u, ls[k][j].1 = u := ⟨_, rfl⟩
              obtain ⟨t, ht⟩ : ∃ u, ls[k][j].2 = u := ⟨_, rfl⟩
              have HOK : Hid (okP ls[k][j].1 ls[k][j].2 = okP s t) := by show _ = _; rw [hs, ht]
              rw [hs] at e0 hz1
              rw [ht] at e1 hz2
              clear hat hs ht
              go_wp2_with fail
              have hal := (Below.refl wy.heap.size wy).alloc (Nat.le_refl _) (.cells #[.string s, .string t] 24)
              refine (check_any s t _ hz1 hz2).mono ?_
              rintro e w5 ⟨rfl, hb5⟩
              have HB5 := Lib.hid (HY.out.trans ((hal.trans (hb5.mono (by simp))).mono HY.out.size))
              clear hb5 hal e0 e1
              cases ho : okP s t
              · have HE := Lib.hid (okE_no ho)
                have HC : Hid (chkL ls = 2) := chkL_bad HL.out (List.getElem_mem hkl) (List.getElem_mem hjl) (by rw [HOK.out]; exact ho)
                clear ho
                rw [HE.out]
                go_wp2
                go_ret
                exact ⟨by rw [HC.out]; rfl, HB5.out⟩
              · have HE := Lib.hid (okE_yes ho)
                have HJ2 : Hid (∀ z (h : z < ls[k].length), z < j + 1 → okP ls[k][z].1 ls[k][z].2 = true) := fun z h1 h2 => by
                  rcases Nat.lt_or_ge z j with h3 | h3
                  · exact HJ.out z h1 h3
                  · obtain rfl : z = j := by omega
                    rw [HOK.out]; exact ho
                clear ho
                rw [HE.out]
                go_wp2
                go_roundw
                case rel => exact ⟨j + 1, by go_num, by omega, HJ2, HB5⟩
                case measure => simp [intOf]; omega
            · have HK2 : Hid (∀ z (h : z < ls.length), z < k + 1 → ∀ p ∈ ls[z], okP p.1 p.2 = true) := fun z h1 h2 p hp => by
                rcases Nat.lt_or_ge z k with h3 | h3
                · exact HK.out z h1 h3 p hp
                · obtain rfl : z = k := by omega
                  obtain ⟨y, hy, rfl⟩ := List.getElem_of_mem hp
                  exact HJ.out y hy (by rw [HM.out] at hy; omega)
              go_wp2
              go_roundw
              case rel => exact ⟨k + 1, by go_num, by omega, HK2, HY⟩
              case measure => simp [intOf]; omega
        · have HQ : Hid (chkL ls = 0) := chkL_ok HL.out fun l hl p hp => by
            obtain ⟨j, hj, rfl⟩ := List.getElem_of_mem hl
            exact HK.out j hj (by rw [HN.out] at hj; omega) p hp
          go_wp2
          go_ret
          exact ⟨by rw [HQ.out]; rfl, HB.out⟩

/-- What paired answers. -/
def pairE (ps os : List PP) : Int := if chkL [ps, os] = 0 then (if ps.length = os.length then 0 else 2) else chkL [ps, os]

theorem two_lists {w : World} {u v : Value} {ps os : List PP} (h1 : PL w u ps) (h2 : PL w v os) : LL (w.alloc (.cells #[u, v] 34)) (.slice (some ⟨w.heap.size, 0, none⟩) 2 2) [ps, os] := by
  have hal := (Below.refl w.heap.size w).alloc (Nat.le_refl _) (.cells #[u, v] 34)
  refine ⟨_, 2, rfl, Nat.le_refl _, by simp [maxLen], by simp, fun j hj => ?_⟩
  match j, hj with
  | 0, _ => exact ⟨u, cell_new _ _ _ 0 rfl, h1.after hal (Nat.le_refl _)⟩
  | 1, _ => exact ⟨v, cell_new _ _ _ 1 rfl, h2.after hal (Nat.le_refl _)⟩
  | j + 2, h => simp at h; omega
theorem one_list {w : World} {u : Value} {ps : List PP} (h1 : PL w u ps) : LL (w.alloc (.cells #[u] 34)) (.slice (some ⟨w.heap.size, 0, none⟩) 1 1) [ps] := by
  have hal := (Below.refl w.heap.size w).alloc (Nat.le_refl _) (.cells #[u] 34)
  refine ⟨_, 1, rfl, Nat.le_refl _, by simp [maxLen], by simp, fun j hj => ?_⟩
  match j, hj with
  | 0, _ => exact ⟨u, cell_new _ _ _ 0 rfl, h1.after hal (Nat.le_refl _)⟩
  | j + 1, h => simp at h; try omega

set_option maxRecDepth 100000 in
set_option maxHeartbeats 2000000 in
theorem paired_any {u v : Value} {ps os : List PP} {w : World} (hu : PL w u ps) (hv : PL w v os) (hsm : ps.length ≤ 512 → os.length ≤ 512 → ∀ p ∈ ps ++ os, p.1.size ≤ 1000000 ∧ p.2.size ≤ 1000000) :
    Calls Tryz.prog 72 #[u, v] w (IntPost w (pairE ps os)) := by
  have hll := two_lists hu hv
  have hc := checked_any hll (by simp) (fun h l hl p hp => hsm (h ps (by simp)) (h os (by simp)) p (by
    rcases List.mem_cons.1 hl with rfl | hl
    · exact List.mem_append_left _ hp
    · rcases List.mem_cons.1 hl with rfl | hl
      · exact List.mem_append_right _ hp
      · cases hl))
  have HC := Lib.hid hc
  obtain ⟨p1, c1, rfl, _, hm1, _⟩ := hu
  obtain ⟨p2, c2, rfl, _, hm2, _⟩ := hv
  obtain ⟨n1, hn1⟩ : ∃ n, ps.length = n := ⟨_, rfl⟩
  obtain ⟨n2, hn2⟩ : ∃ n, os.length = n := ⟨_, rfl⟩
  rw [hn1, hn2] at HC ⊢
  have HN := Lib.hid (And.intro hn1 hn2)
  clear hll hc hsm hn1 hn2
  have HB1 : Hid (Below w.heap.size w (w.alloc (.cells #[.slice p1 n1 c1, .slice p2 n2 c2] 34))) := (Below.refl _ w).alloc (Nat.le_refl _) _
  by_cases h0 : chkL [ps, os] = 0
  · by_cases he : n1 = n2
    · have hb : ((n1 : Int) != n2) = false := by rw [bne_eq_false_iff_eq]; omega
      have HP : Hid (pairE ps os = 0) := by show _ = _; unfold pairE; rw [if_pos h0, if_pos (by rw [HN.out.1, HN.out.2]; exact he)]
      have H0 := Lib.hid h0
      clear h0 he
      go_enter Tryz.func72, Tryz.ntmps72
      go_wp2_with fail
      refine HC.out.mono ?_
      rintro e w2 ⟨rfl, hb2⟩
      rw [H0.out]
      have HB2 := Lib.hid (HB1.out.trans (hb2.mono (by simp)))
      clear hb2
      go_wp2
      go_ret
      exact ⟨by rw [HP.out]; rfl, HB2.out⟩
    · have hb : ((n1 : Int) != n2) = true := by rw [bne_iff_ne]; omega
      have HP : Hid (pairE ps os = 2) := by show _ = _; unfold pairE; rw [if_pos h0, if_neg (by rw [HN.out.1, HN.out.2]; exact he)]
      have H0 := Lib.hid h0
      clear h0 he
      go_enter Tryz.func72, Tryz.ntmps72
      go_wp2_with fail
      refine HC.out.mono ?_
      rintro e w2 ⟨rfl, hb2⟩
      rw [H0.out]
      have HB2 := Lib.hid (HB1.out.trans (hb2.mono (by simp)))
      clear hb2
      go_wp2
      go_ret
      exact ⟨by rw [HP.out]; rfl, HB2.out⟩
  · obtain ⟨c, hc⟩ : ∃ c, chkL [ps, os] = c := ⟨_, rfl⟩
    have hz : (c == 0) = false := by rw [beq_eq_false_iff_ne, ← hc]; exact h0
    have HP : Hid (pairE ps os = c) := by show _ = _; unfold pairE; rw [if_neg h0, hc]
    rw [hc] at HC
    clear h0 hc
    go_enter Tryz.func72, Tryz.ntmps72
    go_wp2_with fail
    refine HC.out.mono ?_
    rintro e w2 ⟨rfl, hb2⟩
    have HB2 := Lib.hid (HB1.out.trans (hb2.mono (by simp)))
    clear hb2
    go_wp2
    go_ret
    exact ⟨by rw [HP.out]; rfl, HB2.out⟩
end Go.Proofs.YthbpadjhlkdpeaaGreatDoor
/- weight's tried: something that may end early. -/
namespace Go.Proofs.YthbpadjhlkdpeaaGreatDoor
open Go.RowKit Go.Shelf

theorem assert_yes (n : Int) (w : World) : (Instr.typeAssert (.iface 144 (.agg #[.int .i64 n])) 20 144 true).run Tryz.prog w = .ok (.tuple #[.agg #[.int .i64 n], .bool true]) w := by kernel_rfl
theorem assert_nil (w : World) : (Instr.typeAssert .nilIface 20 144 true).run Tryz.prog w = .ok (.tuple #[.agg #[.int .i64 0], .bool false]) w := by kernel_rfl

set_option maxRecDepth 100000 in
theorem tried1_panicking (b : Nat) (n : Int) (older : List PanicEntry) (w : World) (hc : w.heap[b]? = some (.cells #[.int .i64 0] 27 (0, 0))) :
    CallsD Tryz.prog 123 #[.pointer (some ⟨b, 0, none⟩)] (.panicking ({ v := .iface 144 (.agg #[.int .i64 n]), recovered := false } :: older)) w fun e u' w' =>
      e = .returned (.tuple #[]) ∧ u' = .panicking ({ v := .iface 144 (.agg #[.int .i64 n]), recovered := true } :: older) ∧ w' = (w.setCell ⟨b, 0, none⟩ (.int .i64 n)).alloc (.cells #[.int .i64 n] 144) := by
  have c0 := known_cell hc 0 rfl
  have f0 := known_frozen hc 0
  have hta := assert_yes n
  have hbl := (Array.getElem?_eq_some_iff.1 hc).1
  have k0 : (w.alloc (.cells #[.int .i64 n] 144)).cell? ⟨b, 0, none⟩ = some (.int .i64 0) := (cell_old _ _ _ hbl).trans c0
  have k1 : (w.alloc (.cells #[.int .i64 n] 144)).frozen? ⟨b, 0, none⟩ = false := (frozen_old _ _ _ hbl).trans f0
  refine callsD_of_wpS Tryz.func123 rfl fun c₀ cs hu => ?_
  apply wpS_seq
  apply wpS_region
  simp [wpOpsS, go_sem, recoverD, hu, Tryz.ntmps123, Exit.thenS]
  refine wpS_of_wp ?_
  simp only [Array.replicate_succ, Array.replicate_zero, List.push_toArray, List.append_toArray, List.nil_append, List.cons_append, List.setIfInBounds_toArray, List.set_cons_zero, List.set_cons_succ]
  go_wp2
  exact ⟨rfl, _, rfl, .tuple #[], by simp [results, Tryz.f123, go_sem], rfl, rfl, rfl⟩

set_option maxRecDepth 100000 in
theorem tried1_idle (b : Nat) (w : World) :
    CallsD Tryz.prog 123 #[.pointer (some ⟨b, 0, none⟩)] .returning w fun e u' w' =>
      e = .returned (.tuple #[]) ∧ u' = .returning ∧ w' = w.alloc (.cells #[.int .i64 0] 144) := by
  have hta := assert_nil
  refine callsD_of_wpS Tryz.func123 rfl fun c₀ cs hu => ?_
  apply wpS_seq
  apply wpS_region
  simp [wpOpsS, go_sem, recoverD, hu, Tryz.ntmps123, Exit.thenS]
  refine wpS_of_wp ?_
  simp only [Array.replicate_succ, Array.replicate_zero, List.push_toArray, List.append_toArray, List.nil_append, List.cons_append, List.setIfInBounds_toArray, List.set_cons_zero, List.set_cons_succ]
  go_wp2
  exact ⟨rfl, .returning, by cases c₀; simp_all, .tuple #[], by simp [results, Tryz.f123, go_sem], rfl, rfl, rfl⟩

/-- What the work that tried does may answer: Q behind it, or R behind an end with an error's number; the error's own box stays. -/
def DoPost (B : Nat) (Q : World → Prop) (R : Int → World → Prop) (e : Ending) (w' : World) : Prop :=
  ((e = .returned (.tuple #[]) ∧ Q w') ∨ (∃ n, e = Broke n ∧ R n w')) ∧ w'.heap[B]? = some (.cells #[.int .i64 0] 27 (0, 0))
/-- What tried answers. -/
def TriedPost (B : Nat) (Q : World → Prop) (R : Int → World → Prop) (e : Ending) (w' : World) : Prop :=
  ∃ w1 n, e = .returned (.int .i64 n) ∧ Keeps (fun i => i ≠ B) w1 w' ∧ B < w1.heap.size ∧ ((n = 0 ∧ Q w1) ∨ R n w1)

set_option maxRecDepth 100000 in
set_option maxHeartbeats 2000000 in
theorem tried_any {f : Nat} {caps : Array Value} (hent : ∀ args w, (callFunc f args).run Tryz.prog w = .ok (.enter f args) w) {Q : World → Prop} {R : Int → World → Prop} {w : World}
    (hdo : Calls Tryz.prog f caps (w.alloc (.cells #[.int .i64 0] 27)) (DoPost w.heap.size Q R)) :
    Calls Tryz.prog 73 #[.func (.func f) #[] caps] w (TriedPost w.heap.size Q R) := by
  have hmf : ∀ (fn : Fn) (first cap : Array Value) (w : World), (Instr.makeFunc fn first cap).run Tryz.prog w = .ok (.func fn first cap) w := fun _ _ _ _ => rfl
  have HD := Lib.hid hdo
  clear hdo
  go_enter_defers Tryz.func73, Tryz.ntmps73
  go_wp2_with fail
  refine HD.out.mono ?_
  rintro e w2 ⟨hE, hbox⟩
  have c0 := known_cell hbox 0 rfl
  have f0 := known_frozen hbox 0
  have HX := Lib.hid hbox
  clear hbox
  rcases hE with ⟨rfl, hQ⟩ | ⟨n, rfl, hR⟩
  · have HQ := Lib.hid hQ
    clear hQ
    go_wp2
    have c1 : (w2.setCell ⟨w.heap.size, 0, none⟩ (.int .i64 0)).heap[w.heap.size]? = some (.cells #[.int .i64 0] 27 (0, 0)) := Joins.block_setCell HX.out _
    refine leaves_cons (f := 123) (args := #[.pointer (some ⟨w.heap.size, 0, none⟩)]) (by simp) (by simp [go_sem]) ?_
    refine (tried1_idle w.heap.size _).mono ?_
    rintro e u' w'' ⟨rfl, rfl, rfl⟩
    have hl : w.heap.size < w2.heap.size := (Array.getElem?_eq_some_iff.1 HX.out).1
    have hl2 : w.heap.size < (w2.setCell ⟨w.heap.size, 0, none⟩ (.int .i64 0)).heap.size := (Array.getElem?_eq_some_iff.1 c1).1
    have q0 : ((w2.setCell ⟨w.heap.size, 0, none⟩ (.int .i64 0)).alloc (.cells #[.int .i64 0] 144)).cell? ⟨w.heap.size, 0, none⟩ = some (.int .i64 0) := (cell_old _ _ _ hl2).trans (known_cell c1 0 rfl)
    refine ⟨.int .i64 0, by simp [results, Tryz.f73, go_sem, q0], ⟨w2, 0, rfl, ((Keeps.refl _ w2).setCell (by simp) _).alloc _, hl, .inl ⟨rfl, HQ.out⟩⟩⟩
  · have HR := Lib.hid hR
    clear hR
    unfold Broke
    refine leaves_cons (f := 123) (args := #[.pointer (some ⟨w.heap.size, 0, none⟩)]) (by simp) (by simp [go_sem]) ?_
    refine (tried1_panicking w.heap.size n [] _ HX.out).mono ?_
    rintro e u' w'' ⟨rfl, rfl, rfl⟩
    have c1 : (w2.setCell ⟨w.heap.size, 0, none⟩ (.int .i64 n)).heap[w.heap.size]? = some (.cells #[.int .i64 n] 27 (0, 0)) := Joins.block_setCell HX.out _
    have hl : w.heap.size < w2.heap.size := (Array.getElem?_eq_some_iff.1 HX.out).1
    have hl2 : w.heap.size < (w2.setCell ⟨w.heap.size, 0, none⟩ (.int .i64 n)).heap.size := (Array.getElem?_eq_some_iff.1 c1).1
    have q0 : ((w2.setCell ⟨w.heap.size, 0, none⟩ (.int .i64 n)).alloc (.cells #[.int .i64 n] 144)).cell? ⟨w.heap.size, 0, none⟩ = some (.int .i64 n) := (cell_old _ _ _ hl2).trans (known_cell c1 0 rfl)
    refine ⟨.int .i64 n, by simp [results, Tryz.f73, go_sem, q0], ⟨w2, n, rfl, ((Keeps.refl _ w2).setCell (by simp) _).alloc _, hl, .inr HR.out⟩⟩
end Go.Proofs.YthbpadjhlkdpeaaGreatDoor
/- A region that draws its order, of reads and of writes in a forced order: the operations in an order that is named; each read is taken first as soon as it can come up; whatever writes comes up alone. -/
namespace Go.Proofs.YthbpadjhlkdpeaaGreatDoor
open Go.RowKit

section
variable {P : Program} {ops : Array Oper} {Q : Exit → Act → World → Prop} {md : Region.Mode} {S : World → Prop} {bar : Nat → Bool}

/-- The operations in the order that is named; true: a read. -/
def steps (P : Program) (ops : Array Oper) (Q : Exit → Act → World → Prop) (S : World → Prop) (bar : Nat → Bool) : List (Bool × Nat) → Act → World → Prop
  | [], a, w => Q .normal a w
  | (true, i) :: ks, a, w => ∃ o v, ops[i]? = some o ∧ YieldsIf P ops S o v a ∧ steps P ops Q S bar ks (a.put o.dst v) w
  | (false, i) :: ks, a, w => ∃ o, ops[i]? = some o ∧ (if Region.wanted o (yielded ops a.tmps) then o.wp P a w (fun a' w' => (bar i = true ∨ S w') ∧ steps P ops Q S bar ks a' w') Q
      else (bar i = true ∨ S w) ∧ steps P ops Q S bar ks (a.put o.dst undef) w)

/-- The closed facts. -/
def stepsB (md : Region.Mode) (ops : Array Oper) (bar : Nat → Bool) : List (Bool × Nat) → Array Bool → Bool
  | [], listed => decide (Region.ready md ops listed = [])
  | (true, k) :: ks, listed => (Region.ready md ops listed).contains k && Region.free md ops listed k && !bar k && ((List.range ops.size).all fun j => !bar j || decide (j = k) || Region.waitsFor md ops j k) && stepsB md ops bar ks (listed.setIfInBounds k true)
  | (false, k) :: ks, listed => decide (Region.ready md ops listed = [k]) && (!bar k || ks.all fun b => !b.1) && stepsB md ops bar ks (listed.setIfInBounds k true)

theorem wpJ_of_steps (hsel : Region.noSelect ops = true) (hQ : ∀ c a o v w, Q (.panic c) (a.put o v) w → Q (.panic c) a w) (hbo : ∀ j, ops.size ≤ j → bar j = false) :
    ∀ (ks : List (Bool × Nat)) (listed : Array Bool) (a : Act) (w : World), stepsB md ops bar ks listed = true →
      (S w ∨ ks.all (fun b => !b.1) = true) → steps P ops Q S bar ks a w → wpJ P md ops Q S bar ks.length listed a w
  | [], listed, a, w, hB, _, h => ⟨of_decide_eq_true hB, h⟩
  | (true, k) :: ks, listed, a, w, hB, hS, h => by
    simp only [stepsB, Bool.and_eq_true] at hB
    obtain ⟨⟨⟨⟨hr, hf⟩, hbk⟩, hw⟩, hB'⟩ := hB
    have hSw : S w := by
      rcases hS with hS | hS
      · exact hS
      · simp at hS
    obtain ⟨o, v, h0, hy, hrest⟩ := h
    have hbk' : bar k = false := by simpa using hbk
    have hwait : Waits md ops bar k := fun j hj hne => by
      have hjl : j < ops.size := by
        rcases Nat.lt_or_ge j ops.size with h' | h'
        · exact h'
        · rw [hbo j h'] at hj; cases hj
      rw [List.all_eq_true] at hw
      have := hw j (List.mem_range.2 hjl)
      rw [hj] at this
      simpa [hne] using this
    have ih := wpJ_of_steps hsel hQ hbo ks (listed.setIfInBounds k true) (a.put o.dst v) w hB' (.inl hSw) hrest
    rw [List.length_cons]
    exact wpJ_first h0 hsel (fun c a w => hQ c a o.dst v w) hwait hbk' ks.length listed a w (Region.free_spec h0 hf) (by simpa using hr) hy hSw ih
  | (false, k) :: ks, listed, a, w, hB, hS, h => by
    simp only [stepsB, Bool.and_eq_true, decide_eq_true_eq] at hB
    obtain ⟨⟨hr, hbk⟩, hB'⟩ := hB
    obtain ⟨o, h0, h⟩ := h
    refine ⟨fun h1 => (by rw [hr] at h1; cases h1), fun i hi => ?_⟩
    rw [hr] at hi
    obtain rfl : i = k := by simpa using hi
    have ih := fun a' w' (hs : bar i = true ∨ S w') h' => wpJ_of_steps hsel hQ hbo ks (listed.setIfInBounds i true) a' w' hB' (by
      rcases hs with hs | hs
      · rw [hs] at hbk
        exact .inr (by simpa using hbk)
      · exact .inl hs) h'
    unfold wpOp
    simp only [h0]
    split at h
    · rename_i hw; simp only [hw, if_true]; exact .inl (Oper.wp_mono (fun a' w' h' => ⟨h'.1, ih a' w' h'.1 h'.2⟩) h)
    · rename_i hw; simp only [hw]; exact ⟨h.1, ih _ _ h.1 h.2⟩

def stepsOk (l : List Oper) (ks : List (Bool × Nat)) (bar : Nat → Bool) : Bool :=
  Region.noSelect l.toArray && decide (ks.length = l.length) && stepsB .any l.toArray bar ks (Array.replicate l.toArray.size false) && noDefer l.toArray

theorem region_steps {l : List Oper} (ks : List (Bool × Nat)) (S : World → Prop) (bar : Nat → Bool) (hB : stepsOk l ks bar = true) (hbo : ∀ j, l.length ≤ j → bar j = false) (hQ : ∀ c a o v w, Q (.panic c) (a.put o v) w → Q (.panic c) a w) {a : Act} {w : World} (hS : S w)
    (H : steps P l.toArray Q S bar ks a w) : wpAny P .any l.toArray Q l.toArray.size (Array.replicate l.toArray.size false) a w := by
  simp only [stepsOk, Bool.and_eq_true, decide_eq_true_eq] at hB
  obtain ⟨⟨⟨hsel, hn⟩, hm⟩, _⟩ := hB
  have := wpAny_of_J _ _ _ _ (wpJ_of_steps hsel hQ (fun j hj => hbo j (by simpa using hj)) ks _ a w hm (.inl hS) H)
  rw [hn] at this
  simpa using this

theorem steps_plain {id : Nat} {a : Act} {w : World} {l : List Oper} (ks : List (Bool × Nat)) (S : World → Prop) (bar : Nat → Bool) (hm : P.follows .mixedOrders = true)
    (hB : stepsOk l ks bar = true) (hbo : ∀ j, l.length ≤ j → bar j = false) (hQ : ∀ c a o v w, Q (.panic c) (a.put o v) w → Q (.panic c) a w) (hS : S w.drew)
    (H : steps P l.toArray Q S bar ks a w.drew) : (Code.region id l.toArray true).wp P Q a w :=
  wp_region_any hm (region_steps ks S bar hB hbo hQ hS H)

theorem steps_read {i : Nat} {o : Oper} {ks : List (Bool × Nat)} {a : Act} {w : World} (v : Value) (ho : ops[i]? = some o) (hw : Region.wanted o (yielded ops a.tmps) = true) (hv : ∀ w, S w → (execOp a.eval o).run P w = .ok (.value v) w)
    (h : steps P ops Q S bar ks (a.put o.dst v) w) : steps P ops Q S bar ((true, i) :: ks) a w := ⟨o, v, ho, .inl ⟨hw, hv⟩, h⟩
theorem steps_write {i : Nat} {o : Oper} {ks : List (Bool × Nat)} {a : Act} {w : World} (ho : ops[i]? = some o) (hw : Region.wanted o (yielded ops a.tmps) = true)
    (h : ∀ K : Act → World → Prop, (∀ a' w', (bar i = true ∨ S w') → steps P ops Q S bar ks a' w' → K a' w') → o.wp P a w K Q) : steps P ops Q S bar ((false, i) :: ks) a w := by
  refine ⟨o, ho, ?_⟩
  rw [if_pos hw]
  exact h _ fun _ _ h1 h2 => ⟨h1, h2⟩
theorem steps_end {a : Act} {w : World} (h : Q .normal a w) : steps P ops Q S bar [] a w := h
end
end Go.Proofs.YthbpadjhlkdpeaaGreatDoor
/- weight's Update: the work that may end early. -/
namespace Go.Proofs.YthbpadjhlkdpeaaGreatDoor
open Go.RowKit Go.Shelf

/-- What weights become by evidence, and the evidence; or an error. -/
def updA (qs rs : List Rat) : Except Int (List Rat × Rat) :=
  match prodA qs rs with
  | none => .error 4
  | some l => match sumA 0 l with
    | none => .error 4
    | some z => if z = 0 then .error 7 else match shareA z l with
      | none => .error 4
      | some s => .ok (s, z)
theorem updA_p {qs rs : List Rat} (h : prodA qs rs = none) : updA qs rs = .error 4 := by unfold updA; rw [h]
theorem updA_s {qs rs l : List Rat} (h : prodA qs rs = some l) (h2 : sumA 0 l = none) : updA qs rs = .error 4 := by unfold updA; rw [h]; simp only [h2]
theorem updA_z {qs rs l : List Rat} {z : Rat} (h : prodA qs rs = some l) (h2 : sumA 0 l = some z) (h3 : z = 0) : updA qs rs = .error 7 := by unfold updA; rw [h]; simp only [h2, h3, if_true]
theorem updA_q {qs rs l : List Rat} {z : Rat} (h : prodA qs rs = some l) (h2 : sumA 0 l = some z) (h3 : z ≠ 0) (h4 : shareA z l = none) : updA qs rs = .error 4 := by unfold updA; rw [h]; simp only [h2, h3, h4, if_false]
theorem updA_ok {qs rs l s : List Rat} {z : Rat} (h : prodA qs rs = some l) (h2 : sumA 0 l = some z) (h3 : z ≠ 0) (h4 : shareA z l = some s) : updA qs rs = .ok (s, z) := by unfold updA; rw [h]; simp only [h2, h3, h4, if_false]

theorem Boxes.store {B : Nat} {os : List Obj} {w : World} (h : Boxes B os w) (i j : Nat) {cs : Array Value} {T : TypeId} (ho : os[i]? = some (.cells cs T (0, 0))) (v : Value) {b : Nat} (hb : b = B + i) :
    Boxes B (os.set i (.cells (cs.setIfInBounds j v) T (0, 0))) (w.setCell ⟨b, j, Option.none⟩ v) := by
  subst hb
  have hi : i < os.length := (List.getElem?_eq_some_iff.1 ho).1
  have h0 := h.2 i _ ho
  refine ⟨by rw [List.length_set]; exact Nat.le_trans h.1 (by simp [World.setCell]), fun k o hk => ?_⟩
  by_cases hki : k = i
  · subst hki
    rw [List.getElem?_set_self hi] at hk
    obtain rfl := Option.some.inj hk
    exact Joins.block_setCell h0 v
  · rw [List.getElem?_set_ne (Ne.symm hki)] at hk
    rw [Below.heap_setCell _ _ _ _ (by simp; omega)]
    exact h.2 k o hk
theorem prodA_length : ∀ {qs rs l : List Rat}, prodA qs rs = some l → l.length ≤ qs.length
  | [], rs, l, h => by simp [prodA] at h; rw [h]; simp
  | q :: qs, [], l, h => by simp [prodA] at h; rw [h]; simp
  | q :: qs, r :: rs, l, h => by
    unfold prodA at h
    split at h
    · obtain ⟨m, h1, rfl⟩ := Option.map_eq_some_iff.1 h
      have := prodA_length h1
      simp; omega
    · cases h

/-- Update's own boxes. -/
def UpdBoxes (u v a : Value) (x y : ByteArray) : List Obj := [.cells #[u] 34, .cells #[v] 34, .cells #[a] 34, .cells #[.string x, .string y] 24]
def UpdQ (B E : Nat) (u v : Value) (r : Except Int (List Rat × Rat)) (w w' : World) : Prop :=
  ∃ s z os a x y, r = .ok (s, z) ∧ IsL s os ∧ IsP z x y ∧ Own w' (E + 1) a os ∧ Boxes B (UpdBoxes u v a x y) w' ∧ Below B w w'
def UpdR (B : Nat) (u v : Value) (r : Except Int (List Rat × Rat)) (w : World) (n : Int) (w' : World) : Prop :=
  r = .error n ∧ Boxes B (UpdBoxes u v (.slice none 0 0) ⟨#[]⟩ ⟨#[]⟩) w' ∧ Below B w w'

set_option maxRecDepth 100000 in
set_option maxHeartbeats 4000000 in
theorem update1_any {u v : Value} {qs rs : List Rat} {ps os : List PP} {w : World} {B E : Nat} (hq : IsL qs ps) (hr : IsL rs os) (hu : PL w u ps) (hv : PL w v os) (hlen : os.length = ps.length) (hn600 : ps.length ≤ 600) (hT : Tabs w)
    (hbox : Boxes B (UpdBoxes u v (.slice none 0 0) ⟨#[]⟩ ⟨#[]⟩) w) (hE : w.heap[E]? = some (.cells #[.int .i64 0] 27 (0, 0))) (hBE : B + 4 ≤ E) :
    Calls Tryz.prog 74 #[.pointer (some ⟨B, 0, none⟩), .pointer (some ⟨B + 1, 0, none⟩), .pointer (some ⟨B + 2, 0, none⟩), .pointer (some ⟨B + 3, 0, none⟩)] w
      (DoPost E (UpdQ B E u v (updA qs rs) w) (UpdR B u v (updA qs rs) w)) := by
  have HP := Lib.hid (products_any hq hr hu hv hlen hn600 hT)
  obtain ⟨p1, c1, rfl, _, _, _⟩ := hu
  obtain ⟨p2, c2, rfl, _, _, _⟩ := hv
  obtain ⟨n1, hn1⟩ : ∃ n, ps.length = n := ⟨_, rfl⟩
  obtain ⟨n2, hn2⟩ : ∃ n, os.length = n := ⟨_, rfl⟩
  rw [hn1, hn2] at HP hbox ⊢
  have HX := Lib.hid hbox
  have HE := Lib.hid hE
  have HT := Lib.hid hT
  have hEl := (Array.getElem?_eq_some_iff.1 hE).1
  have HLN : Hid (qs.length ≤ 600) := by rw [hq.length]; exact hn600
  have hBl : B ≤ w.heap.size := by omega
  clear hbox hE hT hq hr hlen hn1 hn2 hn600
  go_enter Tryz.func74, Tryz.ntmps74
  have k0 := HX.out.cell 0 0 (b := B) rfl rfl rfl
  have k1 := HX.out.cell 1 0 (b := B + 1) rfl rfl rfl
  go_wp2_with fail
  refine HP.out.mono ?_
  rintro e w2 ⟨hE2, hb2⟩
  have HB2 := Lib.hid hb2
  have HX2 := Lib.hid (HX.out.below hb2 HX.out.lt)
  have HE2 : Hid (w2.heap[E]? = some (.cells #[.int .i64 0] 27 (0, 0))) := (hb2.block E hEl).trans HE.out
  have hs2 := hb2.size
  clear hb2 k0 k1
  rcases hE2 with ⟨ts, us, va, h1, h2, rfl, h3⟩ | ⟨h1, rfl⟩
  · have H1 := Lib.hid (And.intro h1 h2)
    have HO := Lib.hid h3
    obtain ⟨pa, na, ca, rfl⟩ : ∃ p n c, va = .slice p n c := by
      obtain ⟨p, c, h, _⟩ := h3.pl
      exact ⟨_, _, _, h⟩
    clear h1 h2 h3
    go_wp2_with fail
    refine (sum_any H1.out.2 HO.out.pl (HT.out.below HB2.out (Nat.le_refl _))).mono ?_
    rintro e w3 ⟨hE3, hb3⟩
    have HB3 := Lib.hid (HB2.out.trans (hb3.mono HB2.out.size))
    have HX3 := Lib.hid (HX2.out.below hb3 HX2.out.lt)
    have HE3 : Hid (w3.heap[E]? = some (.cells #[.int .i64 0] 27 (0, 0))) := (hb3.block E (by omega)).trans HE2.out
    have HO3 := Lib.hid (HO.out.after hb3)
    have hs3 := hb3.size
    clear hb3
    rcases hE3 with ⟨z, x, y, h1, h2, rfl⟩ | ⟨h1, rfl⟩
    · have H2 := Lib.hid (And.intro h1 h2)
      clear h1 h2
      have hal := (Below.refl w3.heap.size w3).alloc (Nat.le_refl _) (.cells #[.string x, .string y] 24)
      obtain ⟨w4, hw4⟩ : ∃ w4, w3.alloc (.cells #[.string x, .string y] 24) = w4 := ⟨_, rfl⟩
      have HY4 : Hid (Boxes w3.heap.size [.cells #[.string x, .string y] 24] w4) := by rw [← hw4]; exact Boxes.one w3 _
      rw [hw4] at hal
      have HB4 := Lib.hid (HB3.out.trans (hal.mono HB3.out.size))
      have HX4 := Lib.hid (HX3.out.below hal HX3.out.lt)
      have HE4 : Hid (w4.heap[E]? = some (.cells #[.int .i64 0] 27 (0, 0))) := (hal.block E (by omega)).trans HE3.out
      have HO4 := Lib.hid (HO3.out.after hal)
      have hs4 := hal.size
      clear hal
      go_wp2_with fail
      clear hw4
      have k0 := HY4.out.cell 0 0 (b := w3.heap.size) rfl rfl rfl
      have k1 := HY4.out.cell 0 1 (b := w3.heap.size) rfl rfl rfl
      refine steps_plain [(true, 0), (true, 1), (true, 3), (false, 2), (false, 4), (false, 5)] (fun w' => w'.cell? ⟨w3.heap.size, 0, none⟩ = some (.string x) ∧ w'.cell? ⟨w3.heap.size, 1, none⟩ = some (.string y)) (fun _ => false)
        (by kernel_rfl) (by kernel_rfl) (fun _ _ => rfl) (fun _ _ o _ _ h => by cases o <;> exact h) ⟨k0, k1⟩ ?_
      iterate 3
        refine steps_read _ rfl rfl (fun w' hS => by obtain ⟨s1, s2⟩ := hS; go_simp; rfl) ?_
        simp only [Act.put, List.setIfInBounds_toArray, List.set_cons_zero, List.set_cons_succ]
      refine steps_write rfl rfl fun K hK => ?_
      go_simp
      go_at_call 77
      refine (share_any H2.out.2 H1.out.2 (HO4.out.pl.after (Below.refl w4.heap.size w4).drew (Nat.le_refl _)) (by have a1 := prodA_length H1.out.1; have a2 := H1.out.2.length; have a3 := HLN.out; omega) (HT.out.below HB4.out.drew (Nat.le_refl _))).mono ?_
      rintro e w5 hE5
      have hb5 : Below w4.heap.size w4 w5 := by
        have h0 : Below w4.drew.heap.size w4.drew w5 := by
          rcases hE5 with ⟨_, _, h⟩ | ⟨_, h⟩
          · exact h
          · exact h.2
        exact ((Below.refl w4.heap.size w4).drew).trans h0
      have HB5 := Lib.hid (HB4.out.trans (hb5.mono HB4.out.size))
      have HX5 := Lib.hid (HX4.out.below hb5 HX4.out.lt)
      have HE5 : Hid (w5.heap[E]? = some (.cells #[.int .i64 0] 27 (0, 0))) := (hb5.block E (by omega)).trans HE4.out
      have l0 := (hb5.cell (p := ⟨w3.heap.size, 0, none⟩) (World.block_lt_of_cell? _ _ k0)).trans k0
      have l1 := (hb5.cell (p := ⟨w3.heap.size, 1, none⟩) (World.block_lt_of_cell? _ _ k1)).trans k1
      have hs5 := hb5.size
      clear hb5 k0 k1
      rcases hE5 with ⟨h1, rfl, _⟩ | ⟨h0, hE6, _⟩
      · have HR : Hid (updA qs rs = .error 7) := updA_z H1.out.1 H2.out.1 h1
        exact ⟨rfl, .inr ⟨7, rfl, HR.out, HX5.out, HB5.out.mono hBl⟩, HE5.out⟩
      · rcases hE6 with ⟨ss, vs, va, h1, h2, rfl, h3⟩ | ⟨h1, rfl⟩
        · have HR : Hid (updA qs rs = .ok (ss, z)) := updA_ok H1.out.1 H2.out.1 h0 h1
          have HS := Lib.hid h2
          have HV := Lib.hid h3
          obtain ⟨pv, nv, cv, rfl⟩ : ∃ p n c, va = .slice p n c := by
            obtain ⟨p, c, h, _⟩ := h3.pl
            exact ⟨_, _, _, h⟩
          clear h1 h2 h3 h0
          refine hK _ _ (.inr ⟨l0, l1⟩) ?_
          clear hK K
          have q0 := HX5.out.cell 2 0 (b := B + 2) rfl rfl rfl
          have f0 := HX5.out.free 2 0 (b := B + 2) rfl rfl
          refine steps_write rfl rfl fun K hK => ?_
          go_simp
          have hlx : B + 4 ≤ w3.heap.size := by omega
          have k60 : (w5.setCell ⟨B + 2, 0, none⟩ (.slice pv nv cv)).cell? ⟨w3.heap.size, 0, none⟩ = some (.string x) := (World.cell?_of_block (w := w5) (Below.heap_setCell w5 ⟨B + 2, 0, none⟩ _ _ (by simp; omega))).trans l0
          have k61 : (w5.setCell ⟨B + 2, 0, none⟩ (.slice pv nv cv)).cell? ⟨w3.heap.size, 1, none⟩ = some (.string y) := (World.cell?_of_block (w := w5) (Below.heap_setCell w5 ⟨B + 2, 0, none⟩ _ _ (by simp; omega))).trans l1
          refine hK _ _ (.inr ⟨k60, k61⟩) ?_
          clear hK K l0 l1 q0 f0
          have HX6 := Lib.hid (HX5.out.store 2 0 (b := B + 2) rfl (.slice pv nv cv) rfl)
          have hB6 : Below B w (w5.setCell ⟨B + 2, 0, none⟩ (.slice pv nv cv)) := (HB5.out.mono hBl).setCell (p := ⟨B + 2, 0, none⟩) (by show B ≤ B + 2; omega) _
          have hE6 : (w5.setCell ⟨B + 2, 0, none⟩ (.slice pv nv cv)).heap[E]? = some (.cells #[.int .i64 0] 27 (0, 0)) := (Below.heap_setCell w5 ⟨B + 2, 0, none⟩ _ _ (by simp; omega)).trans HE5.out
          have hV6 : Own (w5.setCell ⟨B + 2, 0, none⟩ (.slice pv nv cv)) (E + 1) (.slice pv nv cv) vs := (HV.out.mono (b := E + 1) (by simp; omega)).kept fun g hg _ => Below.heap_setCell w5 ⟨B + 2, 0, none⟩ _ _ (by simp; omega)
          obtain ⟨w6, hw6⟩ : ∃ w6, w5.setCell ⟨B + 2, 0, none⟩ (.slice pv nv cv) = w6 := ⟨_, rfl⟩
          rw [hw6] at HX6 hB6 hE6 hV6 k60 k61 ⊢
          have HB6 := Lib.hid hB6
          have HE6 := Lib.hid hE6
          have HV6 := Lib.hid hV6
          clear hw6 hB6 hE6 hV6
          have q0 := HX6.out.cell 3 0 (b := B + 3) rfl rfl rfl
          have q1 := HX6.out.cell 3 1 (b := B + 3) rfl rfl rfl
          have f0 := HX6.out.free 3 0 (b := B + 3) rfl rfl
          have f1 := HX6.out.free 3 1 (b := B + 3) rfl rfl
          refine steps_write rfl rfl fun K hK => ?_
          go_simp
          refine hK _ _ (.inr ⟨(other_put _ _ _ (by omega) _).trans k60, (other_put _ _ _ (by omega) _).trans k61⟩) ?_
          clear hK K q0 q1 f0 f1
          refine steps_end ?_
          have HX7 := (HX6.out.store 3 0 (b := B + 3) rfl (.string x) rfl).store 3 1 (b := B + 3) rfl (.string y) rfl
          refine ⟨rfl, .tuple #[], by simp [results, Tryz.f74, go_sem], .inl ⟨rfl, ss, z, vs, _, x, y, HR.out, HS.out, H2.out.2, ?_, HX7, two_put_below HB6.out (by omega) _ _⟩, ?_⟩
          · exact HV6.out.kept fun g hg _ => (Below.heap_setCell _ ⟨B + 3, 1, none⟩ _ _ (by simp; omega)).trans (Below.heap_setCell _ ⟨B + 3, 0, none⟩ _ _ (by simp; omega))
          · exact ((Below.heap_setCell _ ⟨B + 3, 1, none⟩ _ _ (by simp; omega)).trans (Below.heap_setCell _ ⟨B + 3, 0, none⟩ _ _ (by simp; omega))).trans HE6.out
        · have HR : Hid (updA qs rs = .error 4) := updA_q H1.out.1 H2.out.1 h0 h1
          exact ⟨rfl, .inr ⟨4, rfl, HR.out, HX5.out, HB5.out.mono hBl⟩, HE5.out⟩
    · have HR : Hid (updA qs rs = .error 4) := updA_s H1.out.1 h1
      clear h1
      unfold Broke
      go_wp2
      exact ⟨rfl, .inr ⟨4, rfl, HR.out, HX3.out, HB3.out.mono hBl⟩, HE3.out⟩
  · have HR : Hid (updA qs rs = .error 4) := updA_p h1
    clear h1
    unfold Broke
    go_wp2
    exact ⟨rfl, .inr ⟨4, rfl, HR.out, HX2.out, HB2.out.mono hBl⟩, HE2.out⟩
end Go.Proofs.YthbpadjhlkdpeaaGreatDoor
