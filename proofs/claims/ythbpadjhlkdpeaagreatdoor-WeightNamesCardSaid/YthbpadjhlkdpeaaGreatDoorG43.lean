/- The parts LawNames0, LawNames1 of a proof, put together by program (merge.py). -/
import Derived.Test.YthbpadjhlkdpeaaGreatDoorG37
import Derived.Test.YthbpadjhlkdpeaaGreatDoorG22
import Derived.Test.YthbpadjhlkdpeaaGreatDoorG42
/- What the chapter's examples are: results at given strings. -/
namespace Go.Proofs.YthbpadjhlkdpeaaGreatDoor
open Go.RowKit Go.Shelf

theorem isP_of {q : Rat} {s t : ByteArray} (h : (decide (0 ≤ q) && decide (s = str (numD q)) && decide (t = str (denD q)) && decide (Fits q)) = true) : IsP q s t := by
  simp only [Bool.and_eq_true, decide_eq_true_eq] at h
  exact ⟨h.1.1.1, h.1.1.2, h.1.2, h.2⟩
theorem make_is {s t x y : ByteArray} {n : Int} (h : Made s t x y n) (hs : s.size ≤ 1000000) (ht : t.size ≤ 1000000) (w : World) (hT : Tabs w) :
    Calls Tryz.prog 47 #[.string s, .string t] w (ValPost (.tuple #[pV x y, .int .i64 n]) w) := by
  refine (make_any s t w hs ht hT).mono ?_
  rintro e w' ⟨x', y', n', rfl, h', hb⟩
  obtain ⟨rfl, rfl, rfl⟩ := det_made _ _ _ _ _ _ _ _ h' h
  exact ⟨rfl, hb⟩
theorem read_is {s x y : ByteArray} {n : Int} (h : ReadR s x y n) (hs : s.size ≤ 1000000) (w : World) (hT : Tabs w) (hV : TensV w) (hM : MaxV w) :
    Calls Tryz.prog 53 #[.string s] w (ValPost (.tuple #[pV x y, .int .i64 n]) w) := by
  refine (wread_any s w hs hT hV hM).mono ?_
  rintro e w' ⟨x', y', n', rfl, h', hb⟩
  obtain ⟨rfl, rfl, rfl⟩ := det_read s _ _ _ _ _ _ h' h
  exact ⟨rfl, hb⟩
theorem decimal_is {s t x y : ByteArray} {n e : Int} (h : DecR s t n x y e) (hs : s.size ≤ 1000000) (ht : t.size ≤ 1000000) (hn0 : 0 ≤ n) (hn1 : n ≤ 1000) (w : World) (hT : Tabs w) (hV : TensV w) :
    Calls Tryz.prog 55 #[pV s t, .int .i64 n] w (ValPost (.tuple #[.string x, .string y, .int .i64 e]) w) := by
  refine (wdecimal_any s t n w hs ht (by omega) (by omega) hT hV).mono ?_
  rintro e w' ⟨x', y', n', rfl, h', hb⟩
  obtain ⟨rfl, rfl, rfl⟩ := det_dec h h'
  exact ⟨rfl, hb⟩
theorem made_ok {s t x y : ByteArray} (h1 : (natOk s.data.toList && natOk t.data.toList) = true) (h2 : 0 < decVal t.data.toList) (h3 : IsP (ratP s t) x y) : Made s t x y 0 := .inr (.inr ⟨h1, h2, .inl ⟨h3, rfl⟩⟩)
theorem ex_made1 : Made ⟨#[48]⟩ ⟨#[55]⟩ ⟨#[48]⟩ ⟨#[49]⟩ 0 := made_ok (by decide +kernel) (by decide +kernel) (isP_of (by decide +kernel))
theorem ex_made2 : Made ⟨#[49]⟩ ⟨#[48]⟩ ⟨#[]⟩ ⟨#[]⟩ 10 := .inr (.inl ⟨by decide +kernel, by decide +kernel, by decide +kernel, by decide +kernel, rfl⟩)
theorem ex_made3 : Made ⟨#[48, 49]⟩ ⟨#[50]⟩ ⟨#[]⟩ ⟨#[]⟩ 2 := .inl ⟨by decide +kernel, by decide +kernel, by decide +kernel, rfl⟩
theorem ex_made24 : Made ⟨#[50]⟩ ⟨#[52]⟩ ⟨#[49]⟩ ⟨#[50]⟩ 0 := made_ok (by decide +kernel) (by decide +kernel) (isP_of (by decide +kernel))
theorem ex_read1 : ReadR ⟨#[48, 46, 50, 53]⟩ ⟨#[49]⟩ ⟨#[52]⟩ 0 := by
  unfold ReadR ReadQ
  rw [if_neg (by decide +kernel), if_neg (by decide +kernel), if_neg (by decide +kernel), if_neg (by decide +kernel)]
  exact .inl ⟨isP_of (by decide +kernel), rfl⟩
theorem ex_read2 : ReadR ⟨#[50, 47, 52]⟩ ⟨#[49]⟩ ⟨#[50]⟩ 0 := by
  have e : cutS ⟨#[50, 47, 52]⟩ 47 = (⟨#[50]⟩, ⟨#[52]⟩, true) := by decide +kernel
  unfold ReadR ReadQ
  rw [e]
  dsimp only
  rw [if_neg (by decide +kernel), if_pos rfl, if_neg (by decide +kernel), if_neg (by decide +kernel)]
  exact ex_made24
theorem ex_read3 : ReadR ⟨#[49, 47, 48]⟩ ⟨#[]⟩ ⟨#[]⟩ 10 := by
  have e : cutS ⟨#[49, 47, 48]⟩ 47 = (⟨#[49]⟩, ⟨#[48]⟩, true) := by decide +kernel
  unfold ReadR ReadQ
  rw [e]
  dsimp only
  rw [if_neg (by decide +kernel), if_pos rfl, if_neg (by decide +kernel), if_neg (by decide +kernel)]
  exact ex_made2
theorem ex_read4 : ReadR ⟨#[46, 53]⟩ ⟨#[]⟩ ⟨#[]⟩ 5 := by
  unfold ReadR ReadQ
  rw [if_neg (by decide +kernel), if_neg (by decide +kernel), if_pos (by decide +kernel)]
  exact ⟨by decide +kernel, by decide +kernel, rfl⟩
theorem ex_read5 : ReadR ⟨#[49, 46]⟩ ⟨#[]⟩ ⟨#[]⟩ 5 := by
  unfold ReadR ReadQ
  rw [if_neg (by decide +kernel), if_neg (by decide +kernel), if_pos (by decide +kernel)]
  exact ⟨by decide +kernel, by decide +kernel, rfl⟩
theorem ex_read6 : ReadR ⟨#[45, 49]⟩ ⟨#[]⟩ ⟨#[]⟩ 5 := by
  unfold ReadR ReadQ
  rw [if_neg (by decide +kernel), if_neg (by decide +kernel), if_pos (by decide +kernel)]
  exact ⟨by decide +kernel, by decide +kernel, rfl⟩
theorem ex_dec1 : DecR ⟨#[49]⟩ ⟨#[51]⟩ 2 ⟨#[48, 46, 51, 51]⟩ ⟨#[48, 46, 51, 52]⟩ 0 := .inr ⟨by decide +kernel, by decide, by decide, by decide +kernel, by decide +kernel, rfl⟩
theorem ex_dec2 : DecR ⟨#[53]⟩ ⟨#[50]⟩ 0 ⟨#[50]⟩ ⟨#[51]⟩ 0 := .inr ⟨by decide +kernel, by decide, by decide, by decide +kernel, by decide +kernel, rfl⟩
theorem ex_dec3 : DecR ⟨#[49]⟩ ⟨#[56]⟩ 3 ⟨#[48, 46, 49, 50, 53]⟩ ⟨#[48, 46, 49, 50, 53]⟩ 0 := .inr ⟨by decide +kernel, by decide, by decide, by decide +kernel, by decide +kernel, rfl⟩
theorem p12 : IsP (mkRat (1 : Nat) 2) ⟨#[49]⟩ ⟨#[50]⟩ := isP_of (by decide +kernel)
theorem p13 : IsP (mkRat (1 : Nat) 3) ⟨#[49]⟩ ⟨#[51]⟩ := isP_of (by decide +kernel)
theorem p310 : IsP (mkRat (3 : Nat) 10) ⟨#[51]⟩ ⟨#[49, 48]⟩ := isP_of (by decide +kernel)
theorem p710 : IsP (mkRat (7 : Nat) 10) ⟨#[55]⟩ ⟨#[49, 48]⟩ := isP_of (by decide +kernel)
theorem p16 : IsP (mkRat (1 : Nat) 6) ⟨#[49]⟩ ⟨#[54]⟩ := isP_of (by decide +kernel)
theorem p56 : IsP (mkRat (5 : Nat) 6) ⟨#[53]⟩ ⟨#[54]⟩ := isP_of (by decide +kernel)
theorem of_52 (w : World) (hT : Tabs w) : Calls Tryz.prog 30 #[.int .i64 5, .int .i64 2] w (ValPost (pV ⟨#[53]⟩ ⟨#[50]⟩) w) :=
  of_is (a := 5) (b := 2) (by decide) (by decide) (by decide) (by decide +kernel) (by decide +kernel) w hT
theorem of_18 (w : World) (hT : Tabs w) : Calls Tryz.prog 30 #[.int .i64 1, .int .i64 8] w (ValPost (pV ⟨#[49]⟩ ⟨#[56]⟩) w) :=
  of_is (a := 1) (b := 8) (by decide) (by decide) (by decide) (by decide +kernel) (by decide +kernel) w hT
theorem of_310 (w : World) (hT : Tabs w) : Calls Tryz.prog 30 #[.int .i64 3, .int .i64 10] w (ValPost (pV ⟨#[51]⟩ ⟨#[49, 48]⟩) w) :=
  of_is (a := 3) (b := 10) (by decide) (by decide) (by decide) (by decide +kernel) (by decide +kernel) w hT
theorem of_710 (w : World) (hT : Tabs w) : Calls Tryz.prog 30 #[.int .i64 7, .int .i64 10] w (ValPost (pV ⟨#[55]⟩ ⟨#[49, 48]⟩) w) :=
  of_is (a := 7) (b := 10) (by decide) (by decide) (by decide) (by decide +kernel) (by decide +kernel) w hT
theorem of_21 (w : World) (hT : Tabs w) : Calls Tryz.prog 30 #[.int .i64 2, .int .i64 1] w (ValPost (pV ⟨#[50]⟩ ⟨#[49]⟩) w) :=
  of_is (a := 2) (b := 1) (by decide) (by decide) (by decide) (by decide +kernel) (by decide +kernel) w hT
theorem of_31 (w : World) (hT : Tabs w) : Calls Tryz.prog 30 #[.int .i64 3, .int .i64 1] w (ValPost (pV ⟨#[51]⟩ ⟨#[49]⟩) w) :=
  of_is (a := 3) (b := 1) (by decide) (by decide) (by decide) (by decide +kernel) (by decide +kernel) w hT
theorem of_16 (w : World) (hT : Tabs w) : Calls Tryz.prog 30 #[.int .i64 1, .int .i64 6] w (ValPost (pV ⟨#[49]⟩ ⟨#[54]⟩) w) :=
  of_is (a := 1) (b := 6) (by decide) (by decide) (by decide) (by decide +kernel) (by decide +kernel) w hT
theorem of_56 (w : World) (hT : Tabs w) : Calls Tryz.prog 30 #[.int .i64 5, .int .i64 6] w (ValPost (pV ⟨#[53]⟩ ⟨#[54]⟩) w) :=
  of_is (a := 5) (b := 6) (by decide) (by decide) (by decide) (by decide +kernel) (by decide +kernel) w hT
end Go.Proofs.YthbpadjhlkdpeaaGreatDoor
/- What the chapter's examples are: shares, ranks, covers, sums of given lists. -/
namespace Go.Proofs.YthbpadjhlkdpeaaGreatDoor
open Go.RowKit Go.Shelf

abbrev l123 : List PP := [(⟨#[49]⟩, ⟨#[49]⟩), (⟨#[50]⟩, ⟨#[49]⟩), (⟨#[51]⟩, ⟨#[49]⟩)]
abbrev l323 : List PP := [(⟨#[49]⟩, ⟨#[51]⟩), (⟨#[49]⟩, ⟨#[50]⟩), (⟨#[49]⟩, ⟨#[51]⟩)]
theorem ex_share : shAll (rats l123) = .ok [mkRat (1 : Nat) 6, mkRat (1 : Nat) 3, mkRat (1 : Nat) 2] := by
  have h2 : sumA 0 (rats l123) = some (mkRat (6 : Nat) 1) := by decide +kernel
  have h3 : mkRat (6 : Nat) 1 ≠ 0 := by decide +kernel
  have h4 : shareA (mkRat (6 : Nat) 1) (rats l123) = some [mkRat (1 : Nat) 6, mkRat (1 : Nat) 3, mkRat (1 : Nat) 2] := by decide +kernel
  exact shAll_ok h2 h3 h4
def Share3 (w : World) (e : Ending) (w' : World) : Prop :=
  Below w.heap.size w w' ∧ ∃ b off cap, e = .returned (.tuple #[.slice (some ⟨b, off, none⟩) 3 cap, .int .i64 0]) ∧ cap ≤ maxLen ∧ b < w'.heap.size ∧ w'.cell? ⟨b, off, none⟩ = some (.string ⟨#[49]⟩) ∧ w'.cell? ⟨b, off + 1, none⟩ = some (.string ⟨#[54]⟩) ∧
    w'.cell? ⟨b, off + 4, none⟩ = some (.string ⟨#[49]⟩) ∧ w'.cell? ⟨b, off + 5, none⟩ = some (.string ⟨#[50]⟩)
theorem share_ex {u : Value} {w : World} (hu : PL w u l123) (hT : Tabs w) : Calls Tryz.prog 32 #[u] w (Share3 w) := by
  refine (shareOf_any hu (fun _ => by decide) hT).mono ?_
  rintro e w' ⟨hb, ⟨h, _⟩ | ⟨_, ⟨s, us, v, h1, h2, h3, rfl⟩ | ⟨n, h, _⟩⟩⟩
  · exact absurd (by decide +kernel) h
  · rw [ex_share] at h1
    obtain rfl := Except.ok.inj h1
    obtain ⟨p, cap, rfl, k1, k2, k3⟩ := h3
    have hl : us.length = 3 := h2.length.symm
    obtain ⟨b, off, rfl, k4, k5⟩ := k3 (List.ne_nil_of_length_pos (by omega))
    have g0 := h2.get 0 (by omega)
    have g2 := h2.get 2 (by omega)
    obtain ⟨c0, c1⟩ := k5 0 (by omega)
    obtain ⟨c4, c5⟩ := k5 2 (by omega)
    rw [g0.num] at c0
    rw [g0.den] at c1
    rw [g2.num] at c4
    rw [g2.den] at c5
    have e1 : str (numD (mkRat (1 : Nat) 6)) = ⟨#[49]⟩ := by decide +kernel
    have e2 : str (denD (mkRat (1 : Nat) 6)) = ⟨#[54]⟩ := by decide +kernel
    have e3 : str (numD (mkRat (1 : Nat) 2)) = ⟨#[49]⟩ := by decide +kernel
    have e4 : str (denD (mkRat (1 : Nat) 2)) = ⟨#[50]⟩ := by decide +kernel
    refine ⟨hb, b, off, cap, by rw [hl], k2, k4, c0.trans (congrArg (fun z => some (Value.string z)) e1), c1.trans (congrArg (fun z => some (Value.string z)) e2), c4.trans (congrArg (fun z => some (Value.string z)) e3), c5.trans (congrArg (fun z => some (Value.string z)) e4)⟩
  · rw [ex_share] at h; cases h
instance geRDec (qs : List Rat) (i k : Nat) : Decidable (geR qs i k) := inferInstanceAs (Decidable (_ ∨ _))
theorem ex_rank : RankOf (rats l323) [1, 0, 2] := ⟨by decide +kernel, by decide +kernel⟩
def Rank3 (w : World) (e : Ending) (w' : World) : Prop :=
  Below w.heap.size w w' ∧ ∃ b off cap, e = .returned (.tuple #[.slice (some ⟨b, off, none⟩) 3 cap, .int .i64 0]) ∧ cap ≤ maxLen ∧ b < w'.heap.size ∧ w'.cell? ⟨b, off, none⟩ = some (.int .i64 1) ∧ w'.cell? ⟨b, off + 1, none⟩ = some (.int .i64 0)
theorem rank_ex {u : Value} {w : World} (hu : PL w u l323) : Calls Tryz.prog 60 #[u] w (Rank3 w) := by
  refine (rank_any hu (fun _ => by decide) (by decide)).mono ?_
  rintro e w' ⟨hb, ⟨h, _⟩ | ⟨_, v, L, rfl, h1, h2⟩⟩
  · exact absurd (by decide +kernel) h
  · obtain rfl := h1.unique ex_rank
    obtain ⟨p, cap, rfl, k1, k2, k3⟩ := h2
    obtain ⟨b, off, rfl, k4, k5⟩ := k3 (by simp)
    exact ⟨hb, b, off, cap, rfl, k2, k4, k5 0 (by decide), k5 1 (by decide)⟩
theorem ex_cover : coverA (pick (rats l323) [1, 0, 2]) 0 (ratP ⟨#[53]⟩ ⟨#[54]⟩) 0 = (2, 0) := by decide +kernel
theorem cover_ex {u : Value} {w : World} (hu : PL w u l323) (hT : Tabs w) : Calls Tryz.prog 61 #[u, pV ⟨#[53]⟩ ⟨#[54]⟩] w (ValPost (.tuple #[.int .i64 2, .int .i64 0]) w) := by
  refine (cover_any hu (fun _ => by decide) (by decide) (by decide) (by decide) hT).mono ?_
  rintro e w' ⟨hb, ⟨h, _⟩ | ⟨_, h, _⟩ | ⟨_, _, L, h1, m, c, h2, rfl⟩⟩
  · exact absurd (by decide +kernel) h
  · exact absurd h (by decide +kernel)
  · obtain rfl := h1.unique ex_rank
    rw [ex_cover] at h2
    obtain ⟨rfl, rfl⟩ := Prod.mk.inj h2
    exact ⟨rfl, hb⟩
theorem sum_long {u : Value} {ps : List PP} {w : World} (hu : PL w u ps) (hl : 512 < ps.length) (hT : Tabs w) : Calls Tryz.prog 29 #[u] w (ValPost (.tuple #[pV ⟨#[]⟩ ⟨#[]⟩, .int .i64 3]) w) := by
  have hc : chkL [ps] = 3 := chkL_long (List.mem_singleton.2 rfl) hl
  refine (sumOf_any hu (fun h => by omega) hT).mono ?_
  rintro e w' ⟨hb, ⟨_, rfl⟩ | ⟨h, _⟩⟩
  · rw [hc]; exact ⟨rfl, hb⟩
  · rw [hc] at h; exact absurd h (by decide)
theorem share_none {w : World} (hT : Tabs w) : Calls Tryz.prog 32 #[.slice none 0 0] w (ValPost (.tuple #[.slice none 0 0, .int .i64 7]) w) := by
  have hs : shAll (rats []) = .error 7 := shAll_z (z := 0) rfl rfl
  refine (shareOf_any (PL.nil w) (fun _ p hp => by simp at hp) hT).mono ?_
  rintro e w' ⟨hb, ⟨h, _⟩ | ⟨_, ⟨s, us, v, h1, _⟩ | ⟨n, h, rfl⟩⟩⟩
  · exact absurd (by decide +kernel) h
  · rw [hs] at h1; cases h1
  · rw [hs] at h
    obtain rfl := Except.error.inj h
    exact ⟨rfl, hb⟩
theorem made_two (s t : ByteArray) : ∀ n : Nat, (madeCells (Value.agg #[.string s, .string t]).cells (n * 2)).toList = pcells (List.replicate n (s, t))
  | 0 => by simp [madeCells, pcells]
  | n + 1 => by
    have ih := made_two s t n
    have e : (n + 1) * 2 = n * 2 + 1 + 1 := by omega
    rw [List.replicate_succ', pcells_append, ← ih, e]
    unfold madeCells
    rw [Array.toList_map, Array.toList_map, Array.toList_range, Array.toList_range, List.range_succ, List.range_succ, List.map_append, List.map_append, List.append_assoc]
    congr 1
    have h0 : n * 2 % 2 = 0 := by omega
    have h1 : (n * 2 + 1) % 2 = 1 := by omega
    simp [pcells, Value.cells, h0, h1]
theorem made_pl {w : World} {base : Nat} {g : Nat} (h : w.ownsRow base 24 2 (.slice (some ⟨g, 0, none⟩) 513 513) 513 (madeCells (Value.agg #[.string ⟨#[]⟩, .string ⟨#[]⟩]).cells (513 * 2)).toList) :
    PL w (.slice (some ⟨g, 0, none⟩) 513 513) (List.replicate 513 ((⟨#[]⟩ : ByteArray), (⟨#[]⟩ : ByteArray))) := by
  refine Own.pl (base := base) ?_
  unfold Own
  rw [← made_two, List.length_replicate]
  exact h
theorem not_ex (w : World) (hT : Tabs w) : Calls Tryz.prog 40 #[pV ⟨#[51]⟩ ⟨#[49, 48]⟩] w (ValPost (.tuple #[pV ⟨#[55]⟩ ⟨#[49, 48]⟩, .int .i64 0]) w) := by
  refine (not_any _ _ w (by decide) (by decide) hT).mono ?_
  rintro e w' ⟨x, y, n, rfl, h, hb⟩
  rcases h with ⟨h, _⟩ | ⟨_, h⟩
  · exact absurd h (by decide +kernel)
  · rcases h with ⟨h, _⟩ | ⟨_, h⟩
    · exact absurd h (by decide +kernel)
    · obtain ⟨rfl, rfl, rfl⟩ := ans_to h p710 (by decide +kernel)
      exact ⟨rfl, hb⟩
end Go.Proofs.YthbpadjhlkdpeaaGreatDoor
