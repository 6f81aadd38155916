/- The parts Range, Back, Builder, Format, Dec, NatOk of a proof, put together by program (merge.py). -/
import Derived.Test.YthbpadjhlkdpeaaGreatDoorG01
import Derived.RangeFuncNested
import Derived.RangeFuncLeaves
import Derived.RangeFuncBound
import Derived.RangeFuncCalls
import Derived.RangeFuncBox
import Derived.Shelf.Abstract
import Derived.OwnWalkIn
import Derived.TacticsInMore
import Derived.LoopNIn
import Derived.LoopIn
import Derived.Test.YthbpadjhlkdpeaaGreatDoorG00
import Derived.Shelf.Strings.BuilderK
import Derived.Lib.AppendIntMem
import Derived.Lib.ItoaNum
import Derived.Lib.ParseIntB
/- A range over a function whose rounds come in a known order: the k-th round gets the k-th values. What an iterator owes (Iter), and the law for the loop (range_wp), at the fence that asks nothing. -/
namespace Go.Proofs.YthbpadjhlkdpeaaGreatDoor
open Go.RowKit

/-- What of memory stays: each block that S names. -/
structure Keeps (S : Nat → Prop) (w w' : World) : Prop where
  os : w'.os = w.os
  tape : w'.tape = w.tape
  output : w'.output = w.output
  size : w.heap.size ≤ w'.heap.size
  block : ∀ k, k < w.heap.size → S k → w'.heap[k]? = w.heap[k]?

section
variable {S S' : Nat → Prop} {a w w' : World}
theorem Keeps.refl (S : Nat → Prop) (w : World) : Keeps S w w := ⟨rfl, rfl, rfl, Nat.le_refl _, fun _ _ _ => rfl⟩
theorem Keeps.trans (h : Keeps S a w) (k : Keeps S w w') : Keeps S a w' :=
  ⟨k.os.trans h.os, k.tape.trans h.tape, k.output.trans h.output, Nat.le_trans h.size k.size, fun i hi hs => (k.block i (Nat.lt_of_lt_of_le hi h.size) hs).trans (h.block i hi hs)⟩
theorem Keeps.mono (h : Keeps S w w') (hs : ∀ b, b < w.heap.size → S' b → S b) : Keeps S' w w' := ⟨h.os, h.tape, h.output, h.size, fun k hk hk' => h.block k hk (hs k hk hk')⟩
theorem Keeps.alloc (h : Keeps S a w) (o : Obj) : Keeps S a (w.alloc o) :=
  h.trans ⟨rfl, rfl, rfl, by simp, fun k hk _ => Below.heap_alloc _ _ _ hk⟩
theorem Keeps.drew (h : Keeps S a w) : Keeps S a w.drew := ⟨h.os, h.tape, h.output, h.size, h.block⟩
theorem Keeps.setCell (h : Keeps S a w) {p : Addr} (hp : ¬ S p.block) (u : Value) : Keeps S a (w.setCell p u) :=
  h.trans ⟨rfl, rfl, rfl, by simp [World.setCell], fun k _ hs => Below.heap_setCell _ _ _ _ (fun e => hp (by rw [← e]; exact hs))⟩
theorem Keeps.putObj (h : Keeps S a w) {r : Nat} (hr : ¬ S r) (o : Obj) : Keeps S a (w.putObj r o) :=
  h.trans ⟨rfl, rfl, rfl, by simp, fun _ _ hs => World.putObj_heap_other (fun e => hr (by rw [← e]; exact hs))⟩
theorem Keeps.below {B : Nat} (h : Keeps S a w) (hb : Below B w w') (hB : ∀ b, b < w.heap.size → S b → b < B) : Keeps S a w' :=
  h.trans ⟨hb.os, hb.tape, hb.output, hb.size, fun k hk hs => hb.block k (hB k hk hs)⟩
theorem Keeps.grown {row : Option Nat} (h : Keeps S a w) (hg : w.grownBy w' row) (hr : ∀ r, row = some r → ¬ S r) : Keeps S a w' :=
  h.trans ⟨hg.os, hg.tape, hg.output, hg.size, fun k hk hs => hg.block k hk (fun e => hr k e.symm hs)⟩
theorem Keeps.cell (h : Keeps S w w') {p : Addr} (hp : p.block < w.heap.size) (hs : S p.block) : w'.cell? p = w.cell? p := World.cell?_of_block (w := w) (h.block _ hp hs)
theorem Keeps.frozen (h : Keeps S w w') {p : Addr} (hp : p.block < w.heap.size) (hs : S p.block) : w'.frozen? p = w.frozen? p := World.frozen?_of_block (w := w) (h.block _ hp hs)
/-- A cell that is there stays. -/
theorem Keeps.cellAt (h : Keeps S w w') {p : Addr} {v : Value} (hc : w.cell? p = some v) (hs : S p.block) : w'.cell? p = some v := (h.cell (World.block_lt_of_cell? w p hc) hs).trans hc
/-- Below B, whatever is not there yet besides. -/
theorem Below.keeps {B : Nat} (h : Below B w w') : Keeps (fun b => b < B) w w' := ⟨h.os, h.tape, h.output, h.size, fun k _ hs => h.block k hs⟩
end

theorem cell_new (w : World) (cs : Array Value) (T : TypeId) {b : Nat} (j : Nat) (hb : b = w.heap.size) : (w.alloc (.cells cs T)).cell? ⟨b, j, none⟩ = cs[j]? := by
  subst hb
  have h : (w.alloc (.cells cs T)).heap[w.heap.size]? = some (.cells cs T) := World.alloc_heap_new w _
  unfold World.cell?
  simp only [h]
  rfl
theorem frozen_new (w : World) (cs : Array Value) (T : TypeId) {b : Nat} (j : Nat) (hb : b = w.heap.size) : (w.alloc (.cells cs T)).frozen? ⟨b, j, none⟩ = false := by
  subst hb
  have h : (w.alloc (.cells cs T)).heap[w.heap.size]? = some (.cells cs T) := World.alloc_heap_new w _
  unfold World.frozen?
  simp only [h]
  simp
theorem cell_old (w : World) (o : Obj) {b : Nat} (j : Nat) (hb : b < w.heap.size) : (w.alloc o).cell? ⟨b, j, none⟩ = w.cell? ⟨b, j, none⟩ :=
  World.cell?_of_block (w := w) (Below.heap_alloc w o b hb)
theorem frozen_old (w : World) (o : Obj) {b : Nat} (j : Nat) (hb : b < w.heap.size) : (w.alloc o).frozen? ⟨b, j, none⟩ = w.frozen? ⟨b, j, none⟩ :=
  World.frozen?_of_block (w := w) (Below.heap_alloc w o b hb)

/-- What an iterator owes: over N rounds the k-th gets f k; the rounds keep what S names, the iterator itself what T names. -/
def Iter (P : Program) (gf : Nat) (lb : Array Value) (f : Nat → Array Value) (N : Nat) (S T : Nat → Prop) (w0 : World) : Prop :=
  ∀ (n l : Nat) (J Jx : Nat → World → Prop) (W : World), Keeps S w0 W →
    (∀ k W1 W2, J k W1 → Keeps T W1 W2 → J k W2) → (∀ k W1 W2, Jx k W1 → Keeps T W1 W2 → Jx k W2) →
    (∀ k W1, k < N → J k W1 → YieldAt Fence.wide (n - 1) P l (f k) W1 fun e W' => (e = .returned (.bool true) ∧ J (k + 1) W' ∧ Keeps S W1 W') ∨ (e = .returned (.bool false) ∧ Jx k W')) →
    J 0 W → CallsIn Fence.wide n P gf (#[.func (.yield l) #[] #[]] ++ lb) W fun e W' => (∃ v, e = .returned v) ∧ (J N W' ∨ ∃ k, k < N ∧ Jx k W')

/-- How the body of the k-th round may be left. -/
def RoundEnd (S : Nat → Prop) (D : Nat) (I : Nat → World → Prop) (Ix : Code → Nat → World → Prop) (k : Nat) (W : World) : Exit → Act → World → Prop
  | .normal, _, W' => Keeps (fun b => S b ∨ b = D ∨ b = D + 1) W W' ∧ I (k + 1) W'
  | .ret, _, W' => Keeps (fun b => S b ∨ b = D ∨ b = D + 1) W W' ∧ Ix .ret k W'
  | .exit id, _, W' => Keeps (fun b => S b ∨ b = D ∨ b = D + 1) W W' ∧ Ix (.exit id) k W'
  | .goto t, _, W' => Keeps (fun b => S b ∨ b = D ∨ b = D + 1) W W' ∧ Ix (.goto t) k W'
  | .panic _, _, _ => False
  | .outgrown, _, _ => False

/-- The law for 'for .. := range g { .. }'. D, D + 1: the two blocks that the statement itself lays. -/
theorem range_wp_at {P : Program} {n : Nat} {g : Operand} {ps : Array Tmp} {assign body : Code} {Q : Exit → Act → World → Prop} {a : Act} {w : World}
    {gf : Nat} {lb : Array Value} {f : Nat → Array Value} {N : Nat} {S T : Nat → Prop} (D : Nat) (hD : w.heap.size = D)
    (hg : a.eval g = .func (.func gf) #[] lb) (eg : ∀ args w, (callFunc gf args).run P w = .ok (.enter gf args) w) (hps : ∀ k, (f k).size = ps.size)
    (hit : Iter P gf lb f N S T w) (hSD : ∀ b, S b → b < D) (hTD : T D ∧ T (D + 1))
    (I : Nat → World → Prop) (Ix : Code → Nat → World → Prop)
    (hI : ∀ k W1 W2, I k W1 → Keeps (fun b => T b ∧ b ≠ D ∧ b ≠ D + 1) W1 W2 → I k W2)
    (hIx : ∀ c k W1 W2, Ix c k W1 → Keeps (fun b => T b ∧ b ≠ D ∧ b ≠ D + 1) W1 W2 → Ix c k W2)
    (h0 : I 0 w) (a₁ : Nat → Act)
    (hassign : ∀ (l k : Nat) (W : World) (K : Act → World → Prop), K (a₁ k) W →
      assign.wpIn (Fence.wide.inRound l) (n - 1 - 1) P (Exit.then K (fun _ _ _ => False)) { tmps := (ps.zip (f k)).foldl (fun t (p, v) => t.setIfInBounds p v) a.tmps, defers := [] } W)
    (hbody : ∀ (l k : Nat) (W : World), k < N → I k W → D + 2 ≤ W.heap.size → (W.heap[D]? = some (.deferred (some [])) ∧ ∃ l', W.heap[D + 1]? = some (.loop l')) → body.wpIn (Fence.wide.inRound l) (n - 1 - 1) P (RoundEnd S D I Ix k W) (a₁ k) W)
    (hdone : ∀ W : World, I N W → W.heap[D]? = some (.deferred (some [])) → Q .normal { a with defers := { target := .collected D, args := #[] } :: a.defers } W)
    (hstop : ∀ (c : Code) (k : Nat) (W : World), k < N → Ix c k W → W.heap[D]? = some (.deferred (some [])) → c.wpIn Fence.wide n P Q { a with defers := { target := .collected D, args := #[] } :: a.defers } W) :
    (Code.rangeFunc g ps assign body).wpIn Fence.wide n P Q a w := by
  subst hD
  refine wpIn_rangeFunc fun fn _ => ?_
  let rec0 : LoopState → Option Code → Loop := fun st pe => { state := st, pending := pe, fn, tmps := a.tmps, params := ps, assign, body, defers := w.heap.size }
  obtain ⟨mk, hmk⟩ : ∃ mk : LoopState → Option Code → Loop, mk = rec0 := ⟨_, rfl⟩
  obtain ⟨W1, hW1⟩ : ∃ W1, (w.alloc (.deferred (some []))).alloc (.loop (mk .ready none)) = W1 := ⟨_, rfl⟩
  have hrec1 : W1.heap[w.heap.size + 1]? = some (.loop (mk .ready none)) := by
    have := World.alloc_heap_new (w.alloc (.deferred (some []))) (.loop (mk .ready none))
    rwa [World.size_alloc, hW1] at this
  have hdef1 : W1.heap[w.heap.size]? = some (.deferred (some [])) := by
    rw [← hW1]; exact (Below.heap_alloc _ _ _ (by simp)).trans (World.alloc_heap_new w _)
  have keepAny : ∀ S' : Nat → Prop, Keeps S' w W1 := fun S' => by rw [← hW1]; exact ((Keeps.refl S' w).alloc _).alloc _
  refine ⟨w.heap.size + 1, [{ target := .collected w.heap.size, args := #[] }], W1, { target := .fn (.func gf) lb, args := #[.func (.yield (w.heap.size + 1)) #[] #[]] }, W1, gf,
    #[.func (.yield (w.heap.size + 1)) #[] #[]] ++ lb, W1, ?_, ?_, fun _ _ => trivial, ?_, (fun h => by cases h), ?_⟩
  · rw [← hW1, hmk]; exact run_enterLoop_outer _ _ _ _ _
  · simp only [resolve, hg]
    simp [go_sem]
  · simp [invoke, go_sem, eg]
  · -- the record between two rounds, and when one has said 'no more'
    have turn : ∀ {k : Nat} {W2 : World} (l : Loop), I k W2 → W2.heap[w.heap.size]? = some (.deferred (some [])) → w.heap.size + 1 < W2.heap.size →
        I k (W2.putObj (w.heap.size + 1) (.loop l)) ∧ (W2.putObj (w.heap.size + 1) (.loop l)).heap[w.heap.size]? = some (.deferred (some [])) ∧ (W2.putObj (w.heap.size + 1) (.loop l)).heap[w.heap.size + 1]? = some (.loop l) :=
      fun l hi hd hlt => ⟨hI _ _ _ hi ((Keeps.refl _ _).putObj (fun h => h.2.2 rfl) _), (World.putObj_heap_other (by omega)).trans hd, World.putObj_heap_same hlt⟩
    have turnx : ∀ {c : Code} {k : Nat} {W2 : World} (l : Loop), Ix c k W2 → W2.heap[w.heap.size]? = some (.deferred (some [])) → w.heap.size + 1 < W2.heap.size →
        Ix c k (W2.putObj (w.heap.size + 1) (.loop l)) ∧ (W2.putObj (w.heap.size + 1) (.loop l)).heap[w.heap.size]? = some (.deferred (some [])) ∧ (W2.putObj (w.heap.size + 1) (.loop l)).heap[w.heap.size + 1]? = some (.loop l) :=
      fun l hi hd hlt => ⟨hIx _ _ _ _ hi ((Keeps.refl _ _).putObj (fun h => h.2.2 rfl) _), (World.putObj_heap_other (by omega)).trans hd, World.putObj_heap_same hlt⟩
    have ltOf : ∀ {W2 : World} {o : Obj}, W2.heap[w.heap.size + 1]? = some o → w.heap.size + 1 < W2.heap.size := fun h => (Array.getElem?_eq_some_iff.1 h).1
    have stay : ∀ {k : Nat} {A B : World} {l : Loop}, (A.heap[w.heap.size + 1]? = some (.loop l) ∧ A.heap[w.heap.size]? = some (.deferred (some []))) → Keeps T A B →
        B.heap[w.heap.size + 1]? = some (.loop l) ∧ B.heap[w.heap.size]? = some (.deferred (some [])) := fun {k A B l} h hk =>
      ⟨(hk.block _ (ltOf h.1) hTD.2).trans h.1, (hk.block _ (by have := ltOf h.1; omega) hTD.1).trans h.2⟩
    refine (hit (n - 1) (w.heap.size + 1)
      (fun k W => I k W ∧ (W.heap[w.heap.size + 1]? = some (.loop (mk .ready none)) ∧ W.heap[w.heap.size]? = some (.deferred (some []))))
      (fun k W => ∃ c, Ix c k W ∧ (W.heap[w.heap.size + 1]? = some (.loop (mk .done (some c))) ∧ W.heap[w.heap.size]? = some (.deferred (some []))))
      W1 (keepAny S)
      (fun k A B h hk => ⟨hI _ _ _ h.1 (hk.mono fun b _ hb => hb.1), stay (k := k) h.2 hk⟩)
      (fun k A B h hk => by obtain ⟨c, h1, h2⟩ := h; exact ⟨c, hIx _ _ _ _ h1 (hk.mono fun b _ hb => hb.1), stay (k := k) h2 hk⟩)
      ?_ ⟨hI _ _ _ h0 (keepAny _), hrec1, hdef1⟩).mono ?_
    · rintro k W hk ⟨hi, hl, hd⟩
      have hlt := ltOf hl
      have hy := run_yield (P := P) (args := f k) hl (by rw [hmk]; exact hps k)
      rw [hmk] at hy
      refine ⟨fn, _, assign, body, hy, roundIn_of_wpIn (F := Fence.wide) trivial (hassign _ k W _ ⟨_, run_beginRound hl (by rw [hmk]), ?_⟩)⟩
      obtain ⟨hi2, hd2, hl2⟩ := turn { mk .ready none with state := .busy } hi hd hlt
      have keepSame : Keeps S W (W.putObj (w.heap.size + 1) (.loop { mk .ready none with state := .busy })) := (Keeps.refl _ _).putObj (fun h => by have := hSD _ h; omega) _
      refine wpIn_mono (hbody _ k _ hk hi2 (by simp; omega) ⟨hd2, _, hl2⟩) ?_
      generalize hV : W.putObj (w.heap.size + 1) (.loop { mk .ready none with state := .busy }) = V at hi2 hd2 hl2 keepSame
      have fin : ∀ (jump : Option Code) (W3 : World), Keeps (fun b => S b ∨ b = w.heap.size ∨ b = w.heap.size + 1) V W3 →
          (Instr.endRound (w.heap.size + 1) jump).run P W3 = .ok (.bool jump.isNone) (W3.putObj (w.heap.size + 1) (.loop (mk (if jump.isNone then .ready else .done) jump))) ∧
            W3.heap[w.heap.size]? = some (.deferred (some [])) ∧ w.heap.size + 1 < W3.heap.size := fun jump W3 hk3 => by
        have hl3 : W3.heap[w.heap.size + 1]? = some (.loop { mk .ready none with state := .busy }) := (hk3.block _ (ltOf hl2) (.inr (.inr rfl))).trans hl2
        have hd3 := (hk3.block _ (by have := ltOf hl2; omega) (.inr (.inl rfl))).trans hd2
        have := run_endRound (P := P) jump hl3
        rw [hmk] at this ⊢
        exact ⟨this, hd3, ltOf hl3⟩
      rintro e a3 W3 hp
      cases e with
      | normal =>
        obtain ⟨hk3, hi3⟩ := hp
        obtain ⟨hr, hd3, hlt3⟩ := fin none W3 hk3
        obtain ⟨x1, x2, x3⟩ := turn (mk .ready none) hi3 hd3 hlt3
        exact ⟨_, _, hr, .inl ⟨rfl, ⟨x1, x3, x2⟩, (keepSame.trans (hk3.mono fun b _ hb => .inl hb)).putObj (fun h => by have := hSD _ h; omega) _⟩⟩
      | ret =>
        obtain ⟨hk3, hi3⟩ := hp
        obtain ⟨hr, hd3, hlt3⟩ := fin (some .ret) W3 hk3
        obtain ⟨x1, x2, x3⟩ := turnx (mk .done (some .ret)) hi3 hd3 hlt3
        exact ⟨_, _, hr, .inr ⟨rfl, .ret, x1, x3, x2⟩⟩
      | exit id =>
        obtain ⟨hk3, hi3⟩ := hp
        obtain ⟨hr, hd3, hlt3⟩ := fin (some (.exit id)) W3 hk3
        obtain ⟨x1, x2, x3⟩ := turnx (mk .done (some (.exit id))) hi3 hd3 hlt3
        exact ⟨_, _, hr, .inr ⟨rfl, .exit id, x1, x3, x2⟩⟩
      | goto t =>
        obtain ⟨hk3, hi3⟩ := hp
        obtain ⟨hr, hd3, hlt3⟩ := fin (some (.goto t)) W3 hk3
        obtain ⟨x1, x2, x3⟩ := turnx (mk .done (some (.goto t))) hi3 hd3 hlt3
        exact ⟨_, _, hr, .inr ⟨rfl, .goto t, x1, x3, x2⟩⟩
      | panic ch => exact hp.elim
      | outgrown => exact hp.elim
    · rintro e W2 ⟨⟨v, rfl⟩, (⟨hi, hl, hd⟩ | ⟨k, hk, c, hi, hl, hd⟩)⟩
      · have he := run_endLoop (P := P) hl (by rw [hmk]; simp [rec0])
        obtain ⟨x1, x2, _⟩ := turn { mk .ready none with state := .exhausted } hi hd (ltOf hl)
        refine ⟨none, _, by rw [hmk] at he ⊢; exact he, hdone _ x1 x2⟩
      · have he := run_endLoop (P := P) hl (by rw [hmk]; simp [rec0])
        obtain ⟨x1, x2, _⟩ := turnx { mk .done (some c) with state := .exhausted } hi hd (ltOf hl)
        refine ⟨some c, _, by rw [hmk] at he ⊢; exact he, hstop c k _ hk x1 x2⟩

/-- The same, where the body does not look at what the statement lays. -/
theorem range_wp {P : Program} {n : Nat} {g : Operand} {ps : Array Tmp} {assign body : Code} {Q : Exit → Act → World → Prop} {a : Act} {w : World}
    {gf : Nat} {lb : Array Value} {f : Nat → Array Value} {N : Nat} {S T : Nat → Prop} (D : Nat) (hD : w.heap.size = D)
    (hg : a.eval g = .func (.func gf) #[] lb) (eg : ∀ args w, (callFunc gf args).run P w = .ok (.enter gf args) w) (hps : ∀ k, (f k).size = ps.size)
    (hit : Iter P gf lb f N S T w) (hSD : ∀ b, S b → b < D) (hTD : T D ∧ T (D + 1))
    (I : Nat → World → Prop) (Ix : Code → Nat → World → Prop)
    (hI : ∀ k W1 W2, I k W1 → Keeps (fun b => T b ∧ b ≠ D ∧ b ≠ D + 1) W1 W2 → I k W2)
    (hIx : ∀ c k W1 W2, Ix c k W1 → Keeps (fun b => T b ∧ b ≠ D ∧ b ≠ D + 1) W1 W2 → Ix c k W2)
    (h0 : I 0 w) (a₁ : Nat → Act)
    (hassign : ∀ (l k : Nat) (W : World) (K : Act → World → Prop), K (a₁ k) W →
      assign.wpIn (Fence.wide.inRound l) (n - 1 - 1) P (Exit.then K (fun _ _ _ => False)) { tmps := (ps.zip (f k)).foldl (fun t (p, v) => t.setIfInBounds p v) a.tmps, defers := [] } W)
    (hbody : ∀ (l k : Nat) (W : World), k < N → I k W → D + 2 ≤ W.heap.size → body.wpIn (Fence.wide.inRound l) (n - 1 - 1) P (RoundEnd S D I Ix k W) (a₁ k) W)
    (hdone : ∀ W : World, I N W → W.heap[D]? = some (.deferred (some [])) → Q .normal { a with defers := { target := .collected D, args := #[] } :: a.defers } W)
    (hstop : ∀ (c : Code) (k : Nat) (W : World), k < N → Ix c k W → W.heap[D]? = some (.deferred (some [])) → c.wpIn Fence.wide n P Q { a with defers := { target := .collected D, args := #[] } :: a.defers } W) :
    (Code.rangeFunc g ps assign body).wpIn Fence.wide n P Q a w :=
  range_wp_at D hD hg eg hps hit hSD hTD I Ix hI hIx h0 a₁ hassign (fun l k W h1 h2 h3 _ => hbody l k W h1 h2 h3) hdone hstop
end Go.Proofs.YthbpadjhlkdpeaaGreatDoor
/- slices.Backward over a number: the iterator's contract: the places and limbs, the last first. -/
namespace Go.Proofs.YthbpadjhlkdpeaaGreatDoor
open Go.RowKit Go.Shelf
attribute [local go_sem] Oper.semAt_some

/-- The k-th place that comes, the last first. -/
def bk (n k : Nat) : Nat := n - 1 - k

theorem At.keeps {k : IntKind} {S : Nat → Prop} {w w' : World} {b off : Nat} {xs : List Nat} (h : At k w b off xs) (hb : Keeps S w w') (hs : S b) : At k w' b off xs :=
  fun j hj => hb.cellAt (p := ⟨b, off + j, none⟩) (h j hj) hs

set_option maxRecDepth 100000 in
set_option maxHeartbeats 2000000 in
/-- The closure that slices.Backward hands back: the places and limbs, the last first. -/
theorem back_iter (Bs : Nat) (S : Nat → Prop) (p : Option Addr) (cap : Nat) (xs : List Nat) (hl : xs.length ≤ 1000000) (w0 : World) (hS : S Bs)
    (hBs : w0.cell? ⟨Bs, 0, none⟩ = some (.slice p xs.length cap)) (hp : xs ≠ [] → ∃ b off, p = some ⟨b, off, none⟩ ∧ S b ∧ At .u64 w0 b off xs) :
    Iter Tryz.prog 154 #[.pointer (some ⟨Bs, 0, none⟩)] (fun k => #[.int .i64 (bk xs.length k : Nat), .int .u64 (lim xs (bk xs.length k) : Nat)]) xs.length S (fun _ => True) w0 := by
  intro n l J Jx W hK hJ hJx hY h0
  have HP : Hid (xs ≠ [] → ∃ b off, p = some ⟨b, off, none⟩ ∧ S b ∧ At .u64 W b off xs) := fun hne => by
    obtain ⟨b, off, h1, h2, h3⟩ := hp hne
    exact ⟨b, off, h1, h2, h3.keeps hK h2⟩
  have hB1 : W.cell? ⟨Bs, 0, none⟩ = some (.slice p xs.length cap) := hK.cellAt hBs hS
  have HY := Lib.hid hY
  clear hp hY hBs
  refine callsIn_of_wp Tryz.func154 rfl trivial ?_ rfl
  simp only [Tryz.ntmps154, List.size_toArray, List.length_cons, List.length_nil, Nat.reduceAdd, Nat.reduceSub, Array.replicate_succ, Array.replicate_zero, List.push_toArray, List.append_toArray, List.nil_append, List.cons_append]
  gi_wp2
  gi_loopw [3] (fun iv wr => ∃ (i : Int) (k : Nat), iv = .int .i64 i ∧ Hid (i + k + 1 = xs.length) ∧ -1 ≤ i ∧ i < xs.length ∧ J k wr ∧ Hid (Keeps S W wr))
    (fun iv _ => (intOf iv + 1).toNat)
  case atStart => exact ⟨_, 0, rfl, by show _ = _; omega, by omega, by omega, h0, Keeps.refl _ _⟩
  case round =>
    obtain ⟨i, k, rfl, HK, hi1, hi2, hJs, HN⟩ := hrel
    have hbs' : wr.cell? ⟨Bs, 0, none⟩ = some (.slice p xs.length cap) := HN.out.cellAt hB1 hS
    clear hB1
    by_cases hge : 0 ≤ i
    · obtain ⟨j, rfl⟩ : ∃ j : Nat, i = (j : Int) := ⟨i.toNat, by omega⟩
      have hjl : j < xs.length := by omega
      obtain ⟨b, off, rfl, hb, ha⟩ := HP.out (List.ne_nil_of_length_pos (by omega))
      obtain ⟨x, hx⟩ : ∃ x, lim xs j = x := ⟨_, rfl⟩
      have hcx : wr.cell? ⟨b, off + j, none⟩ = some (.int .u64 (x : Nat)) := HN.out.cellAt (ha.getD hjl hx) hb
      have hjk : bk xs.length k = j := by have := HK.out; unfold bk; omega
      have hkl : k < xs.length := by have := HK.out; omega
      obtain ⟨fn, tmps, assign, body, hy, hR⟩ := HY.out k wr hkl hJs
      rw [hjk, hx] at hy
      clear ha hx hjk hJs
      gi_wp2
      refine ⟨(fun h => by cases h), hR.mono ?_⟩
      rintro e W3 (⟨rfl, hJ3, hk3⟩ | ⟨rfl, hJx3⟩)
      · have HN3 := Lib.hid (HN.out.trans hk3)
        clear hk3
        gi_wp2
        go_roundw
        case rel => exact ⟨_, k + 1, rfl, by show _ = _; have := HK.out; omega, by omega, by omega, hJ3, HN3⟩
        case measure => simp [intOf]
      · gi_wp2
        refine bodyPost_ret (results_none rfl _ _ _) rfl ?_
        exact ⟨⟨_, rfl⟩, .inr ⟨k, hkl, hJx3⟩⟩
    · obtain rfl : i = -1 := by omega
      have hkl : k = xs.length := by have := HK.out; omega
      have HKL := Lib.hid hkl
      clear hkl
      gi_wp2
      go_end0
      exact ⟨⟨_, rfl⟩, .inl (by rw [← HKL.out]; exact hJs)⟩

set_option maxHeartbeats 1000000 in
/-- slices.Backward(n): the slice is boxed; the function value captures the box. -/
theorem back_in (F : Fence) (n : Nat) (hf : F.fn 130) (hro : F.round = none) (p : Option Addr) (len cap : Nat) (w : World) :
    CallsIn F n Tryz.prog 130 #[.slice p len cap] w fun e w' => e = .returned (.func (.func 154) #[] #[.pointer (some ⟨w.heap.size, 0, none⟩)]) ∧ w' = w.alloc (.cells #[.slice p len cap] 92) := by
  refine callsIn_of_wp Tryz.func130 rfl hf ?_ hro
  simp only [Tryz.ntmps130, List.size_toArray, List.length_cons, List.length_nil, Nat.reduceAdd, Nat.reduceSub, Array.replicate_succ, Array.replicate_zero, List.push_toArray, List.append_toArray, List.nil_append, List.cons_append]
  gi_wp2
  go_ret
  exact ⟨rfl, rfl⟩

end Go.Proofs.YthbpadjhlkdpeaaGreatDoor
/- strings.Builder: copyCheck and WriteString, at a builder that stands where it was made. -/
namespace Go.Proofs.YthbpadjhlkdpeaaGreatDoor
open Go.RowKit Go.Shelf

theorem bX : Builder.Extra Tryz.prog Tryz.lays169_ren := Tryz.Builder_Extra_169

set_option maxHeartbeats 1000000 in
set_option maxRecDepth 100000 in
theorem copyCheck_used (b : Nat) (w : World) (h0 : w.cell? ⟨b, 0, none⟩ = some (.pointer (some ⟨b, 0, none⟩))) :
    Calls Tryz.prog 173 #[.pointer (some ⟨b, 0, none⟩)] w fun e w' => e = .returned (.tuple #[]) ∧ w' = w := by
  obtain ⟨j, hj, _⟩ := Option.map_eq_some_iff.1 bX.sizeBuilder
  go_enter Tryz.func173, Tryz.ntmps173
  go_wp2
  rw [Lib.run_neq_ptr_same w _ Tryz.underlying169 hj]
  go_wp2
  go_end0
  exact ⟨rfl, rfl⟩

set_option maxHeartbeats 1000000 in
set_option maxRecDepth 100000 in
theorem copyCheck_fresh (b : Nat) (w : World) (h0 : w.cell? ⟨b, 0, none⟩ = some (.pointer none)) (hsh : w.shape? b = some (171, 2)) (hfz : w.frozen? ⟨b, 0, none⟩ = false) :
    Calls Tryz.prog 173 #[.pointer (some ⟨b, 0, none⟩)] w fun e w' => e = .returned (.tuple #[]) ∧ w' = w.setCell ⟨b, 0, none⟩ (.pointer (some ⟨b, 0, none⟩)) := by
  obtain ⟨j, hj, hjs⟩ := Option.map_eq_some_iff.1 bX.sizeBuilder
  go_enter Tryz.func173, Tryz.ntmps173
  go_wp2
  rw [Lib.run_to_unsafe w ⟨b, 0, none⟩ Tryz.underlying169 Tryz.underlying222 hj (by rw [hjs]; decide) hsh (Nat.zero_lt_succ 1)]
  simp only [Result.andThen]
  rw [Oper.upon_value]
  go_wp2
  rw [run_callFunc_extern Tryz.func195 (by kernel_rfl) (by kernel_rfl) (by kernel_rfl) (e := Extern.AbiNoEscape.same) (by kernel_rfl)]
  rw [Lib.run_noEscape]
  simp only [Result.andThen]
  rw [Oper.upon_value]
  go_wp2
  rw [Lib.run_from_unsafe w ⟨b, 0, none⟩ Tryz.underlying222 Tryz.underlying169 hj hsh bX.liesBuilder]
  simp only [Result.andThen]
  rw [Oper.upon_value]
  go_wp2
  go_end0
  exact ⟨rfl, rfl⟩

/-- A builder that holds the bytes l. -/
def Bld (B b : Nat) (l : List UInt8) (w : World) : Prop := Lib.IsBuilderF 171 5 B b (Lib.byteCells l) w

theorem copyCheck_any (B b : Nat) (bs : List Value) (w : World) (h : Lib.IsBuilderF 171 5 B b bs w) :
    Calls Tryz.prog 173 #[.pointer (some ⟨b, 0, none⟩)] w fun e w' => e = .returned (.tuple #[]) ∧
      (Lib.BuilderAtF 171 5 B b (.pointer (some ⟨b, 0, none⟩)) bs w' ∧ Below B w w' ∧ Lib.OthersKept 5 (some b) w w') := by
  rcases h with h | h
  · refine (copyCheck_fresh b w h.cell0 h.shape h.frozen0).mono ?_
    rintro e w' ⟨rfl, rfl⟩
    exact ⟨rfl, h.used _, (Below.refl B w).setCell (p := ⟨b, 0, none⟩) h.1 _, (Lib.OthersKept.refl _ _ w).setCell ⟨b, 0, none⟩ rfl _⟩
  · refine (copyCheck_used b w h.cell0).mono ?_
    rintro e w' ⟨rfl, rfl⟩
    exact ⟨rfl, h, Below.refl B _, Lib.OthersKept.refl _ _ _⟩

set_option maxHeartbeats 2000000 in
set_option maxRecDepth 100000 in
theorem writeString_cells (B b : Nat) (bs : List Value) (s : ByteArray) (w : World) (h : Lib.IsBuilderF 171 5 B b bs w) (hlen : bs.length + s.size ≤ 140737488355328) (hBw : B ≤ w.heap.size) :
    Calls Tryz.prog 144 #[.pointer (some ⟨b, 0, none⟩), .string s] w fun e w' => e = .returned (.tuple #[.int .i64 s.size, .nilIface]) ∧
      (Lib.BuilderAtF 171 5 B b (.pointer (some ⟨b, 0, none⟩)) (bs ++ Lib.strCells s) w' ∧ Below B w w' ∧ Lib.OthersKept 5 (some b) w w') := by
  obtain ⟨i0, hi, hz0, hz1, hz2⟩ := info_parts bX.infoByte
  go_enter Tryz.func144, Tryz.ntmps144
  go_wp2_with (go_at_call 173; refine (copyCheck_any B b bs _ h).mono ?_)
  rintro e w1 ⟨rfl, h1, hb1, hk1⟩
  obtain ⟨hB, v, hbk, hown, hne⟩ := h1
  have c0 : w1.cell? ⟨b, 0, none⟩ = some (.pointer (some ⟨b, 0, none⟩)) := by rw [Lib.cell_of_heap hbk]; rfl
  have c1 : w1.cell? ⟨b, 1, none⟩ = some v := by rw [Lib.cell_of_heap hbk]; rfl
  go_wp2_with (at_builtin; refine Lib.wpList_append_own_stringF _ rfl _ _ 161 9 rfl B 5 i0 Tryz.underlying161 Tryz.underlying9 hi hz0 hz1 hz2 _ _ _ rfl hown s rfl ?c3 ?c4 ?c5 ?_)
  case c3 => unfold maxLen; omega
  case c4 => omega
  case c5 => have := hb1.size; omega
  intro v' w2 hown' hgrow _
  have hlt : b < w1.heap.size := (Array.getElem?_eq_some_iff.1 hbk).1
  have hb2 : w2.heap[b]? = some (.cells #[.pointer (some ⟨b, 0, none⟩), v] 171 (0, 0)) := by
    rw [hgrow.block b hlt (fun e => hne e.symm)]
    exact hbk
  have d0 : w2.cell? ⟨b, 0, none⟩ = some (.pointer (some ⟨b, 0, none⟩)) := by rw [Lib.cell_of_heap hb2]; rfl
  have d1 : w2.cell? ⟨b, 1, none⟩ = some v := by rw [Lib.cell_of_heap hb2]; rfl
  have f1 : w2.frozen? ⟨b, 1, none⟩ = false := Lib.frozen_of_heap hb2 1
  obtain ⟨ao, n', cap, rfl⟩ : ∃ ao n' cap, v' = .slice ao n' cap := by
    rcases hown'.2 with ⟨hv, _⟩ | ⟨g, cap, cur, fz, hv, _⟩
    · exact ⟨_, _, _, hv⟩
    · exact ⟨_, _, _, hv⟩
  go_wp2
  go_ret2
  refine ⟨rfl, ?_, ?_, (hk1.grown hgrow (Lib.ownsRowF_kind hown)).setCell ⟨b, 1, none⟩ rfl _⟩
  · exact Lib.BuilderAtF.put (T := 171) (e := 5) hB hb2 (bs' := bs ++ Lib.strCells s) (by simpa [Lib.strCells_length] using hown') bX.neB5
  · exact (hb1.grown hgrow (by have := hb1.size; omega) (fun k hk => (hown.lt k hk).1)).setCell (p := ⟨b, 1, none⟩) hB _
end Go.Proofs.YthbpadjhlkdpeaaGreatDoor
/- strconv.FormatUint at base 10. -/
namespace Go.Proofs.YthbpadjhlkdpeaaGreatDoor
open Go.RowKit Go.Shelf Go.Sort Go.Lib

set_option maxRecDepth 100000 in
theorem formatUint_small (i : Nat) (hi : i < 100) (w : World) :
    Calls Tryz.prog 174 #[.int .u64 i, .int .i64 10] w fun e w' => e = .returned (.string ⟨(Lib.decDigits i).toArray⟩) ∧ Below w.heap.size w w' := by
  go_enter Tryz.func174, Tryz.ntmps174
  go_wp2_with (go_at_call 179; refine (Tryz.internal_strconv_small i hi _).mono ?_; rintro e w' ⟨rfl, rfl⟩)
  go_ret
  exact ⟨rfl, Below.refl _ _⟩

set_option maxHeartbeats 2000000 in
set_option maxRecDepth 100000 in
theorem formatUint_great (u : Nat) (hu : 100 ≤ u) (hu64 : u < 18446744073709551616) (w : World) (htab : Lib.TabIs Tryz.prog w "internal/strconv.uint64pow10" .u64 Lib.pow10Tab) :
    Calls Tryz.prog 174 #[.int .u64 u, .int .i64 10] w fun e w' => e = .returned (.string ⟨(Lib.decDigits u).toArray⟩) ∧ Below w.heap.size w w' := by
  have hu1 : 1 ≤ u := by omega
  have hnd20 : Lib.nDigits u ≤ 20 := by have := Lib.numDigits_eq u hu1 hu64; split at this <;> omega
  have hal : Tryz.prog.arrayLen 207 = 24 := by kernel_rfl
  have hel : Tryz.prog.elem 207 = 5 := by kernel_rfl
  have hsl1 : ∀ W, (Instr.sliceAt 207 (.pointer (some ⟨w.heap.size, 0, none⟩)) none (some (.int .i64 (Lib.nDigits u : Int))) none).run Tryz.prog W = .ok (.slice (some ⟨w.heap.size, 0, none⟩) (Lib.nDigits u) 24) W := fun W => by
    rw [run_sliceAt_array_h W 207 ⟨w.heap.size, 0, none⟩ (by simp [hal, hel]) .i64 (Lib.nDigits u : Int) (by omega) (by rw [hal]; omega)]
    go_simp
  have hH0 := Lib.holds_zero0 w 207 (Lib.nDigits u) (by omega)
  have hfmt := Tryz.internal_strconv_formatBase10 w.heap.size 0 24 u (Array.replicate (Lib.nDigits u) 0) (w.alloc (.cells Lib.zeros24 207)) hH0 (by rw [Array.size_replicate]; exact Lib.lt_pow_nDigits u) hu64 (by rw [Array.size_replicate]; omega)
  rw [Array.size_replicate] at hfmt
  have HH0 := Lib.hid hH0
  clear hH0 hal hel
  have hul : ¬ (u : Int) < 100 := by omega
  go_enter Tryz.func174, Tryz.ntmps174
  go_wp2_with (first
    | (go_at_call 180; refine (Tryz.internal_strconv_numDigits u hu1 hu64 _ (Lib.tabIs_alloc htab _)).mono ?_; rintro e w' ⟨rfl, rfl⟩))

  refine hfmt.mono ?_
  rintro e w' ⟨rfl, k, v', dk, rfl, hF⟩
  have hcv : (convert 161 9 (.slice (some ⟨w.heap.size, 0, none⟩) (Lib.nDigits u) 24)).run Tryz.prog ((putRow (fun (b : UInt8) => Value.int .u8 (b.toNat : Int)) (w.alloc (.cells Lib.zeros24 207)) w.heap.size 0 dk).drewN k) = .ok (.string ⟨(Lib.decDigits u).toArray⟩) ((putRow (fun (b : UInt8) => Value.int .u8 (b.toNat : Int)) (w.alloc (.cells Lib.zeros24 207)) w.heap.size 0 dk).drewN k) := by
    have h := run_convert_bytes_back (P := Tryz.prog) ((putRow (fun (b : UInt8) => Value.int .u8 (b.toNat : Int)) (w.alloc (.cells Lib.zeros24 207)) w.heap.size 0 dk).drewN k) 161 9 5 ⟨w.heap.size, 0, none⟩ 24 (Lib.decDigits u) Tryz.underlying161 Tryz.underlying5 Tryz.underlying9 (fun j hj => by
      rw [Lib.row_is_numeral hF j hj, Lib.add_plain, World.cell?_drewN]
      exact cell?_putRow (fun (b : UInt8) => Value.int .u8 (b.toNat : Int)) _ w.heap.size 0 _ dk HH0.out (by rw [hF.size, Array.size_replicate]) j (by rw [hF.size]; rw [Lib.decDigits_length] at hj; exact hj))
    rw [Lib.decDigits_length] at h
    exact h
  go_wp2
  go_ret
  refine ⟨rfl, ?_⟩
  obtain ⟨os, eo⟩ := Lib.fin_at w (.cells Lib.zeros24 207) dk k 0
  rw [eo]
  exact Lib.below_grow _ _ (Nat.le_refl _) _ _

/-- strconv.FormatUint(u, 10). -/
theorem formatUint_any (u : Nat) (hu64 : u < 18446744073709551616) (w : World) (htab : Lib.TabIs Tryz.prog w "internal/strconv.uint64pow10" .u64 Lib.pow10Tab) :
    Calls Tryz.prog 145 #[.int .u64 u, .int .i64 10] w fun e w' => e = .returned (.string ⟨(Lib.decDigits u).toArray⟩) ∧ Below w.heap.size w w' := by
  have h : Calls Tryz.prog 174 #[.int .u64 u, .int .i64 10] w fun e w' => e = .returned (.string ⟨(Lib.decDigits u).toArray⟩) ∧ Below w.heap.size w w' := by
    rcases Nat.lt_or_ge u 100 with hu | hu
    · exact formatUint_small u hu w
    · exact formatUint_great u hu hu64 w htab
  go_enter Tryz.func145, Tryz.ntmps145
  go_wp2_with (go_at_call 174; refine h.mono ?_; rintro e w' ⟨rfl, hb⟩)
  have HB := Lib.hid hb
  clear hb h
  go_wp2
  go_ret
  exact ⟨rfl, HB.out⟩
end Go.Proofs.YthbpadjhlkdpeaaGreatDoor
/- Decimal digits and numbers. No program is in sight. -/
namespace Go.Proofs.YthbpadjhlkdpeaaGreatDoor
open Go.Lib

/-- A digit's number. -/
def dg1 (c : UInt8) : Nat := c.toNat - 48
def isDig (c : UInt8) : Bool := decide (48 ≤ c.toNat ∧ c.toNat ≤ 57)
/-- What a string of digits says. -/
def decVal (s : List UInt8) : Nat := s.foldl (fun a c => a * 10 + dg1 c) 0

theorem decVal_from (s : List UInt8) : ∀ a, s.foldl (fun a c => a * 10 + dg1 c) a = a * 10 ^ s.length + decVal s := by
  unfold decVal
  induction s with
  | nil => intro a; simp
  | cons c s ih =>
    intro a
    rw [List.foldl_cons, ih, List.foldl_cons, ih (0 * 10 + dg1 c), List.length_cons, Nat.pow_succ]
    grind

theorem decVal_nil : decVal [] = 0 := rfl
theorem decVal_append (s t : List UInt8) : decVal (s ++ t) = decVal s * 10 ^ t.length + decVal t := by
  show List.foldl _ 0 (s ++ t) = _
  rw [List.foldl_append, decVal_from]
  rfl
theorem decVal_one (c : UInt8) : decVal [c] = dg1 c := by simp [decVal]
theorem decVal_snoc (s : List UInt8) (c : UInt8) : decVal (s ++ [c]) = decVal s * 10 + dg1 c := by rw [decVal_append, decVal_one]; simp
theorem decVal_cons (c : UInt8) (s : List UInt8) : decVal (c :: s) = dg1 c * 10 ^ s.length + decVal s := by
  have := decVal_append [c] s
  rwa [decVal_one] at this

theorem dg1_lt {c : UInt8} (h : isDig c = true) : dg1 c < 10 := by
  unfold isDig at h; unfold dg1
  have := of_decide_eq_true h
  omega
theorem dg1_digit {d : Nat} (h : d < 10) : dg1 (UInt8.ofNat (48 + d)) = d ∧ isDig (UInt8.ofNat (48 + d)) = true := by
  have : (UInt8.ofNat (48 + d)).toNat = 48 + d := by rw [UInt8.toNat_ofNat']; omega
  unfold dg1 isDig
  rw [this]
  exact ⟨by omega, by simp; omega⟩
theorem digit_dg1 {c : UInt8} (h : isDig c = true) : UInt8.ofNat (48 + dg1 c) = c := by
  have h1 := of_decide_eq_true h
  apply UInt8.toNat_inj.1
  rw [UInt8.toNat_ofNat']
  unfold dg1
  have := c.toNat_lt
  omega

theorem decVal_lt {s : List UInt8} (h : ∀ c ∈ s, isDig c = true) : decVal s < 10 ^ s.length := by
  induction s with
  | nil => simp [decVal]
  | cons c s ih =>
    rw [decVal_cons, List.length_cons, Nat.pow_succ]
    have h1 := dg1_lt (h c (by simp))
    have h2 := ih fun x hx => h x (by simp [hx])
    have h3 : dg1 c * 10 ^ s.length ≤ 9 * 10 ^ s.length := Nat.mul_le_mul_right _ (by omega)
    omega

/-! ### The text of a number -/

theorem decDigits_small {n : Nat} (h : n < 10) : decDigits n = [UInt8.ofNat (48 + n)] := by rw [decDigits, dif_pos h]
theorem decDigits_big {n : Nat} (h : 10 ≤ n) : decDigits n = decDigits (n / 10) ++ [UInt8.ofNat (48 + n % 10)] := by rw [decDigits, dif_neg (by omega)]

theorem decVal_decDigits (n : Nat) : decVal (decDigits n) = n := by
  induction n using Nat.strongRecOn with
  | _ n ih =>
    rcases Nat.lt_or_ge n 10 with h | h
    · rw [decDigits_small h, decVal_one]; exact (dg1_digit h).1
    · rw [decDigits_big h, decVal_snoc, ih (n / 10) (by omega), (dg1_digit (Nat.mod_lt n (by omega))).1]; omega

theorem decDigits_digits (n : Nat) : ∀ c ∈ decDigits n, isDig c = true := by
  induction n using Nat.strongRecOn with
  | _ n ih =>
    intro c hc
    rcases Nat.lt_or_ge n 10 with h | h
    · rw [decDigits_small h] at hc; have hc := List.mem_singleton.1 hc; subst hc; exact (dg1_digit h).2
    · rw [decDigits_big h] at hc
      rcases List.mem_append.1 hc with hc | hc
      · exact ih (n / 10) (by omega) c hc
      · have hc := List.mem_singleton.1 hc; subst hc; exact (dg1_digit (Nat.mod_lt n (by omega))).2

theorem decDigits_ne (n : Nat) : decDigits n ≠ [] := by
  rcases Nat.lt_or_ge n 10 with h | h
  · rw [decDigits_small h]; simp
  · rw [decDigits_big h]; simp

theorem decDigits_inj {n m : Nat} (h : decDigits n = decDigits m) : n = m := by
  have := congrArg decVal h
  rwa [decVal_decDigits, decVal_decDigits] at this

theorem decDigits_zero : decDigits 0 = [48] := by rw [decDigits_small (by omega)]; rfl
theorem decDigits_one' : decDigits 1 = [49] := by rw [decDigits_small (by omega)]; rfl

theorem head_append {α : Type} {s t : List α} (h : s ≠ []) : (s ++ t).head? = s.head? := by
  cases s with
  | nil => exact absurd rfl h
  | cons c s => rfl
/-- No zero at the head, but for 0. -/
theorem decDigits_head (n : Nat) (h : 0 < n) : (decDigits n).head? ≠ some 48 := by
  induction n using Nat.strongRecOn with
  | _ n ih =>
    rcases Nat.lt_or_ge n 10 with h1 | h1
    · rw [decDigits_small h1]
      intro hc
      have hc := Option.some.inj hc
      have := congrArg UInt8.toNat hc
      rw [UInt8.toNat_ofNat'] at this
      have h48 : (48 : UInt8).toNat = 48 := rfl
      omega
    · rw [decDigits_big h1]
      have := ih (n / 10) (by omega) (by omega)
      rwa [head_append (decDigits_ne _)]

/-- Canonical digits: at least one, no zero at the head of more than one. -/
structure Canon (s : List UInt8) : Prop where
  dig : ∀ c ∈ s, isDig c = true
  ne : s ≠ []
  head : 1 < s.length → s.head? ≠ some 48

theorem canon_decDigits (n : Nat) : Canon (decDigits n) := by
  refine ⟨decDigits_digits n, decDigits_ne n, fun h => ?_⟩
  rcases Nat.eq_zero_or_pos n with h0 | h0
  · subst h0; rw [decDigits_zero] at h; simp at h
  · exact decDigits_head n h0

theorem decVal_pos {s : List UInt8} (hd : ∀ c ∈ s, isDig c = true) (hn : s ≠ []) (hh : s.head? ≠ some 48) : 0 < decVal s := by
  rcases s with _ | ⟨c, s⟩
  · exact absurd rfl hn
  · rw [decVal_cons]
    have h1 : isDig c = true := hd c (by simp)
    have h2 : dg1 c ≠ 0 := by
      intro h0
      apply hh
      have := digit_dg1 h1
      rw [h0] at this
      rw [List.head?_cons, ← this]
      rfl
    have : 0 < dg1 c * 10 ^ s.length := Nat.mul_pos (by omega) (Nat.pow_pos (by omega))
    omega

theorem snoc_cases {α : Type} (s : List α) (h : s ≠ []) : ∃ t c, s = t ++ [c] := ⟨s.dropLast, s.getLast h, (List.dropLast_concat_getLast h).symm⟩

theorem decDigits_decVal {s : List UInt8} (hd : ∀ c ∈ s, isDig c = true) (hn : s ≠ []) (hh : 1 < s.length → s.head? ≠ some 48) : decDigits (decVal s) = s := by
  induction hlen : s.length generalizing s with
  | zero => exact absurd (List.eq_nil_of_length_eq_zero hlen) hn
  | succ k ih =>
    obtain ⟨t, c, rfl⟩ := snoc_cases s hn
    have hc : isDig c = true := hd c (by simp)
    have ht : ∀ x ∈ t, isDig x = true := fun x hx => hd x (by simp [hx])
    have hcl := dg1_lt hc
    rw [decVal_snoc]
    by_cases h0 : t = []
    · subst h0
      rw [decVal_nil, decDigits_small (by omega)]
      simp only [Nat.zero_mul, Nat.zero_add, List.nil_append]
      rw [digit_dg1 hc]
    · have hlen2 : 1 < (t ++ [c]).length := by
        have : t.length ≠ 0 := fun h => h0 (List.eq_nil_of_length_eq_zero h)
        rw [List.length_append, List.length_singleton]; omega
      have hh2 : t.head? ≠ some 48 := by
        have := hh hlen2
        rwa [head_append h0] at this
      have hp := decVal_pos ht h0 hh2
      rw [decDigits_big (by omega), show (decVal t * 10 + dg1 c) / 10 = decVal t by omega, show (decVal t * 10 + dg1 c) % 10 = dg1 c by omega,
        ih ht h0 (fun _ => hh2) (by simpa using hlen), digit_dg1 hc]

theorem Canon.text {s : List UInt8} (h : Canon s) : decDigits (decVal s) = s := decDigits_decVal h.dig h.ne h.head
theorem Canon.eq {s t : List UInt8} (hs : Canon s) (ht : Canon t) (h : decVal s = decVal t) : s = t := by
  rw [← hs.text, ← ht.text, h]

theorem decDigits_length_le {n k : Nat} (hk : 0 < k) (h : n < 10 ^ k) : (decDigits n).length ≤ k := by
  induction k generalizing n with
  | zero => omega
  | succ k ih =>
    rcases Nat.lt_or_ge n 10 with h1 | h1
    · rw [decDigits_small h1]; simp
    · rw [decDigits_big h1, List.length_append, List.length_singleton]
      have hk0 : 0 < k := by
        rcases Nat.eq_zero_or_pos k with h0 | h0
        · subst h0; simp at h; omega
        · exact h0
      have := ih (n := n / 10) hk0 (by rw [Nat.div_lt_iff_lt_mul (by omega)]; rwa [Nat.pow_succ] at h)
      omega
theorem lt_pow_length (n : Nat) : n < 10 ^ (decDigits n).length := by
  have := decVal_lt (decDigits_digits n)
  rwa [decVal_decDigits] at this

/-! ### Fixed width -/

/-- The k lowest digits. -/
def fix : Nat → Nat → List UInt8
  | 0, _ => []
  | k + 1, n => fix k (n / 10) ++ [UInt8.ofNat (48 + n % 10)]

theorem fix_length (k n : Nat) : (fix k n).length = k := by
  induction k generalizing n with
  | zero => rfl
  | succ k ih => rw [fix, List.length_append, ih]; rfl

theorem decDigits_join (h k l : Nat) (hh : 0 < h) (hl : l < 10 ^ k) : decDigits (h * 10 ^ k + l) = decDigits h ++ fix k l := by
  induction k generalizing l with
  | zero =>
    have : l = 0 := by simpa using hl
    subst this
    simp [fix]
  | succ k ih =>
    have hp : 0 < 10 ^ k := Nat.pow_pos (by omega)
    have h1 : h * 10 ^ (k + 1) = h * 10 ^ k * 10 := by rw [Nat.pow_succ]; grind
    have h2 : 1 ≤ h * 10 ^ k := Nat.mul_pos hh hp
    rw [decDigits_big (by omega), fix, show (h * 10 ^ (k + 1) + l) / 10 = h * 10 ^ k + l / 10 by omega, show (h * 10 ^ (k + 1) + l) % 10 = l % 10 by omega,
      ih (l / 10) (by rw [Nat.div_lt_iff_lt_mul (by omega)]; rwa [Nat.pow_succ] at hl), List.append_assoc]

theorem fix_zero (k : Nat) : fix k 0 = List.replicate k 48 := by
  induction k with
  | zero => rfl
  | succ k ih => rw [fix, Nat.zero_div, ih, List.replicate_succ']; rfl

theorem fix_pad (k l : Nat) (hk : 0 < k) (hl : l < 10 ^ k) : fix k l = List.replicate (k - (decDigits l).length) 48 ++ decDigits l := by
  induction k generalizing l with
  | zero => omega
  | succ k ih =>
    rw [fix]
    rcases Nat.lt_or_ge l 10 with h1 | h1
    · rw [Nat.div_eq_of_lt h1, Nat.mod_eq_of_lt h1, fix_zero, decDigits_small h1]; simp
    · have hk0 : 0 < k := by
        rcases Nat.eq_zero_or_pos k with h0 | h0
        · subst h0; simp at hl; omega
        · exact h0
      rw [ih (l / 10) hk0 (by rw [Nat.div_lt_iff_lt_mul (by omega)]; rwa [Nat.pow_succ] at hl), decDigits_big h1, List.length_append, List.append_assoc]
      simp only [List.length_singleton]
      congr 2
      omega

/-! ### Reading -/

theorem parseUintM_digits (M : Nat) (hM : M ≤ 18446744073709551615) : ∀ (s : List UInt8) (a : Nat), (∀ c ∈ s, isDig c = true) → a * 10 ^ s.length + decVal s ≤ M → parseUintM M a s = .ok (a * 10 ^ s.length + decVal s)
  | [], a, _, _ => by simp [parseUintM, decVal]
  | c :: r, a, hd, hle => by
    have hc : isDig c = true := hd c (by simp)
    have hc1 := of_decide_eq_true hc
    have hp : 0 < 10 ^ r.length := Nat.pow_pos (by omega)
    have he : a * 10 ^ (c :: r).length + decVal (c :: r) = (a * 10 + dg1 c) * 10 ^ r.length + decVal r := by
      rw [decVal_cons, List.length_cons, Nat.pow_succ]; grind
    rw [he] at hle ⊢
    have h1 : (a * 10 + dg1 c) * 1 ≤ (a * 10 + dg1 c) * 10 ^ r.length := Nat.mul_le_mul_left _ hp
    have h2 : a * 10 + dg1 c ≤ M := by omega
    have h3 : dg1 c = c.toNat - 48 := rfl
    rw [parseUintM, if_pos hc1, if_neg (by omega), if_neg (by omega)]
    exact parseUintM_digits M hM r _ (fun x hx => hd x (by simp [hx])) hle

theorem parseUint64_digits {s : List UInt8} (hd : ∀ c ∈ s, isDig c = true) (hn : s ≠ []) (hl : s.length ≤ 19) : parseUintB 64 s = .ok (decVal s) := by
  rw [parseUintB, if_neg hn]
  have h1 := decVal_lt hd
  have h2 : 10 ^ s.length ≤ 10 ^ 19 := Nat.pow_le_pow_right (by omega) hl
  have := parseUintM_digits (2 ^ 64 - 1) (by omega) s 0 hd (by omega)
  simpa using this
end Go.Proofs.YthbpadjhlkdpeaaGreatDoor
/- Which strings are natural numbers. No program is in sight. -/
namespace Go.Proofs.YthbpadjhlkdpeaaGreatDoor
open Go.Lib

theorem size_len (s : ByteArray) : s.data.toList.length = s.size := rfl

/-- Only digits, and at least one. -/
def plainOk (l : List UInt8) : Bool := decide (l ≠ []) && l.all isDig
def wholeOk (l : List UInt8) : Bool := plainOk l && decide (1 < l.length → l.head? ≠ some 48)
def natOk (l : List UInt8) : Bool := wholeOk l && decide (l.length ≤ 600)

theorem canon_of_whole {l : List UInt8} (h : wholeOk l = true) : Canon l := by
  unfold wholeOk plainOk at h
  simp only [Bool.and_eq_true, decide_eq_true_eq, List.all_eq_true] at h
  exact ⟨h.1.2, h.1.1, h.2⟩
theorem canon_of_nat {l : List UInt8} (h : natOk l = true) : Canon l ∧ l.length ≤ 600 := by
  unfold natOk at h
  simp only [Bool.and_eq_true, decide_eq_true_eq] at h
  exact ⟨canon_of_whole h.1, h.2⟩
theorem natOk_of_canon {l : List UInt8} (h : Canon l) (hl : l.length ≤ 600) : natOk l = true := by
  unfold natOk wholeOk plainOk
  simp only [Bool.and_eq_true, decide_eq_true_eq, List.all_eq_true]
  exact ⟨⟨⟨h.ne, h.dig⟩, h.head⟩, hl⟩

end Go.Proofs.YthbpadjhlkdpeaaGreatDoor
