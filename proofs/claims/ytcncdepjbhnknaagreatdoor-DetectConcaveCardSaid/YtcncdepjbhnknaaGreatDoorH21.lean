/- The parts DNeed, BendL, DHalv, AliveM, LawOf, DAlive of a proof, put together by program (merge6.py). -/
import Derived.Test.YtcncdepjbhnknaaGreatDoorH20
import Derived.Test.YtcncdepjbhnknaaGreatDoorH11
import Derived.Test.YtcncdepjbhnknaaGreatDoorH12
import Derived.Test.YtcncdepjbhnknaaGreatDoorH16
import Derived.Test.YtcncdepjbhnknaaGreatDoorH15
import Derived.Test.YtcncdepjbhnknaaGreatDoorH01
set_option linter.unusedVariables false
set_option linter.unusedSimpArgs false
/- detect's Need. -/
namespace Go.Proofs.YtcncdepjbhnknaaGreatDoor
open Go.RowKit Go.Shelf
attribute [local go_sem ↓] Go.wp_at_zero Go.wp_at_succ
attribute [local go_sem] Oper.semAt_some

def ExactG (c : Rat) (x y : ByteArray) (n : Int) : Prop := n = 0 ∧ IsP c x y
set_option maxRecDepth 100000 in
set_option maxHeartbeats 4000000 in
theorem need1_any {w : World} {X Y U V A : Rat} {xs xt ys yt us ut vs vt ao ap p1 q1 p2 q2 p3 q3 p4 q4 p5 q5 x y : ByteArray} (A1 B1 C1 : Nat) (hA : w.heap[A1]? = some (bO us ut xs xt)) (hB : w.heap[B1]? = some (bO vs vt ys yt)) (hCc : w.heap[C1]? = some (pObj ao ap))
    (hx : IsP X xs xt) (hy : IsP Y ys yt) (hu : IsP U us ut) (hv : IsP V vs vt) (ha : IsP A ao ap)
    (h1 : IsP (V - U) p1 q1) (h2 : IsP (Y - X) p2 q2) (h3 : IsP ((V - U) / (Y - X)) p3 q3) (hp : 0 < Y - X) (h4 : IsP (A - X) p4 q4) (h5 : IsP ((V - U) / (Y - X) * (A - X)) p5 q5) (h6 : IsP (U + (V - U) / (Y - X) * (A - X)) x y) (hT : Tabs w) :
    Calls Tryz.prog 74 #[.pointer (some ⟨A1, 0, none⟩), .pointer (some ⟨B1, 0, none⟩), .pointer (some ⟨C1, 0, none⟩)] w (DoneD (ExactG (U + (V - U) / (Y - X) * (A - X))) w) := by
  have hb0 : Below w.heap.size w (w.alloc (pObj ⟨#[]⟩ ⟨#[]⟩)) := (Below.refl _ w).alloc (Nat.le_refl _) _
  have HB0 := Lib.hid hb0
  have HR := Lib.hid (along_to hx hy hu hv ha h1 h2 h3 hp h4 h5 h6 _ (hT.below hb0 (Nat.le_refl _)))
  have HH6 := Lib.hid h6
  have la := (Array.getElem?_eq_some_iff.1 hA).1
  have lb := (Array.getElem?_eq_some_iff.1 hB).1
  have lc := (Array.getElem?_eq_some_iff.1 hCc).1
  have a0 : (w.alloc (pObj ⟨#[]⟩ ⟨#[]⟩)).cell? ⟨A1, 0, none⟩ = some (.string us) := (cell_old _ _ _ la).trans (known_cell hA 0 rfl)
  have a1 : (w.alloc (pObj ⟨#[]⟩ ⟨#[]⟩)).cell? ⟨A1, 1, none⟩ = some (.string ut) := (cell_old _ _ _ la).trans (known_cell hA 1 rfl)
  have a2 : (w.alloc (pObj ⟨#[]⟩ ⟨#[]⟩)).cell? ⟨A1, 2, none⟩ = some (.string xs) := (cell_old _ _ _ la).trans (known_cell hA 2 rfl)
  have a3 : (w.alloc (pObj ⟨#[]⟩ ⟨#[]⟩)).cell? ⟨A1, 3, none⟩ = some (.string xt) := (cell_old _ _ _ la).trans (known_cell hA 3 rfl)
  have b0 : (w.alloc (pObj ⟨#[]⟩ ⟨#[]⟩)).cell? ⟨B1, 0, none⟩ = some (.string vs) := (cell_old _ _ _ lb).trans (known_cell hB 0 rfl)
  have b1 : (w.alloc (pObj ⟨#[]⟩ ⟨#[]⟩)).cell? ⟨B1, 1, none⟩ = some (.string vt) := (cell_old _ _ _ lb).trans (known_cell hB 1 rfl)
  have b2 : (w.alloc (pObj ⟨#[]⟩ ⟨#[]⟩)).cell? ⟨B1, 2, none⟩ = some (.string ys) := (cell_old _ _ _ lb).trans (known_cell hB 2 rfl)
  have b3 : (w.alloc (pObj ⟨#[]⟩ ⟨#[]⟩)).cell? ⟨B1, 3, none⟩ = some (.string yt) := (cell_old _ _ _ lb).trans (known_cell hB 3 rfl)
  have c0 : (w.alloc (pObj ⟨#[]⟩ ⟨#[]⟩)).cell? ⟨C1, 0, none⟩ = some (.string ao) := (cell_old _ _ _ lc).trans (known_cell hCc 0 rfl)
  have c1 : (w.alloc (pObj ⟨#[]⟩ ⟨#[]⟩)).cell? ⟨C1, 1, none⟩ = some (.string ap) := (cell_old _ _ _ lc).trans (known_cell hCc 1 rfl)
  have HP : Hid ((w.alloc (pObj ⟨#[]⟩ ⟨#[]⟩)).heap[w.heap.size]? = some (pObj ⟨#[]⟩ ⟨#[]⟩)) := World.alloc_heap_new w _
  clear hb0 hA hB hCc la lb lc hx hy hu hv ha h1 h2 h3 hp h4 h5 h6 hT
  go_enter Tryz.func74, Tryz.ntmps74
  go_wp2_with fail
  refine HR.out.mono ?_
  rintro e w2 ⟨rfl, hb⟩
  have h2 : w2.heap[w.heap.size]? = some (pObj ⟨#[]⟩ ⟨#[]⟩) := (hb.block _ (by simp)).trans HP.out
  have HB2 : Hid (Below w.heap.size w w2) := HB0.out.trans (hb.mono HB0.out.size)
  have H2 := Lib.hid h2
  clear a0 a1 a2 a3 b0 b1 b2 b3 c0 c1 hb HR HP
  have c0 : w2.cell? ⟨w.heap.size, 0, none⟩ = some (.string ⟨#[]⟩) := known_cell h2 0 rfl
  have c1 : w2.cell? ⟨w.heap.size, 1, none⟩ = some (.string ⟨#[]⟩) := known_cell h2 1 rfl
  have f0 : w2.frozen? ⟨w.heap.size, 0, none⟩ = false := known_frozen h2 0
  have f1 : w2.frozen? ⟨w.heap.size, 1, none⟩ = false := known_frozen h2 1
  clear h2
  go_wp2
  obtain ⟨q0, q1⟩ := two_put_cells H2.out (.string x) (.string y)
  exact bodyPost_ret (v := .agg #[.string x, .string y]) (by simp [results, Tryz.f74, go_sem, q0, q1]) rfl ⟨x, y, 0, .inl ⟨rfl, rfl⟩, ⟨rfl, HH6.out⟩, two_put_below HB2.out (Nat.le_refl _) (.string x) (.string y)⟩

/-- What holds between two rounds. -/
def NdI (bs : List BB) (q : Rat) (G : Nat) (w6 : World) (k : Nat) (W : World) : Prop := (∀ j, j < k → hR bs (j + 1) < q) ∧ Keeps (fun b => b < G + 1) w6 W
def NdX (bs : List BB) (s t : ByteArray) (P : Nat) (w6 : World) (c : Code) (W : World) : Prop :=
  c = .ret ∧ ∃ x y n, NeedA bs s t x y n ∧ W.heap[P + 1]? = some (pObj x y) ∧ W.heap[P + 1 + 1]? = some (eO n) ∧ Keeps (fun b => b < P) w6 W
/-- Both results that are stored. -/
theorem three_put {W : World} {g : Nat} {a b : ByteArray} {m : Int} (h : W.heap[g]? = some (pObj a b)) (h2 : W.heap[g + 1]? = some (eO m)) (x y : ByteArray) (n : Int) :
    (((W.setCell ⟨g, 0, none⟩ (.string x)).setCell ⟨g, 1, none⟩ (.string y)).setCell ⟨g + 1, 0, none⟩ (.int .i64 n)).heap[g]? = some (pObj x y) ∧
    (((W.setCell ⟨g, 0, none⟩ (.string x)).setCell ⟨g, 1, none⟩ (.string y)).setCell ⟨g + 1, 0, none⟩ (.int .i64 n)).heap[g + 1]? = some (eO n) ∧
    (∀ k, k ≠ g → k ≠ g + 1 → (((W.setCell ⟨g, 0, none⟩ (.string x)).setCell ⟨g, 1, none⟩ (.string y)).setCell ⟨g + 1, 0, none⟩ (.int .i64 n)).heap[k]? = W.heap[k]?) ∧
    ∀ S : Nat → Prop, ¬ S g → ¬ S (g + 1) → Keeps S W (((W.setCell ⟨g, 0, none⟩ (.string x)).setCell ⟨g, 1, none⟩ (.string y)).setCell ⟨g + 1, 0, none⟩ (.int .i64 n)) :=
  ⟨(Below.heap_setCell _ _ _ _ (by show g ≠ g + 1; omega)).trans (Joins.block_setCell (Joins.block_setCell h _) _),
    Joins.block_setCell (((Below.heap_setCell _ _ _ _ (by show g + 1 ≠ g; omega)).trans (Below.heap_setCell _ _ _ _ (by show g + 1 ≠ g; omega))).trans h2) _,
    fun k h1 h2 => (Below.heap_setCell _ _ _ _ h2).trans ((Below.heap_setCell _ _ _ _ h1).trans (Below.heap_setCell _ _ _ _ h1)),
    fun S h1 h2 => (((Keeps.refl S W).setCell (p := ⟨g, 0, none⟩) h1 _).setCell (p := ⟨g, 1, none⟩) h1 _).setCell (p := ⟨g + 1, 0, none⟩) h2 _⟩
set_option maxRecDepth 100000 in
set_option maxHeartbeats 8000000 in
theorem dNeed_any {v : Value} {bs : List BB} {w : World} {s t : ByteArray} (hv : BL w v bs) (hz : LimB bs) (hs : s.size ≤ 1000000) (ht : t.size ≤ 1000000) (hD : DetV w) (hT : Tabs w) :
    Calls Tryz.prog 32 #[v, .agg #[.string s, .string t]] w (PartPost (NeedA bs s t) w) := by
  obtain ⟨n, hn⟩ : ∃ n, bs.length = n := ⟨_, rfl⟩
  obtain ⟨p, c, rfl⟩ : ∃ p c, v = .slice p n c := by obtain ⟨p, c, h, _⟩ := id hv; exact ⟨_, _, by rw [← hn]; exact h⟩
  have HN := Lib.hid hn
  clear hn
  obtain ⟨w3, hw3⟩ : ∃ z, ((w.alloc (pObj s t)).alloc (pObj ⟨#[]⟩ ⟨#[]⟩)).alloc (eO 0) = z := ⟨_, rfl⟩
  have hs3 : w3.heap.size = w.heap.size + 3 := by rw [← hw3]; simp
  have HX : Hid (Boxes w.heap.size [pObj s t, pObj ⟨#[]⟩ ⟨#[]⟩, eO 0] w3) := by rw [← hw3]; exact Boxes.three w _ _ _
  have HB3 : Hid (Below w.heap.size w w3) := by rw [← hw3]; exact (((Below.refl _ w).alloc (Nat.le_refl _) _).alloc (by simp) _).alloc (by simp <;> omega) _
  have hb4 : Below w3.heap.size w3 (w3.alloc (.cells #[.string s, .string t] 46)) := (Below.refl _ w3).alloc (Nat.le_refl _) _
  have HB4 : Hid (Below w.heap.size w (w3.alloc (.cells #[.string s, .string t] 46))) := HB3.out.trans (hb4.mono HB3.out.size)
  have hlim : LimP [(s, t)] := fun p hp => by
    rw [List.mem_singleton] at hp
    subst hp
    exact ⟨hs, ht⟩
  have HR := Lib.hid (dright_any (hv.after HB4.out (Nat.le_refl _)) hz (pl_single w3 s t) hlim (hD.below HB4.out (Nat.le_refl _)) (hT.below HB4.out (Nat.le_refl _)))
  rw [hs3] at HR
  have HX4 := Lib.hid (HX.out.below hb4 (by rw [hs3]; exact Nat.le_refl _))
  have HV := Lib.hid hv
  have HT := Lib.hid hT
  have HD := Lib.hid hD
  have HZ := Lib.hid hz
  have d0 : w3.cell? ⟨w.heap.size, 0, none⟩ = some (.string s) := HX.out.cell 0 0 rfl rfl rfl
  have d1 : w3.cell? ⟨w.heap.size, 1, none⟩ = some (.string t) := HX.out.cell 0 1 rfl rfl rfl
  have hs3' := hs3
  rw [← hw3] at d0 d1 HR HX4 HB4 hs3'
  clear hv hz hD hT hb4 hw3 hs hs3 HB3 HX hlim ht
  refine calls_calm Tryz.func32 rfl ?_
  simp only [Tryz.ntmps32, List.size_toArray, List.length_cons, List.length_nil, Nat.reduceAdd, Nat.reduceSub, Array.replicate_succ, Array.replicate_zero, List.push_toArray, List.append_toArray, List.nil_append, List.cons_append]
  go_wp2_with fail
  refine HR.out.mono ?_
  rintro e w5 ⟨hE, hb⟩
  have HX5 := Lib.hid (HX4.out.below hb (by simp))
  have HB5 := Lib.hid (HB4.out.trans (hb.mono HB4.out.size))
  clear d0 d1 hb HR HX4 HB4 hs3'
  have c0 : w5.cell? ⟨w.heap.size + 1, 0, none⟩ = some (.string ⟨#[]⟩) := HX5.out.cell 1 0 rfl rfl rfl
  have c1 : w5.cell? ⟨w.heap.size + 1, 1, none⟩ = some (.string ⟨#[]⟩) := HX5.out.cell 1 1 rfl rfl rfl
  have f0 : w5.frozen? ⟨w.heap.size + 1, 0, none⟩ = false := HX5.out.free 1 0 rfl rfl
  have f1 : w5.frozen? ⟨w.heap.size + 1, 1, none⟩ = false := HX5.out.free 1 1 rfl rfl
  have c2 : w5.cell? ⟨w.heap.size + 1 + 1, 0, none⟩ = some (.int .i64 0) := HX5.out.cell 2 0 rfl rfl rfl
  have f2 : w5.frozen? ⟨w.heap.size + 1 + 1, 0, none⟩ = false := HX5.out.free 2 0 rfl rfl
  have hl5 := HX5.out.lt
  rcases hE with ⟨hr, rfl⟩ | ⟨hr, rfl⟩
  · have HRP := Lib.hid (rightP_one.1 hr)
    have hsm := isP_small (rightP_one.1 hr).2
    clear hr
    have d0 : w5.cell? ⟨w.heap.size, 0, none⟩ = some (.string s) := HX5.out.cell 0 0 rfl rfl rfl
    have d1 : w5.cell? ⟨w.heap.size, 1, none⟩ = some (.string t) := HX5.out.cell 0 1 rfl rfl rfl
    have z0 := (HD.out.below HB5.out (Nat.le_refl _)).z0
    have z1 := (HD.out.below HB5.out (Nat.le_refl _)).z1
    by_cases hq0 : ratP s t = 0
    · obtain ⟨e1, e2⟩ := isP_one' hsm.1 isP_zero hq0
      subst e1 e2
      have HA : Hid (NeedA bs ⟨#[48]⟩ ⟨#[49]⟩ ⟨#[48]⟩ ⟨#[49]⟩ 0) := by
        refine .inr (.inr ⟨HRP.out, ?_, rfl, 0, .inl ⟨hq0, rfl⟩, isP_zero⟩)
        rw [hq0]
        exact HRP.out.1.conc'.h_nn (by have := HRP.out.1.len; omega)
      clear hsm hq0
      go_wp2
      skip
      unfold Calm bodyPostM
      obtain ⟨p1, p2, _, p3⟩ := three_put (HX5.out.block 1 (b := w.heap.size + 1) rfl rfl) (HX5.out.block 2 (b := w.heap.size + 1 + 1) rfl rfl) ⟨#[48]⟩ ⟨#[49]⟩ 0
      have q0 := known_cell p1 0 rfl
      have q1 := known_cell p1 1 rfl
      have q2 := known_cell p2 0 rfl
      have hk := (p3 (fun i => i < w.heap.size) (by show ¬ _ < _; omega) (by show ¬ _ < _; omega)).below_of (B := w.heap.size) (fun _ h => h) HB5.out.size
      exact ⟨.tuple #[.agg #[.string ⟨#[48]⟩, .string ⟨#[49]⟩], .int .i64 0], by simp [results, Tryz.f32, go_sem, q0, q1, q2], ⟨#[48]⟩, ⟨#[49]⟩, 0, rfl, HA.out, HB5.out.trans hk⟩
    · have hs48 : ¬ s.toList = [48] := fun h => hq0 (num_none hsm.1 (by rw [ByteArray.toList_eq] at h; rw [← str_eq s, h]; rfl))
      have HSM := Lib.hid hsm
      have HPOS : Hid (0 < ratP s t) := by
        have := hsm.1.nn
        show _ < _
        grind
      clear hsm hq0
      have hlen := HRP.out.1.len
      rw [HN.out] at hlen
      obtain ⟨_, hc, hnc⟩ := HV.out.len
      obtain ⟨b, off, rfl, hb, hat⟩ := HV.out.at HN.out (by omega)
      obtain ⟨r, rfl⟩ : ∃ r, n = r + 1 := ⟨n - 1, by omega⟩
      have HAT : Hid (∀ W, Below w.heap.size w W → BCells b off (r + 1) bs W) := fun W hW k hk => hat W hW k hk
      have hr : 1 ≤ r ∧ r ≤ 63 := by omega
      clear hat hlen
      go_wp2_with fail
      refine (pairs_any _ _ _ _).mono ?_
      rintro e w' ⟨rfl, rfl⟩
      obtain ⟨G, hG⟩ : ∃ G, w5.heap.size = G := ⟨_, rfl⟩
      obtain ⟨w6, hw6⟩ : ∃ z, w5.alloc (.cells #[.slice (some ⟨b, off, none⟩) (r + 1) c] 34) = z := ⟨_, rfl⟩
      have hD6 : w6.heap.size = G + 1 := by rw [← hw6, World.size_alloc, hG]
      have hal6 : Below w5.heap.size w5 w6 := by rw [← hw6]; exact (Below.refl _ w5).alloc (Nat.le_refl _) _
      have HB6 : Hid (Below w.heap.size w w6) := HB5.out.trans (hal6.mono HB5.out.size)
      have HX6 := Lib.hid (HX5.out.below hal6 hl5)
      have hs6 : w6.cell? ⟨G, 0, none⟩ = some (.slice (some ⟨b, off, none⟩) (r + 1) c) := by rw [← hw6]; exact cell_new _ _ _ _ hG.symm
      have HC6 : Hid (BCells b off (r + 1) bs w6) := HAT.out _ HB6.out
      have hPG : w.heap.size + 3 ≤ G := by rw [← hG]; simpa using hl5
      rw [hG, hw6]
      clear hw6 hG hal6 c0 c1 f0 f1 c2 f2 d0 d1 z0 z1 hl5 HX5 HB5
      go_wp2
      refine (wpIn_wide (n := 9)).1 ?_
      refine range_wp2 (G + 1) hD6 (gf := 103) (lb := #[.pointer (some ⟨G, 0, none⟩)]) (f := fun k => #[bV (bAt bs k), bV (bAt bs (k + 1))]) (N := r)
        (S := fun x => x < G + 1 ∧ x ≠ w.heap.size + 1 ∧ x ≠ w.heap.size + 1 + 1) (T := fun _ => True)
        rfl (enters_of Tryz.func103 (by kernel_rfl) rfl) (fun _ => rfl) ?iter (fun _ h => h.1) ⟨trivial, trivial⟩
        (NdI bs (ratP s t) G w6) (fun c _ W => NdX bs s t w.heap.size w6 c W) ?ci ?cx ?start
        (BoxB bs (G + 3) ?a1) ?cb ?assign ?body ?done ?stop
      case iter =>
        have := pairs_iter G b off (r + 1) c (fun x => x < G + 1 ∧ x ≠ w.heap.size + 1 ∧ x ≠ w.heap.size + 1 + 1) bs (by omega) (by omega) hnc hc w6 ⟨by omega, by omega, by omega⟩ ⟨by omega, by omega, by omega⟩ hs6 HC6.out
        rwa [Nat.add_sub_cancel] at this
      case ci =>
        rintro k W1 W2 ⟨h1, h2⟩ hk
        exact ⟨h1, h2.trans (hk.mono fun x _ hx => ⟨trivial, by omega, by omega⟩)⟩
      case cx =>
        rintro cd k W1 W2 ⟨h1, x, y, m, h2, h3, h4, h5⟩ hk
        have kp : ∀ {g : Nat} {o : Obj}, g < G + 1 → W1.heap[g]? = some o → W2.heap[g]? = some o := fun hg h => (hk.block _ (Array.getElem?_eq_some_iff.1 h).1 ⟨trivial, by omega, by omega⟩).trans h
        exact ⟨h1, x, y, m, h2, kp (by omega) h3, kp (by omega) h4, h5.trans (hk.mono fun x _ hx => ⟨trivial, by omega, by omega⟩)⟩
      case start => exact ⟨fun j hj => by omega, Keeps.refl _ _⟩
      case cb =>
        rintro k a' W1 W2 ⟨A, h1, h2, h3, h4⟩ hk
        exact ⟨A, h1, h2, (hk.block _ (Array.getElem?_eq_some_iff.1 h3).1 ⟨by omega, by omega⟩).trans h3, (hk.block _ (Array.getElem?_eq_some_iff.1 h4).1 ⟨by omega, by omega⟩).trans h4⟩
      case assign =>
        intro l k W hk hW
        gi_wp2
        have h1 : ((W.alloc (bObj (bAt bs k))).alloc (bObj (bAt bs (k + 1)))).heap[W.heap.size]? = some (bObj (bAt bs k)) := (Below.heap_alloc _ _ _ (by simp)).trans (World.alloc_heap_new W _)
        have h2 : ((W.alloc (bObj (bAt bs k))).alloc (bObj (bAt bs (k + 1)))).heap[W.heap.size + 1]? = some (bObj (bAt bs (k + 1))) := by
          have := World.alloc_heap_new (W.alloc (bObj (bAt bs k))) (bObj (bAt bs (k + 1)))
          rwa [World.size_alloc] at this
        have hkk : Keeps (fun _ => True) W ((W.alloc (bObj (bAt bs k))).alloc (bObj (bAt bs (k + 1)))) := ((Keeps.refl _ W).alloc _).alloc _
        obtain ⟨V, hV⟩ : ∃ V, (W.alloc (bObj (bAt bs k))).alloc (bObj (bAt bs (k + 1))) = V := ⟨_, rfl⟩
        rw [hV] at h1 h2 hkk
        obtain ⟨A, hA⟩ : ∃ A, W.heap.size = A := ⟨_, rfl⟩
        rw [hA] at h1 h2
        simp only [hV, hA, World.size_alloc]
        refine ⟨hkk, A, by omega, ?_, h1, h2⟩
        clear hkk h1 h2 hV hA hW
        exact rfl
      case body =>
        have hfn : ∀ k, Fence.wide.fn k := fun _ => trivial
        rintro l k a' W hk ⟨HPi, HK⟩ ⟨A, hA, rfl, hA0, hA1⟩ hW
        have hC := HRP.out.1
        have C0 := (hC.isC (i := k) (by rw [HN.out]; omega)).1
        have H0 := (hC.isH (i := k) (by rw [HN.out]; omega)).1
        have C1 := (hC.isC (i := k + 1) (by rw [HN.out]; omega)).1
        have H1 := (hC.isH (i := k + 1) (by rw [HN.out]; omega)).1
        have HLO : Hid (hR bs k < ratP s t) := by
          show _ < _
          rcases Nat.eq_zero_or_pos k with h | h
          · subst h
            rw [hC.conc'.h0]
            exact HPOS.out
          · obtain ⟨j, rfl⟩ : ∃ j, k = j + 1 := ⟨k - 1, by omega⟩
            exact HPi j (by omega)
        obtain ⟨q0, hq0⟩ : ∃ q, bAt bs k = q := ⟨_, rfl⟩
        obtain ⟨q1, hq1⟩ : ∃ q, bAt bs (k + 1) = q := ⟨_, rfl⟩
        rw [hq0] at hA0 C0 H0
        rw [hq1] at hA1 C1 H1
        obtain ⟨⟨s0, t0⟩, u0, v0⟩ := q0
        obtain ⟨⟨s1, t1⟩, u1, v1⟩ := q1
        dsimp only at C0 H0 C1 H1
        dsimp only
        rw [hq0, hq1]
        have IC0 := Lib.hid C0
        have IH0 := Lib.hid H0
        have IC1 := Lib.hid C1
        have IH1 := Lib.hid H1
        have HA : Hid (W.heap[A]? = some (bO s0 t0 u0 v0) ∧ W.heap[A + 1]? = some (bO s1 t1 u1 v1)) := ⟨hA0, hA1⟩
        have HKh := Lib.hid HK
        have HPh := Lib.hid HPi
        have HBW : Hid (Below w.heap.size w W) := HB6.out.trans (HK.below_of (fun x hx => by omega) (by omega))
        have HXW : Hid (Boxes w.heap.size [pObj s t, pObj ⟨#[]⟩ ⟨#[]⟩, eO 0] W) := HX6.out.keeps HK (fun i hi => by simp at hi; omega)
        obtain ⟨g1, hg1⟩ : ∃ g, sgnR (ratP s t) (hR bs (k + 1)) = g := ⟨_, rfl⟩
        have HG1 := Lib.hid hg1
        have cs : W.cell? ⟨w.heap.size, 0, none⟩ = some (.string s) := HXW.out.cell 0 0 rfl rfl rfl
        have ct : W.cell? ⟨w.heap.size, 1, none⟩ = some (.string t) := HXW.out.cell 0 1 rfl rfl rfl
        have b2 : W.cell? ⟨A + 1, 2, none⟩ = some (.string u1) := known_cell HA.out.2 2 rfl
        have b3 : W.cell? ⟨A + 1, 3, none⟩ = some (.string v1) := known_cell HA.out.2 3 rfl
        clear HPi HK hA0 hA1 hq0 hq1 C0 H0 C1 H1 hC
        gi_wp2_with fail
        refine (CallsIn.inRound l (callsIn_wide.2 (cmp_to HSM.out.1 IH1.out HG1.out _))).mono ?_
        rintro e V ⟨rfl, hb'⟩
        have HV1 : Hid (Below W.heap.size W V) := hb'
        have HAV : Hid (V.heap[A]? = some (bO s0 t0 u0 v0) ∧ V.heap[A + 1]? = some (bO s1 t1 u1 v1)) := ⟨(hb'.block _ (Array.getElem?_eq_some_iff.1 HA.out.1).1).trans HA.out.1, (hb'.block _ (Array.getElem?_eq_some_iff.1 HA.out.2).1).trans HA.out.2⟩
        have HXV : Hid (Boxes w.heap.size [pObj s t, pObj ⟨#[]⟩ ⟨#[]⟩, eO 0] V) := HXW.out.keeps (hb'.keepsAll (fun _ => True)) (fun _ _ => trivial)
        have HBV : Hid (Below w.heap.size w V) := HBW.out.trans (hb'.mono HBW.out.size)
        clear hb' cs ct b2 b3
        by_cases hc1 : ratP s t ≤ hR bs (k + 1)
        · have hge : ¬ (0 : Int) < g1 := by rw [← hg1]; exact sgnR_le hc1
          have HHI := Lib.hid hc1
          obtain ⟨⟨x1, y1, j1⟩, ⟨x2, y2, j2⟩, ⟨x3, y3, j3⟩, ⟨x4, y4, j4⟩, ⟨x5, y5, j5⟩, ⟨x, y, j6⟩, j7, _⟩ := need_parts HRP.out.1 HSM.out.1.nn HSM.out.2 (by rw [HN.out]; omega) HLO.out hc1
          have HTR : Hid (Calls Tryz.prog 68 #[.func (.func 74) #[] #[.pointer (some ⟨A, 0, none⟩), .pointer (some ⟨A + 1, 0, none⟩), .pointer (some ⟨w.heap.size, 0, none⟩)]] V
              (PartPost (ExactG (cR bs k + (cR bs (k + 1) - cR bs k) / (hR bs (k + 1) - hR bs k) * (ratP s t - hR bs k))) V)) :=
            dtried_any (enters_of Tryz.func74 (by kernel_rfl) rfl) fun W2 hW2 => by
              have hx := HXV.out.below hW2 (by have := HXV.out.lt; simpa using this)
              have hbw := HBV.out.trans (hW2.mono HBV.out.size)
              exact need1_any A (A + 1) w.heap.size ((hW2.block _ (Array.getElem?_eq_some_iff.1 HAV.out.1).1).trans HAV.out.1) ((hW2.block _ (Array.getElem?_eq_some_iff.1 HAV.out.2).1).trans HAV.out.2) (hx.block 0 rfl rfl)
                IH0.out IH1.out IC0.out IC1.out HSM.out.1 j1 j2 j3 j7 j4 j5 j6 (HT.out.below hbw (Nat.le_refl _))
          have HAA : Hid (∀ x y, IsP (cR bs k + (cR bs (k + 1) - cR bs k) / (hR bs (k + 1) - hR bs k) * (ratP s t - hR bs k)) x y → NeedA bs s t x y 0) := fun x y h => by
            refine .inr (.inr ⟨HRP.out, ?_, rfl, _, .inr ⟨k, by rw [HN.out]; omega, HLO.out, hc1, rfl⟩, h⟩)
            have h9 := HRP.out.1.conc'.h_mono (i := k + 1) (r - (k + 1)) (by rw [HN.out]; omega)
            have e9 : k + 1 + (r - (k + 1)) = bs.length - 1 := by rw [HN.out]; omega
            rw [e9] at h9
            exact Rat.le_trans hc1 h9
          clear j1 j2 j3 j4 j5 j6 j7 hc1 hg1
          gi_wp2_with fail
          refine (CallsIn.inRound l (callsIn_wide.2 HTR.out)).mono ?_
          rintro e V2 ⟨x, y, m, rfl, ⟨rfl, hA9⟩, hb'⟩
          have HXV2 : Hid (Boxes w.heap.size [pObj s t, pObj ⟨#[]⟩ ⟨#[]⟩, eO 0] V2) := HXV.out.below hb' HXV.out.lt
          have HV2 : Hid (Below W.heap.size W V2) := HV1.out.trans (hb'.mono HV1.out.size)
          have HNA : Hid (NeedA bs s t x y 0) := HAA.out x y hA9
          clear hb' hA9 HTR HAA
          skip
          have c0 : V2.cell? ⟨w.heap.size + 1, 0, none⟩ = some (.string ⟨#[]⟩) := HXV2.out.cell 1 0 rfl rfl rfl
          have c1 : V2.cell? ⟨w.heap.size + 1, 1, none⟩ = some (.string ⟨#[]⟩) := HXV2.out.cell 1 1 rfl rfl rfl
          have f0 : V2.frozen? ⟨w.heap.size + 1, 0, none⟩ = false := HXV2.out.free 1 0 rfl rfl
          have f1 : V2.frozen? ⟨w.heap.size + 1, 1, none⟩ = false := HXV2.out.free 1 1 rfl rfl
          have c2 : V2.cell? ⟨w.heap.size + 1 + 1, 0, none⟩ = some (.int .i64 0) := HXV2.out.cell 2 0 rfl rfl rfl
          have f2 : V2.frozen? ⟨w.heap.size + 1 + 1, 0, none⟩ = false := HXV2.out.free 2 0 rfl rfl
          gi_wp2
          obtain ⟨p1, p2, _, p3⟩ := three_put (HXV2.out.block 1 (b := w.heap.size + 1) rfl rfl) (HXV2.out.block 2 (b := w.heap.size + 1 + 1) rfl rfl) x y 0
          refine ⟨(HV2.out.keepsAll _).trans (p3 _ (fun h => by rcases h with ⟨_, h1, h2⟩ | h | h <;> omega) (fun h => by rcases h with ⟨_, h1, h2⟩ | h | h <;> omega)), rfl, x, y, 0, HNA.out, p1, p2,
            (HKh.out.mono fun x _ hx => by omega).trans ((HV2.out.keepsAll _).trans (p3 _ (by omega) (by omega)))⟩
        · have hge : (0 : Int) < g1 := by rw [← hg1]; exact sgnR_gt hc1
          have HPA : Hid (∀ j, j < k + 1 → hR bs (j + 1) < ratP s t) := fun j hj => by
            rcases Nat.lt_or_ge j k with h | h
            · exact HPh.out j h
            · obtain rfl : j = k := by omega
              grind
          clear hg1 hc1
          gi_wp2
          exact ⟨HV1.out.keepsAll _, HPA.out, HKh.out.trans (HV1.out.keepsAll _)⟩
      case done =>
        rintro W ⟨HPi, HK⟩ hdef
        have HXW : Hid (Boxes w.heap.size [pObj s t, pObj ⟨#[]⟩ ⟨#[]⟩, eO 0] W) := HX6.out.keeps HK (fun i hi => by simp at hi; omega)
        have HNA : Hid (NeedA bs s t ⟨#[]⟩ ⟨#[]⟩ 7) := by
          refine .inr (.inl ⟨HRP.out, ?_, rfl, rfl, rfl⟩)
          have h9 := HPi (r - 1) (by omega)
          have e9 : r - 1 + 1 = bs.length - 1 := by rw [HN.out]; omega
          rwa [e9] at h9
        have HKh := Lib.hid HK
        clear HK HPi
        skip
        have c0 : W.cell? ⟨w.heap.size + 1, 0, none⟩ = some (.string ⟨#[]⟩) := HXW.out.cell 1 0 rfl rfl rfl
        have c1 : W.cell? ⟨w.heap.size + 1, 1, none⟩ = some (.string ⟨#[]⟩) := HXW.out.cell 1 1 rfl rfl rfl
        have f0 : W.frozen? ⟨w.heap.size + 1, 0, none⟩ = false := HXW.out.free 1 0 rfl rfl
        have f1 : W.frozen? ⟨w.heap.size + 1, 1, none⟩ = false := HXW.out.free 1 1 rfl rfl
        have c2 : W.cell? ⟨w.heap.size + 1 + 1, 0, none⟩ = some (.int .i64 0) := HXW.out.cell 2 0 rfl rfl rfl
        have f2 : W.frozen? ⟨w.heap.size + 1 + 1, 0, none⟩ = false := HXW.out.free 2 0 rfl rfl
        go_wp2
        obtain ⟨p1, p2, p4, p3⟩ := three_put (HXW.out.block 1 (b := w.heap.size + 1) rfl rfl) (HXW.out.block 2 (b := w.heap.size + 1 + 1) rfl rfl) ⟨#[]⟩ ⟨#[]⟩ 7
        have hd := (p4 (G + 1) (by omega) (by omega)).trans hdef
        unfold Calm bodyPostM
        refine ⟨by simp, .inl ⟨_, _, rfl, run_takeDeferred hd, ?_⟩⟩
        have k4 : ∀ {Y : World} {g : Nat} {o : Obj}, g ≠ G + 1 → Y.heap[g]? = some o → (Y.putObj (G + 1) (.deferred none)).heap[g]? = some o := fun hg h => (World.putObj_heap_other hg).trans h
        have g1 := k4 (by omega) p1
        have g2 := k4 (by omega) p2
        have q0 := known_cell g1 0 rfl
        have q1 := known_cell g1 1 rfl
        have q2 := known_cell g2 0 rfl
        refine ⟨.tuple #[.agg #[.string ⟨#[]⟩, .string ⟨#[]⟩], .int .i64 7], by simp [results, Tryz.f32, go_sem, q0, q1, q2], ⟨#[]⟩, ⟨#[]⟩, 7, rfl, HNA.out, ?_⟩
        exact HB6.out.trans ((((HKh.out.mono (S' := fun x => x < w.heap.size) fun x _ hx => by omega).trans (p3 _ (by omega) (by omega))).putObj (r := G + 1) (by show ¬ G + 1 < w.heap.size; omega) (.deferred none)).below_of (fun _ h => h) (by omega))
      case stop =>
        rintro cd k W hk ⟨rfl, x, y, m, HA, h1, h2, HK⟩ hdef
        have HKh := Lib.hid HK
        have k4 : ∀ {Y : World} {g : Nat} {o : Obj}, g ≠ G + 1 → Y.heap[g]? = some o → (Y.putObj (G + 1) (.deferred none)).heap[g]? = some o := fun hg h => (World.putObj_heap_other hg).trans h
        have g1 := k4 (by omega) h1
        have g2 := k4 (by omega) h2
        clear HK
        gi_wp2
        unfold Calm bodyPostM
        refine ⟨by simp, .inl ⟨_, _, rfl, run_takeDeferred hdef, ?_⟩⟩
        have q0 := known_cell g1 0 rfl
        have q1 := known_cell g1 1 rfl
        have q2 := known_cell g2 0 rfl
        refine ⟨.tuple #[.agg #[.string x, .string y], .int .i64 m], by simp [results, Tryz.f32, go_sem, q0, q1, q2], x, y, m, rfl, HA, ?_⟩
        exact HB6.out.trans ((HKh.out.putObj (r := G + 1) (by show ¬ G + 1 < w.heap.size; omega) (.deferred none)).below_of (fun _ h => h) (by omega))
  · have HA : Hid (NeedA bs s t ⟨#[]⟩ ⟨#[]⟩ 2) := .inl ⟨fun h => hr (rightP_one.2 h), rfl, rfl, rfl⟩
    clear hr HV HT hl5
    go_wp2
    skip
    unfold Calm bodyPostM
    obtain ⟨p1, p2, _, p3⟩ := three_put (HX5.out.block 1 (b := w.heap.size + 1) rfl rfl) (HX5.out.block 2 (b := w.heap.size + 1 + 1) rfl rfl) ⟨#[]⟩ ⟨#[]⟩ 2
    have q0 := known_cell p1 0 rfl
    have q1 := known_cell p1 1 rfl
    have q2 := known_cell p2 0 rfl
    have hk := (p3 (fun i => i < w.heap.size) (by show ¬ _ < _; omega) (by show ¬ _ < _; omega)).below_of (B := w.heap.size) (fun _ h => h) HB5.out.size
    exact ⟨.tuple #[.agg #[.string ⟨#[]⟩, .string ⟨#[]⟩], .int .i64 2], by simp [results, Tryz.f32, go_sem, q0, q1, q2], ⟨#[]⟩, ⟨#[]⟩, 2, rfl, HA.out, HB5.out.trans hk⟩
end Go.Proofs.YtcncdepjbhnknaaGreatDoor
/- Slices of bends of a call's own. -/
namespace Go.Proofs.YtcncdepjbhnknaaGreatDoor
open Go.RowKit Go.Shelf

theorem info_bend : (Tryz.prog.info? 56).map (fun i => (i.zero, i.size, i.bytes)) = some (some (.agg #[.string ⟨#[]⟩, .string ⟨#[]⟩, .string ⟨#[]⟩, .string ⟨#[]⟩]), 4, 64) := by kernel_rfl
/-- The cells of bends. -/
def bcells : List BB → List Value
  | [] => []
  | b :: l => .string b.1.1 :: .string b.1.2 :: .string b.2.1 :: .string b.2.2 :: bcells l
theorem bcells_append (a b : List BB) : bcells (a ++ b) = bcells a ++ bcells b := by
  induction a with
  | nil => rfl
  | cons s a ih => simp [bcells, ih]
theorem bcells_length (a : List BB) : (bcells a).length = a.length * 4 := by
  induction a with
  | nil => rfl
  | cons s a ih => simp [bcells, ih]; omega
theorem bcells_at : ∀ (l : List BB) (j : Nat), j < l.length → (bcells l)[j * 4]? = some (.string (bAt l j).1.1) ∧ (bcells l)[j * 4 + 1]? = some (.string (bAt l j).1.2) ∧ (bcells l)[j * 4 + 2]? = some (.string (bAt l j).2.1) ∧
    (bcells l)[j * 4 + 3]? = some (.string (bAt l j).2.2)
  | s :: l, 0, _ => ⟨rfl, rfl, rfl, rfl⟩
  | s :: l, j + 1, h => by
    have ih := bcells_at l j (by simpa using h)
    have e : bAt (s :: l) (j + 1) = bAt l j := by simp [bAt]
    rw [e]
    have e0 : (j + 1) * 4 = j * 4 + 1 + 1 + 1 + 1 := by omega
    simp only [bcells, e0]
    exact ih
/-- The slice value v owns just these bends. -/
def OwnB (w : World) (base : Nat) (v : Value) (l : List BB) : Prop := w.ownsRow base 56 4 v l.length (bcells l)
theorem OwnB.nil (w : World) (base : Nat) : OwnB w base (.slice none 0 0) [] := World.ownsRow_nil w base _ 4
theorem OwnB.bl {w : World} {base : Nat} {v : Value} {l : List BB} (h : OwnB w base v l) : BL w v l := by
  have h0 := h
  rcases h.2 with ⟨rfl, h1⟩ | ⟨g, cap, cur, rfl, hb, hg, hle, hcap, hr⟩
  · obtain rfl : l = [] := List.eq_nil_of_length_eq_zero h1
    exact BL.nil w
  · refine ⟨_, cap, rfl, hle, hcap, fun _ => ⟨g, 0, rfl, (Array.getElem?_eq_some_iff.1 hg).1, fun j hj => ?_⟩⟩
    have h2 := bcells_at l j hj
    rw [bAt_get hj] at h2
    have e1 := World.ownsRow.cellAt h0 (j * 4) (by omega)
    have e2 := World.ownsRow.cellAt h0 (j * 4 + 1) (by omega)
    have e3 := World.ownsRow.cellAt h0 (j * 4 + 2) (by omega)
    have e4 := World.ownsRow.cellAt h0 (j * 4 + 3) (by omega)
    rw [Nat.zero_add, e1, e2, e3, e4]
    exact h2
theorem OwnB.after {w w' : World} {base : Nat} {v : Value} {l : List BB} (h : OwnB w base v l) (hb : Below w.heap.size w w') : OwnB w' base v l := by
  obtain ⟨h1, h2⟩ := h
  refine ⟨h1, ?_⟩
  rcases h2 with h2 | ⟨g, cap, cur, rfl, hbb, hg, hr⟩
  · exact .inl h2
  · exact .inr ⟨g, cap, cur, rfl, hbb, by rw [hb.block g (Array.getElem?_eq_some_iff.1 hg).1]; exact hg, hr⟩
end Go.Proofs.YtcncdepjbhnknaaGreatDoor
/- detect's Halving. -/
namespace Go.Proofs.YtcncdepjbhnknaaGreatDoor
open Go.RowKit Go.Shelf
attribute [local go_sem ↓] Go.wp_at_zero Go.wp_at_succ

theorem itoa_to (k : Nat) (hk : k ≤ 9223372036854775807) (w : World) (hT : Tabs w) : Calls Tryz.prog 50 #[.int .i64 (k : Nat)] w (ValPost (.string (str (Lib.decDigits k))) w) := by
  refine (Tryz.strconv_Itoa (k : Nat) (by omega) (by omega) w hT).mono ?_
  rintro e w' ⟨rfl, n, os, rfl⟩
  refine ⟨?_, Lib.below_grow _ _ (Nat.le_refl _) _ _⟩
  rw [Lib.itoa_nonneg]
  rfl
/-- What Halving answers. -/
def HalvPost (n : Int) (w : World) (e : Ending) (w' : World) : Prop :=
  ((¬ (1 ≤ n ∧ n ≤ 40) ∧ e = .returned (.tuple #[.slice none 0 0, .int .i64 2])) ∨ ((1 ≤ n ∧ n ≤ 40) ∧ ∃ v, e = .returned (.tuple #[v, .int .i64 0]) ∧ OwnB w' w.heap.size v (halvL n.toNat))) ∧ Below w.heap.size w w'
theorem wrap_pow {k : Nat} (hk : k ≤ 40) : IntKind.i64.wrap (2 ^ k : Int) = ((2 ^ k : Nat) : Int) := by
  have h : 2 ^ k ≤ 2 ^ 40 := Nat.pow_le_pow_right (by decide) hk
  have e : (2 : Int) ^ k = ((2 ^ k : Nat) : Int) := by rw [Int.natCast_pow]; rfl
  rw [e]
  obtain ⟨m, hm⟩ : ∃ m, 2 ^ k = m := ⟨_, rfl⟩
  rw [hm] at h ⊢
  exact IntWalk.i64_in _ (by omega)
theorem wrap_pow1 {k : Nat} (hk : k ≤ 40) : IntKind.i64.wrap ((2 ^ k : Int) - 1) = ((2 ^ k - 1 : Nat) : Int) := by
  have h : 2 ^ k ≤ 2 ^ 40 := Nat.pow_le_pow_right (by decide) hk
  have h0 : 0 < 2 ^ k := Nat.two_pow_pos k
  have e : (2 : Int) ^ k = ((2 ^ k : Nat) : Int) := by rw [Int.natCast_pow]; rfl
  rw [e]
  obtain ⟨m, hm⟩ : ∃ m, 2 ^ k = m := ⟨_, rfl⟩
  rw [hm] at h h0 ⊢
  rw [IntWalk.i64_in _ (by omega)]
  omega
theorem halv_le {k : Nat} (hk : k ≤ 40) : 2 ^ k ≤ 9223372036854775807 := Nat.le_trans (Nat.pow_le_pow_right (by decide) hk) (by decide)
/-- The cells of one bend. -/
theorem OwnB.snoc {w : World} {base : Nat} {v : Value} {l : List BB} {s t x y : ByteArray} (h : w.ownsRow base 56 4 v (l.length + 1) (bcells l ++ [.string s, .string t, .string x, .string y])) : OwnB w base v (l ++ [((s, t), (x, y))]) := by
  unfold OwnB
  rw [List.length_append, bcells_append]
  exact h
set_option maxRecDepth 100000 in
set_option maxHeartbeats 4000000 in
theorem halving_any (n : Int) (w : World) (hD : DetV w) (hT : Tabs w) : Calls Tryz.prog 20 #[.int .i64 n] w (HalvPost n w) := by
  have HD := Lib.hid hD
  have HT := Lib.hid hT
  clear hD hT
  by_cases hn : 1 ≤ n ∧ n ≤ 40
  · obtain ⟨n, rfl⟩ : ∃ m : Nat, n = m := ⟨n.toNat, by omega⟩
    have hn1 : 1 ≤ n ∧ n ≤ 40 := by omega
    have HNN : Hid ((1 : Int) ≤ (n : Int) ∧ (n : Int) ≤ 40) := hn
    have hb : (decide ((1 : Int) ≤ (n : Int)) && decide ((n : Int) ≤ 40)) = true := by simp; omega
    have HBT := Lib.hid hb
    clear hn hb
    obtain ⟨i0, hi, hz0, hz1, hz2⟩ := info_parts info_bend
    go_enter Tryz.func20, Tryz.ntmps20
    go_wp2_with fail
    refine (within_any _ 1 40 _).mono ?_
    rintro e w2 ⟨rfl, hb⟩
    rw [HBT.out]
    have HB2 := Lib.hid hb
    have z0 := (HD.out.below hb (Nat.le_refl _)).z0
    have z1 := (HD.out.below hb (Nat.le_refl _)).z1
    clear hb
    go_wp2
    obtain ⟨g, hg⟩ : ∃ g, w2.heap.size = g := ⟨_, rfl⟩
    obtain ⟨w3, hw3⟩ : ∃ z, w2.alloc (bO ⟨#[48]⟩ ⟨#[49]⟩ ⟨#[48]⟩ ⟨#[49]⟩) = z := ⟨_, rfl⟩
    have HB3 : Hid (Below w.heap.size w w3) := by rw [← hw3]; exact HB2.out.alloc HB2.out.size _
    have HO3 : Hid (OwnB w3 w.heap.size (.slice (some ⟨g, 0, none⟩) 1 1) (halvL 0)) := by
      rw [← hw3, ← hg]
      have h := World.ownsRow_lit w2 (base := w.heap.size) #[.string ⟨#[48]⟩, .string ⟨#[49]⟩, .string ⟨#[48]⟩, .string ⟨#[49]⟩] 1 HB2.out.size (by simp [maxLen]) (e := 56) (size := 4) rfl
      have e : halvL 0 = [zeroB] := by
        unfold halvL
        rw [← halvB_zero]
        rfl
      rw [e]
      exact h
    rw [hg, hw3]
    clear hw3 hg z0 z1 HB2
    go_loopw [4, 5] (fun vo i wr => ∃ (k : Nat), i = .int .i64 ((k + 1 : Nat) : Int) ∧ k ≤ n ∧ Hid (OwnB wr w.heap.size vo (halvL k)) ∧ Hid (Below w.heap.size w wr)) (fun _ i _ => n + 1 - (intOf i).toNat)
    case atStart => exact ⟨0, rfl, Nat.zero_le _, HO3, HB3⟩
    case round =>
      obtain ⟨k, rfl, hk, HO, HB⟩ := hrel
      by_cases hlt : k < n
      · have h1 : ((k + 1 : Nat) : Int) ≤ (n : Int) := by omega
        have hk40 : k + 1 ≤ 40 := by omega
        go_wp2_with fail
        refine tsteps_plain [(true, 0), (true, 1), (true, 2), (true, 4), (true, 5), (false, 3), (false, 6), (false, 7), (false, 8)] (fun _ => True) (fun _ => false)
          (by kernel_rfl) (by kernel_rfl) (by kernel_rfl) (fun _ _ => rfl) (fun _ _ o _ _ h => by cases o <;> exact h) trivial ?_
        refine steps_read _ rfl rfl (fun w' hS => by go_simp; rfl) ?_
        simp only [List.getElem_toArray, List.getElem_cons_succ, List.getElem_cons_zero, Act.put, List.setIfInBounds_toArray, List.set_cons_zero, List.set_cons_succ]
        refine steps_read (.int .i64 ((2 ^ (k + 1) : Nat) : Int)) rfl rfl (fun w' hS => by go_simp; exact (wrap_pow hk40).trans (by rw [Int.natCast_pow]; rfl)) ?_
        simp only [List.getElem_toArray, List.getElem_cons_succ, List.getElem_cons_zero, Act.put, List.setIfInBounds_toArray, List.set_cons_zero, List.set_cons_succ]
        refine steps_read (.int .i64 ((2 ^ (k + 1) - 1 : Nat) : Int)) rfl rfl (fun w' hS => by go_simp; exact wrap_pow1 hk40) ?_
        simp only [List.getElem_toArray, List.getElem_cons_succ, List.getElem_cons_zero, Act.put, List.setIfInBounds_toArray, List.set_cons_zero, List.set_cons_succ]
        refine steps_read _ rfl rfl (fun w' hS => by go_simp; rfl) ?_
        simp only [List.getElem_toArray, List.getElem_cons_succ, List.getElem_cons_zero, Act.put, List.setIfInBounds_toArray, List.set_cons_zero, List.set_cons_succ]
        refine steps_read (.int .i64 ((2 ^ (k + 1) : Nat) : Int)) rfl rfl (fun w' hS => by go_simp; exact (wrap_pow hk40).trans (by rw [Int.natCast_pow]; rfl)) ?_
        simp only [List.getElem_toArray, List.getElem_cons_succ, List.getElem_cons_zero, Act.put, List.setIfInBounds_toArray, List.set_cons_zero, List.set_cons_succ]
        have I1 := Lib.hid (fun W => itoa_to (2 ^ (k + 1) - 1) (Nat.le_trans (Nat.sub_le _ _) (halv_le hk40)) W)
        have I2 := Lib.hid (fun W => itoa_to (2 ^ (k + 1)) (halv_le hk40) W)
        have I3 := Lib.hid (fun W => itoa_to (k + 1) (by omega) W)
        obtain ⟨x, hx⟩ : ∃ x, str (Lib.decDigits (2 ^ (k + 1) - 1)) = x := ⟨_, rfl⟩
        obtain ⟨y, hy⟩ : ∃ x, str (Lib.decDigits (2 ^ (k + 1))) = x := ⟨_, rfl⟩
        obtain ⟨s, hs⟩ : ∃ x, str (Lib.decDigits (k + 1)) = x := ⟨_, rfl⟩
        have HXY : Hid (halvB (k + 1) = ((s, ⟨#[49]⟩), (x, y))) := by rw [← hx, ← hy, ← hs]; exact rfl
        obtain ⟨n1, hn1'⟩ : ∃ z, 2 ^ (k + 1) - 1 = z := ⟨_, rfl⟩
        obtain ⟨n2, hn2'⟩ : ∃ z, 2 ^ (k + 1) = z := ⟨_, rfl⟩
        rw [hx, hn1'] at I1
        rw [hy, hn2'] at I2
        rw [hs] at I3
        rw [hn1', hn2']
        clear hx hy hs hn1' hn2'
        refine steps_write rfl rfl fun K hK => ?_
        go_simp
        go_at_call 50
        refine (I1.out _ (HT.out.below HB.out.drew (Nat.le_refl _))).mono ?_
        rintro e w4 ⟨rfl, hb⟩
        have HB4 : Hid (Below w.heap.size w w4) := HB.out.drew.trans (hb.mono HB.out.size)
        have HO4 : Hid (OwnB w4 w.heap.size u4 (halvL k)) := HO.out.after (((Below.refl _ wr).drew).trans hb)
        refine hK _ _ (.inr trivial) ?_
        clear hK K hb
        refine steps_write rfl rfl fun K hK => ?_
        go_simp
        go_at_call 50
        refine (I2.out _ (HT.out.below HB4.out (Nat.le_refl _))).mono ?_
        rintro e w5 ⟨rfl, hb⟩
        have HB5 : Hid (Below w.heap.size w w5) := HB4.out.trans (hb.mono HB4.out.size)
        have HO5 : Hid (OwnB w5 w.heap.size u4 (halvL k)) := HO4.out.after hb
        refine hK _ _ (.inr trivial) ?_
        clear hK K hb HB4 HO4
        refine steps_write rfl rfl fun K hK => ?_
        go_simp
        refine hK _ _ (.inr trivial) ?_
        clear hK K
        refine steps_write rfl rfl fun K hK => ?_
        go_simp
        refine hK _ _ (.inr trivial) ?_
        clear hK K
        refine steps_end ?_
        obtain ⟨po, no, co, rfl⟩ : ∃ p n c, u4 = .slice p n c := by
          rcases HO.out.2 with ⟨h, _⟩ | ⟨g, cap, cur, h, _⟩
          · exact ⟨_, _, _, h⟩
          · exact ⟨_, _, _, h⟩
        go_wp2_with fail
        refine (I3.out _ (HT.out.below HB5.out (Nat.le_refl _))).mono ?_
        rintro e w6 ⟨rfl, hb⟩
        have HB6 : Hid (Below w.heap.size w w6) := HB5.out.trans (hb.mono HB5.out.size)
        have HO6 : Hid (OwnB w6 w.heap.size (.slice po no co) (halvL k)) := HO5.out.after hb
        clear hb HB5 HO5
        have hlen : (halvL k).length = k + 1 := halvL_len k
        have hownA : (w6.alloc (bO s ⟨#[49]⟩ x y)).ownsRow w.heap.size 56 4 (.slice po no co) (halvL k).length (bcells (halvL k)) := HO6.out.alloc _
        have hm1 : (halvL k).length + 1 ≤ maxLen := by rw [hlen]; unfold maxLen; omega
        have hm2 : ((halvL k).length + 1) * 64 ≤ 140737488355328 := by rw [hlen]; omega
        have hm3 : w.heap.size ≤ (w6.alloc (bO s ⟨#[49]⟩ x y)).heap.size := by have := HB6.out.size; simp; omega
        have hnews : ∀ (j : Nat) (z : Value), ([.string s, .string ⟨#[49]⟩, .string x, .string y] : List Value)[j]? = some z → (w6.alloc (bO s ⟨#[49]⟩ x y)).cell? ((⟨w6.heap.size, 0, none⟩ : Addr).add j) = some z := World.news_of_block (World.alloc_heap_new w6 _)
        go_wp2_with (at_builtin; go_loud (refine wpList_append_own _ rfl (.tmp 27) (.tmp 35) 34 rfl w.heap.size 56 i0 (.agg #[.string ⟨#[]⟩, .string ⟨#[]⟩, .string ⟨#[]⟩, .string ⟨#[]⟩]) 4 64 Tryz.underlying34 hi hz0 hz1 hz2 rfl (by decide) _ (halvL k).length (bcells (halvL k)) rfl hownA ⟨w6.heap.size, 0, none⟩ 1 1 [.string s, .string ⟨#[49]⟩, .string x, .string y] rfl rfl hnews (by simp [Value.oneCell']) hm1 hm2 hm3 ?_); intro v' w7 hown7 hgrow7 _)
        have HB7 : Hid (Below w.heap.size w w7) := (HB6.out.alloc HB6.out.size _).grown hgrow7 hm3 (fun z hz => (World.ownsRow.lt hownA z hz).1)
        have HO7 : Hid (OwnB w7 w.heap.size v' (halvL (k + 1))) := by
          rw [halvL_snoc, HXY.out]
          exact OwnB.snoc hown7
        clear hown7 hgrow7 hownA hnews hm1 hm2 hm3 hlen
        go_roundw
        case rel => exact ⟨k + 1, by go_num, by omega, HO7, HB7⟩
        case measure => simp [intOf]; omega
      · obtain rfl : k = n := by omega
        have h1 : ¬ ((k + 1 : Nat) : Int) ≤ (k : Int) := by omega
        go_wp2
        exact bodyPost_ret (v := .tuple #[u4, .int .i64 0]) (by simp [results, Tryz.f20, go_sem]) rfl ⟨.inr ⟨HNN.out, u4, rfl, by rw [Int.toNat_natCast]; exact HO.out⟩, HB.out⟩
  · have HNN := Lib.hid hn
    have hb : (decide ((1 : Int) ≤ n) && decide (n ≤ 40)) = false := by rw [Bool.and_eq_false_iff, decide_eq_false_iff_not, decide_eq_false_iff_not]; omega
    have HBT := Lib.hid hb
    clear hn hb
    go_enter Tryz.func20, Tryz.ntmps20
    go_wp2_with fail
    refine (within_any _ 1 40 _).mono ?_
    rintro e w2 ⟨rfl, hb⟩
    rw [HBT.out]
    have HB2 := Lib.hid hb
    clear hb
    go_wp2
    exact bodyPost_ret (v := .tuple #[.slice none 0 0, .int .i64 2]) (by simp [results, Tryz.f20, go_sem]) rfl ⟨.inl ⟨HNN.out, rfl⟩, HB2.out⟩
end Go.Proofs.YtcncdepjbhnknaaGreatDoor
/- The chapter's first examples, in plain words: the curve of Halving(2), the table of two sights. -/
namespace Go.Proofs.YtcncdepjbhnknaaGreatDoor
open Go.RowKit Go.Shelf

theorem halv2_c : cR (halvL 2) 0 = 0 ∧ cR (halvL 2) 1 = 1 ∧ cR (halvL 2) 2 = 2 := by decide +kernel
theorem halv2_h : hR (halvL 2) 0 = 0 ∧ hR (halvL 2) 1 = mkRat 1 2 ∧ hR (halvL 2) 2 = mkRat 3 4 := by decide +kernel
theorem halv2_chance : ChanceR 3 (cR (halvL 2)) (hR (halvL 2)) (mkRat 3 2) (mkRat 5 8) := by
  refine ⟨1, ⟨by decide, fun j hj => ?_, fun _ => by decide +kernel⟩, by decide +kernel⟩
  obtain rfl : j = 0 := by omega
  decide +kernel
theorem halv2_need : NeedR 3 (cR (halvL 2)) (hR (halvL 2)) (mkRat 5 8) (mkRat 3 2) := .inr ⟨1, by decide, by decide +kernel, by decide +kernel, by decide +kernel⟩
theorem isP_32 : IsP (mkRat 3 2) ⟨#[51]⟩ ⟨#[50]⟩ := isP_dec (by decide +kernel)
theorem isP_58 : IsP (mkRat 5 8) ⟨#[53]⟩ ⟨#[56]⟩ := isP_dec (by decide +kernel)
/-- What Chance answers at 3/2. -/
theorem alive_chance {x y : ByteArray} {n : Int} (h : ChanceA (halvL 2) ⟨#[51]⟩ ⟨#[50]⟩ x y n) : x = ⟨#[53]⟩ ∧ y = ⟨#[56]⟩ ∧ n = 0 := by
  rcases h with ⟨h, _⟩ | ⟨_, h0, r, h1, h2⟩
  · exact absurd ⟨halv2_curve, by decide +kernel⟩ h
  · have e : ratP ⟨#[51]⟩ ⟨#[50]⟩ = mkRat 3 2 := isP_32.rat
    rw [e, halvL_len] at h1
    obtain ⟨e1, e2⟩ := isP_one' h2 isP_58 (h1.unique halv2_chance)
    exact ⟨e1, e2, h0⟩
theorem alive_need {x y : ByteArray} {n : Int} (h : NeedA (halvL 2) ⟨#[53]⟩ ⟨#[56]⟩ x y n) : x = ⟨#[51]⟩ ∧ y = ⟨#[50]⟩ ∧ n = 0 := by
  have e : ratP ⟨#[53]⟩ ⟨#[56]⟩ = mkRat 5 8 := isP_58.rat
  rcases h with ⟨h, _⟩ | ⟨_, h1, _⟩ | ⟨h, _, h0, r, h1, h2⟩
  · exact absurd ⟨halv2_curve, by decide +kernel⟩ h
  · rw [e, halvL_len] at h1
    exact absurd h1 (by decide +kernel)
  · rw [e, halvL_len] at h1
    have hc := halv2_curve.conc'
    rw [halvL_len] at hc
    obtain ⟨e1, e2⟩ := isP_one' h2 isP_32 (h1.unique hc halv2_need)
    exact ⟨e1, e2, h0⟩
/-- The two sights. -/
abbrev twoS : List Sg := [⟨1, 2, 0, 3, 800⟩, ⟨1, 2, 0, 5, 500⟩]
theorem twoS_table : TableP twoS := by
  refine ⟨by decide, fun i hi => ?_⟩
  have hi2 : i < 2 := hi
  rcases (by omega : i = 0 ∨ i = 1) with rfl | rfl
  · exact ⟨⟨by decide, by decide, by decide, by decide, by decide⟩, fun k hk => by omega⟩
  · refine ⟨⟨by decide, by decide, by decide, by decide, by decide⟩, fun k hk => ?_⟩
    obtain rfl : k = 0 := by omega
    rintro ⟨_, h⟩
    revert h
    decide
theorem alive_width {a e : Int} (h : WidthA twoS 1 2 0 4 a e) : a = 500 ∧ e = 0 := by
  rcases h with ⟨h, _⟩ | ⟨_, h, _⟩ | ⟨_, i, hi, hf, _, rfl, h0⟩
  · exact absurd twoS_table h
  · exact absurd ⟨rfl, rfl, rfl, by decide⟩ (h 1 (by decide))
  · have hi2 : i < 2 := hi
    rcases (by omega : i = 0 ∨ i = 1) with rfl | rfl
    · exact absurd hf.2.2.2 (by decide)
    · exact ⟨rfl, h0⟩
end Go.Proofs.YtcncdepjbhnknaaGreatDoor
/- The law package's of. -/
namespace Go.Proofs.YtcncdepjbhnknaaGreatDoor
open Go.RowKit Go.Shelf

/-- A call that answers the fraction q. -/
def QPost (q : Rat) (w : World) (e : Ending) (w' : World) : Prop := ∃ x y, e = .returned (.agg #[.string x, .string y]) ∧ IsP q x y ∧ Below w.heap.size w w'

set_option maxRecDepth 100000 in
set_option maxHeartbeats 4000000 in
theorem lawOf (a b : Nat) (hb : 0 < b) (ha1 : a < 1000) (hb1 : b < 1000) (w : World) (hT : Tabs w) :
    Calls Tryz.prog 30 #[.int .i64 a, .int .i64 b] w (QPost (mkRat (a : Nat) b) w) := by
  have HT := Lib.hid hT
  have HF : Hid (Fits (mkRat (a : Nat) b)) := fits_mkRat (k := 3) hb (by omega) (by omega) (by omega) (by omega)
  have HA : Hid (0 < b ∧ a < 1000 ∧ b < 1000) := ⟨hb, ha1, hb1⟩
  clear hT hb ha1 hb1
  go_enter Tryz.func30, Tryz.ntmps30
  go_wp2_with fail
  obtain ⟨w1, hw1⟩ : ∃ w1, w.alloc (.cells #[.string ⟨#[]⟩, .string ⟨#[]⟩] 46) = w1 := ⟨_, rfl⟩
  rw [hw1]
  have HX1 : Hid (Boxes w.heap.size [.cells #[.string ⟨#[]⟩, .string ⟨#[]⟩] 46] w1) := by rw [← hw1]; exact Boxes.one w _
  have HB1 : Hid (Below w.heap.size w w1) := by rw [← hw1]; exact (Below.refl _ w).alloc (Nat.le_refl _) _
  clear hw1
  refine (ratio_any a b (by omega) (by have := HA.out; omega) (by omega) (by have := HA.out; omega) _ (HT.out.below HB1.out (Nat.le_refl _))).mono ?_
  rintro e w2 ⟨x, y, n, rfl, hR, hb2⟩
  have HQ : Hid (IsP (mkRat (a : Nat) b) x y) := by
    have h3 := HA.out
    rcases hR with ⟨h, _⟩ | ⟨_, h, _⟩ | ⟨_, _, h⟩
    · omega
    · omega
    · exact (h.fit HF.out).1
  have HX2 := Lib.hid (HX1.out.below hb2 HX1.out.lt)
  have HB2 := Lib.hid (HB1.out.trans (hb2.mono HB1.out.size))
  clear hb2 hR
  have HX3 := Lib.hid (HX2.out.alloc (.cells #[.string x, .string y] 46))
  have HB3 := Lib.hid (HB2.out.alloc HB2.out.size (.cells #[.string x, .string y] 46))
  have r0 := HX3.out.cell 0 0 (b := w.heap.size) rfl rfl rfl
  have r1 := HX3.out.cell 0 1 (b := w.heap.size) rfl rfl rfl
  have f0 := HX3.out.free 0 0 (b := w.heap.size) rfl rfl
  have f1 := HX3.out.free 0 1 (b := w.heap.size) rfl rfl
  go_wp2
  have q := two_put_cells (HX3.out.block 0 (b := w.heap.size) rfl rfl) (.string x) (.string y)
  have HBQ := Lib.hid (two_put_below HB3.out (b := w.heap.size) (Nat.le_refl _) (.string x) (.string y))
  obtain ⟨w9, hw9⟩ : ∃ w9, ((w2.alloc (.cells #[.string x, .string y] 46)).setCell ⟨w.heap.size, 0, none⟩ (.string x)).setCell ⟨w.heap.size, 1, none⟩ (.string y) = w9 := ⟨_, rfl⟩
  rw [hw9] at q HBQ
  obtain ⟨q0, q1⟩ := q
  rw [hw9]
  clear r0 r1 f0 f1 hw9
  refine bodyPost_ret (v := .agg #[.string x, .string y]) (by simp [results, Tryz.f30, go_sem, q0, q1]) rfl ⟨_, _, rfl, HQ.out, HBQ.out⟩
end Go.Proofs.YtcncdepjbhnknaaGreatDoor
/- The law package's alive: the chapter's first examples. -/
namespace Go.Proofs.YtcncdepjbhnknaaGreatDoor
open Go.RowKit Go.Shelf
attribute [local go_sem ↓] Go.wp_at_zero Go.wp_at_succ

theorem of_is {a b : Nat} (hb : 0 < b) (ha1 : a < 1000) (hb1 : b < 1000) {s t : ByteArray} (h : isPB (mkRat (a : Nat) b) s t = true) (w : World) (hT : Tabs w) :
    Calls Tryz.prog 30 #[.int .i64 a, .int .i64 b] w (ValPost (pV s t) w) := by
  refine (lawOf a b hb ha1 hb1 w hT).mono ?_
  rintro e w' ⟨x, y, rfl, h2, hb⟩
  have h3 := isP_dec h
  obtain ⟨e1, e2⟩ := isP_one' h2 h3 rfl
  rw [e1, e2]
  exact ⟨rfl, hb⟩
theorem of_32 (w : World) (hT : Tabs w) : Calls Tryz.prog 30 #[.int .i64 3, .int .i64 2] w (ValPost (pV ⟨#[51]⟩ ⟨#[50]⟩) w) :=
  of_is (a := 3) (b := 2) (by decide) (by decide) (by decide) (by decide +kernel) w hT
theorem of_58 (w : World) (hT : Tabs w) : Calls Tryz.prog 30 #[.int .i64 5, .int .i64 8] w (ValPost (pV ⟨#[53]⟩ ⟨#[56]⟩) w) :=
  of_is (a := 5) (b := 8) (by decide) (by decide) (by decide) (by decide +kernel) w hT
theorem of_12 (w : World) (hT : Tabs w) : Calls Tryz.prog 30 #[.int .i64 1, .int .i64 2] w (ValPost (pV ⟨#[49]⟩ ⟨#[50]⟩) w) :=
  of_is (a := 1) (b := 2) (by decide) (by decide) (by decide) (by decide +kernel) w hT
theorem of_11 (w : World) (hT : Tabs w) : Calls Tryz.prog 30 #[.int .i64 1, .int .i64 1] w (ValPost (pV ⟨#[49]⟩ ⟨#[49]⟩) w) :=
  of_is (a := 1) (b := 1) (by decide) (by decide) (by decide) (by decide +kernel) w hT
theorem CurveP.lim {bs : List BB} (h : CurveP bs) : LimB bs := fun x hx => by
  obtain ⟨i, hi, rfl⟩ := List.getElem_of_mem hx
  have h1 := h.small i hi
  rw [bAt_get hi] at h1
  obtain ⟨a1, a2, _⟩ := smallP_iff.1 h1.1
  obtain ⟨b1, b2, _⟩ := smallP_iff.1 h1.2
  exact ⟨⟨by omega, by omega⟩, by omega, by omega⟩
theorem two_sl (w : World) : SL (w.alloc (.cells #[.int .i64 1, .int .i64 2, .int .i64 0, .int .i64 3, .int .i64 800, .int .i64 1, .int .i64 2, .int .i64 0, .int .i64 5, .int .i64 500] 30)) (.slice (some ⟨w.heap.size, 0, none⟩) 2 2) twoS := by
  refine ⟨_, 2, rfl, Nat.le_refl _, by simp [maxLen], fun _ => ⟨_, 0, rfl, by simp, fun j hj => ?_⟩⟩
  match j, hj with
  | 0, _ => exact ⟨cell_new _ _ _ 0 rfl, cell_new _ _ _ 1 rfl, cell_new _ _ _ 2 rfl, cell_new _ _ _ 3 rfl, cell_new _ _ _ 4 rfl⟩
  | 1, _ => exact ⟨cell_new _ _ _ 5 rfl, cell_new _ _ _ 6 rfl, cell_new _ _ _ 7 rfl, cell_new _ _ _ 8 rfl, cell_new _ _ _ 9 rfl⟩
  | j + 2, h => simp at h; try omega
/-- What the last test reads. -/
abbrev SAl (b o g3 g5 : Nat) (w' : World) : Prop := (w'.cell? ⟨b, o + 10, none⟩ = some (.string ⟨#[51]⟩) ∧ w'.cell? ⟨b, o + 11, none⟩ = some (.string ⟨#[52]⟩)) ∧ (w'.cell? ⟨g3, 0, none⟩ = some (.string ⟨#[53]⟩) ∧ w'.cell? ⟨g3, 1, none⟩ = some (.string ⟨#[56]⟩)) ∧
  (w'.cell? ⟨g5, 0, none⟩ = some (.string ⟨#[51]⟩) ∧ w'.cell? ⟨g5, 1, none⟩ = some (.string ⟨#[50]⟩))
theorem halv2_last : bAt (halvL 2) 2 = ((⟨#[50]⟩, ⟨#[49]⟩), (⟨#[51]⟩, ⟨#[52]⟩)) := by decide +kernel
set_option maxRecDepth 100000 in
set_option maxHeartbeats 8000000 in
theorem alive_any (w : World) (hD : DetV w) (hT : Tabs w) : Calls Tryz.prog 14 #[] w (BoolPost w true) := by
  have HT := Lib.hid hT
  have HD := Lib.hid hD
  clear hT hD
  go_enter Tryz.func14, Tryz.ntmps14
  go_wp2_with fail
  refine (halving_any 2 _ HD.out HT.out).mono ?_
  rintro e w1 ⟨hE, hb⟩
  have HB1 := Lib.hid hb
  obtain ⟨v, rfl, hO⟩ : ∃ v, e = .returned (.tuple #[v, .int .i64 0]) ∧ OwnB w1 w.heap.size v (halvL 2) := by
    rcases hE with ⟨h, _⟩ | ⟨_, v, h1, h2⟩
    · exact absurd ⟨by decide, by decide⟩ h
    · exact ⟨v, h1, h2⟩
  have hV := hO.bl
  have hlen3 : (halvL 2).length = 3 := halvL_len 2
  obtain ⟨p, c, rfl⟩ : ∃ p c, v = .slice p 3 c := by obtain ⟨p, c, h, _⟩ := id hV; exact ⟨_, _, by rw [← hlen3]; exact h⟩
  obtain ⟨b, o, rfl, hbl, hat⟩ := hV.at hlen3 (by decide)
  have HV := Lib.hid hV
  have HAT := Lib.hid hat
  clear hE hb hO hV hat
  go_wp2_with fail
  refine (of_32 _ (HT.out.below HB1.out (Nat.le_refl _))).mono ?_
  rintro e w2 ⟨rfl, hb⟩
  have HV2 : Hid (Below w1.heap.size w1 w2) := hb
  have HB2 := Lib.hid (HB1.out.trans (hb.mono HB1.out.size))
  have HC := Lib.hid (dChance_any (s := ⟨#[51]⟩) (t := ⟨#[50]⟩) (HV.out.after hb (Nat.le_refl _)) halv2_curve.lim (by decide) (by decide) (HD.out.below HB2.out (Nat.le_refl _)) (HT.out.below HB2.out (Nat.le_refl _)))
  clear hb
  go_wp2_with fail
  refine HC.out.mono ?_
  rintro e w3 ⟨x, y, n, rfl, hA, hb⟩
  obtain ⟨rfl, rfl, rfl⟩ := alive_chance hA
  obtain ⟨g3, hg3⟩ : ∃ g, w3.heap.size = g := ⟨_, rfl⟩
  obtain ⟨w4, hw4⟩ : ∃ z, w3.alloc (pObj ⟨#[53]⟩ ⟨#[56]⟩) = z := ⟨_, rfl⟩
  have hal : Below w3.heap.size w3 w4 := by rw [← hw4]; exact (Below.refl _ w3).alloc (Nat.le_refl _) _
  have HG4 : Hid (w4.heap[g3]? = some (pObj ⟨#[53]⟩ ⟨#[56]⟩)) := by rw [← hw4, ← hg3]; exact World.alloc_heap_new w3 _
  have HV4 : Hid (Below w1.heap.size w1 w4) := HV2.out.trans ((hb.trans (hal.mono hb.size)).mono HV2.out.size)
  have HB4 : Hid (Below w.heap.size w w4) := HB1.out.trans (HV4.out.mono HB1.out.size)
  clear hA hb hal HC HV2 HB2
  go_wp2_with fail
  clear hw4 hg3
  refine (of_58 _ (HT.out.below HB4.out (Nat.le_refl _))).mono ?_
  rintro e w5 ⟨rfl, hb⟩
  have HG5 := Lib.hid ((hb.block _ (Array.getElem?_eq_some_iff.1 HG4.out).1).trans HG4.out)
  have HV5 : Hid (Below w1.heap.size w1 w5) := HV4.out.trans (hb.mono HV4.out.size)
  have HB5 : Hid (Below w.heap.size w w5) := HB1.out.trans (HV5.out.mono HB1.out.size)
  have HC := Lib.hid (dNeed_any (s := ⟨#[53]⟩) (t := ⟨#[56]⟩) (HV.out.after HV5.out (Nat.le_refl _)) halv2_curve.lim (by decide) (by decide) (HD.out.below HB5.out (Nat.le_refl _)) (HT.out.below HB5.out (Nat.le_refl _)))
  clear hb HG4 HV4 HB4
  go_wp2_with fail
  refine HC.out.mono ?_
  rintro e w6 ⟨x, y, n, rfl, hA, hb⟩
  obtain ⟨rfl, rfl, rfl⟩ := alive_need hA
  obtain ⟨g5, hg5⟩ : ∃ g, w6.heap.size = g := ⟨_, rfl⟩
  obtain ⟨w7, hw7⟩ : ∃ z, w6.alloc (pObj ⟨#[51]⟩ ⟨#[50]⟩) = z := ⟨_, rfl⟩
  have hal : Below w6.heap.size w6 w7 := by rw [← hw7]; exact (Below.refl _ w6).alloc (Nat.le_refl _) _
  have HI7 : Hid (w7.heap[g5]? = some (pObj ⟨#[51]⟩ ⟨#[50]⟩)) := by rw [← hw7, ← hg5]; exact World.alloc_heap_new w6 _
  have HG7 := Lib.hid (((hb.trans (hal.mono hb.size)).block _ (Array.getElem?_eq_some_iff.1 HG5.out).1).trans HG5.out)
  have HV7 : Hid (Below w1.heap.size w1 w7) := HV5.out.trans ((hb.trans (hal.mono hb.size)).mono HV5.out.size)
  have HS7 := Lib.hid (two_sl w7)
  have HW := Lib.hid (fun W (h : SL W (.slice (some ⟨w7.heap.size, 0, none⟩) 2 2) twoS) => dWidth_any h 1 2 0 4)
  clear hA hb hal HC HV5 HB5 HG5
  go_wp2_with fail
  clear hw7 hg5
  refine (HW.out _ HS7.out).mono ?_
  rintro e w8 ⟨a, n, rfl, hA, hb⟩
  obtain ⟨rfl, rfl⟩ := alive_width hA
  have hal : Below w7.heap.size w7 w8 := ((Below.refl w7.heap.size w7).alloc (Nat.le_refl _) _).trans (hb.mono (by simp))
  have HS : Hid (∀ V, Below w8.heap.size w8 V → SAl b o g3 g5 V) := fun V hV => by
    have hx := hal.trans (hV.mono hal.size)
    have h3 := (hx.block _ (Array.getElem?_eq_some_iff.1 HG7.out).1).trans HG7.out
    have h5 := (hx.block _ (Array.getElem?_eq_some_iff.1 HI7.out).1).trans HI7.out
    have h1 := HAT.out V (HV7.out.trans (hx.mono HV7.out.size)) 2 (by decide)
    rw [halv2_last] at h1
    exact ⟨⟨h1.2.2.1, h1.2.2.2⟩, ⟨known_cell h3 0 rfl, known_cell h3 1 rfl⟩, known_cell h5 0 rfl, known_cell h5 1 rfl⟩
  have HB8 : Hid (Below w.heap.size w w8) := HB1.out.trans ((HV7.out.trans (hal.mono HV7.out.size)).mono HB1.out.size)
  have HW0 : Hid (Below w8.heap.size w8 w8.drew) := (Below.refl _ w8).drew
  clear hA hb hal HS7 HW HG7 HI7 HV7 HV HAT HB1
  go_wp2_with fail
  refine tsteps_plain [(true, 0), (true, 1), (true, 2), (true, 3), (true, 4), (true, 5), (true, 6), (true, 7), (true, 8), (true, 9), (true, 10), (true, 11), (true, 12), (true, 13), (true, 14), (true, 15), (true, 16), (true, 17), (true, 18), (true, 19), (true, 20), (true, 21), (true, 22), (true, 23), (true, 24), (true, 25), (true, 26), (true, 27), (true, 28), (true, 29), (false, 30), (true, 31), (true, 32), (true, 33), (true, 34), (true, 35), (true, 36), (true, 37), (true, 38), (true, 39), (true, 40), (true, 41)] (SAl b o g3 g5) (fun _ => false)
    (by kernel_rfl) (by kernel_rfl) (by kernel_rfl) (fun _ _ => rfl) (fun _ _ o _ _ h => by cases o <;> exact h) (HS.out _ HW0.out) ?_
  skip
  iterate 30
    refine steps_read _ rfl rfl (fun w' hS => by obtain ⟨⟨a0, a1⟩, ⟨b0, b1⟩, c0, c1⟩ := hS; go_simp; first | rfl | (rw [if_pos (by omega)])) ?_
    simp only [List.getElem_toArray, List.getElem_cons_succ, List.getElem_cons_zero, Act.put, List.setIfInBounds_toArray, List.set_cons_zero, List.set_cons_succ]
  refine steps_write rfl rfl fun K hK => ?_
  go_simp
  go_at_call 30
  refine (of_32 _ (HT.out.below (HB8.out.trans (HW0.out.mono HB8.out.size)) (Nat.le_refl _))).mono ?_
  rintro e w9 ⟨rfl, hb⟩
  have HW9 : Hid (Below w8.heap.size w8 w9) := HW0.out.trans (hb.mono HW0.out.size)
  refine hK _ _ (.inr (HS.out _ HW9.out)) ?_
  clear hK K hb
  skip
  iterate 11
    refine steps_read _ rfl rfl (fun w' hS => by obtain ⟨⟨a0, a1⟩, ⟨b0, b1⟩, c0, c1⟩ := hS; go_simp; first | rfl | (rw [if_pos (by omega)])) ?_
    simp only [List.getElem_toArray, List.getElem_cons_succ, List.getElem_cons_zero, Act.put, List.setIfInBounds_toArray, List.set_cons_zero, List.set_cons_succ]
  refine steps_end ?_
  go_wp2
  go_ret
  exact ⟨rfl, HB8.out.trans (HW9.out.mono HB8.out.size)⟩
end Go.Proofs.YtcncdepjbhnknaaGreatDoor
