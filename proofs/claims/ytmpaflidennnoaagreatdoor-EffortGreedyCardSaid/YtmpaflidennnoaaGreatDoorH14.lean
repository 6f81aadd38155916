/- The parts CurveC of a proof, put together by program (merge7.py). -/
import Derived.Test.YtmpaflidennnoaaGreatDoorH13
set_option maxRecDepth 100000
set_option maxHeartbeats 8000000
set_option linter.unusedVariables false
set_option linter.unusedSimpArgs false
namespace Go.Proofs.YtmpaflidennnoaaGreatDoor
open Go.RowKit Go.Shelf
attribute [local go_sem ↓] Go.wp_at_zero Go.wp_at_succ
attribute [local go_sem] Oper.semAt_some
theorem ZgG {a b:Rat} (h:a<b):¬ (0:Int)≤sgnR a b:=by unfold sgnR;rw[if_pos h];decide
theorem ZgA {a b:Rat} (h:¬ a<b):(0:Int)≤sgnR a b:=by unfold sgnR;rw[if_neg h];split<;>decide
theorem Zby {a b:Rat} (h:a≤b):¬ (0:Int)<sgnR a b:=by
 unfold sgnR
 split
 ·decide
 ·split
  ·decide
  ·grind
theorem Zbu {a b:Rat} (h:¬ a≤b):(0:Int)<sgnR a b:=by
 unfold sgnR
 rw[if_neg (by grind),if_neg (by grind)]
 decide
def Zew (bs:List BB) (k B:Nat) (pl:Option Addr) (W:World):Prop:=
 (k=0∧pl=none)∨∃ g x y j,k=j+1∧pl=some ⟨g,0,none⟩∧B≤g∧W.heap[g]?=some (pObj x y)∧IsP (slp (cR bs) (hR bs) j) x y
theorem Zew.keeps {bs:List BB} {k B:Nat} {pl:Option Addr} {W W':World} {S:Nat→Prop} (h:Zew bs k B pl W) (hk:Keeps S W W') (hS:∀ g,B≤g→S g):Zew bs k B pl W':=by
 rcases h with h | ⟨g,x,y,j,h1,h2,h3,h4,h5⟩
 ·exact .inl h
 ·exact .inr ⟨g,x,y,j,h1,h2,h3,(hk.block g (Array.getElem?_eq_some_iff.1 h4).1 (hS g h3)).trans h4,h5⟩
abbrev lO (pl:Option Addr):Obj:=.cells #[.pointer pl] 167
abbrev SW (L G g:Nat) (x y x' y':ByteArray) (V:World):Prop:=V.cell? ⟨L,0,none⟩=some (.pointer (some ⟨g,0,none⟩))∧V.cell? ⟨G,0,none⟩=some (.string x)∧V.cell? ⟨G,1,none⟩=some (.string y)∧V.cell? ⟨g,0,none⟩=some (.string x')∧V.cell? ⟨g,1,none⟩=some (.string y')
def ZnC (bs:List BB) (L:Nat) (w6:World) (k:Nat) (W:World):Prop:=
 Pieces bs k∧(∃ pl,W.heap[L]?=some (lO pl)∧Zew bs k (L+4) pl W)∧Keeps (fun b=>b<L+2∧b≠L) w6 W
def ZnI (bs:List BB) (E L:Nat) (w6:World) (c:Code) (W:World):Prop:=
 c=.ret∧¬ CurveP bs∧W.heap[E]?=some (.cells #[.int .i64 2] 30)∧Keeps (fun b=>b<L+2∧b≠L∧b≠E) w6 W
def BoxB (bs:List BB) (B:Nat) (a1:Nat→Nat→Act) (k:Nat) (a':Act) (W:World):Prop:=
 ∃ A,B≤A∧a'=a1 k A∧W.heap[A]?=some (bObj (bAt bs k))∧W.heap[A+1]?=some (bObj (bAt bs (k+1)))
theorem ZkC {b off r c:Nat} {bs:List BB} {w:World} (hI:CurveIn b off r c bs w) (hs:∀ k,k<r+1→ZaL bs k=false) (hx:hR bs r≤1) :
  Calls Tryz.prog 80 #[.slice (some ⟨b,off,none⟩) (r+1) c] w (Zcc bs w):=by
 have hsm:=hs r (by omega)
 unfold ZaL at hsm
 simp only[Bool.not_eq_false',Bool.and_eq_true] at hsm
 have HP:=ZnV (Zbg hsm.2).1
 obtain⟨g,hg⟩:=ZnX (sgnR (hR bs r) 1)
 have HG:=ZnV hg
 have hg0:¬ (0:Int)<g:=by
  rw[← hg]
  unfold sgnR
  split
  ·decide
  ·split
   ·decide
   ·grind
 have HS0:=ZnV hs
 have HX:=ZnV hx
 have HI:=ZnV hI
 have hr:=hI.most
 have e1:Hid (IntKind.i64.wrap (r:Int)=(r:Int)):=IntWalk.i64_in _ (by omega)
 clear hI hx hs hsm hg
 refine ZcY Tryz.func80 rfl ?_
 simp only[Tryz.ntmps80,List.size_toArray,List.length_cons,List.length_nil,Nat.reduceAdd,Nat.reduceSub,Array.replicate_succ,Array.replicate_zero,List.push_toArray,List.append_toArray,List.nil_append,List.cons_append]
 have HS:Hid (∀ W,Below w.heap.size w W→SF b off ⟨#[48]⟩ ⟨#[49]⟩ ⟨#[48]⟩ ⟨#[49]⟩ W):=fun W hW=>HI.out.sf hW
 have H:Hid ((decide ((2:Int)≤(r:Int)+1) && decide ((r:Int)+1≤64))=true):=by show _=_;have:=HI.out.two;have:=HI.out.most;simp;omega
 go_wp2
 have hbx:((w.alloc (.cells #[.int .i64 0] 30)).drew).heap[w.heap.size]?=some (.cells #[.int .i64 0] 30):=World.alloc_heap_new w _
 have hb0:Below w.heap.size w ((w.alloc (.cells #[.int .i64 0] 30)).drew):=((Below.refl _ w).alloc ZnW _).drew
 obtain⟨w1,hw1⟩:=ZnX (w.alloc (.cells #[.int .i64 0] 30))
 rw[hw1] at hbx hb0 ⊢
 have hSF:=HS.out _ hb0
 refine ZZ [(true,0),(true,1),(false,2),(true,3),(true,4),(true,5),(true,6),(true,7),(true,8),(true,9),(true,10),(true,11),(true,12)] (SF b off ⟨#[48]⟩ ⟨#[49]⟩ ⟨#[48]⟩ ⟨#[49]⟩) (fun _=>false)
  (by kernel_rfl) (by kernel_rfl) (fun _ _=>rfl) (fun _ _ o _ _ h=>by cases o<;>exact h) hSF ?_
 iterate 2
  refine Ze _ rfl rfl (fun w' hS=>by go_simp;rfl) ?_
  simp only[ZnP,ZnQ,ZnR,Act.put,ZnS,ZnT,ZnU]
 refine Zg rfl rfl fun K hK=>?_
 go_simp
 go_at_call 128
 refine(Zbm _ 2 64 _).mono ?_
 rintro e w2 ⟨rfl,hb⟩
 rw[H.out]
 have hbx2:w2.heap[w.heap.size]?=some (.cells #[.int .i64 0] 30):=(hb.block _ (Array.getElem?_eq_some_iff.1 hbx).1).trans hbx
 have HB2:Hid (Below w.heap.size w w2):=hb0.trans (hb.mono hb0.size)
 have HX2:=ZnV hbx2
 have hSF2:=HS.out _ HB2.out
 refine hK _ _ (.inr hSF2) ?_
 clear hK K hb hbx hb0 hbx2 hw1 hSF hSF2
 iterate 10
  refine Ze _ rfl rfl (fun w' hS=>by obtain⟨⟨a0,a1,a2,a3⟩,z0,z1⟩:=hS;go_simp;first | rfl | (rw[if_pos (by omega)])) ?_
  simp only[ZnP,ZnQ,ZnR,Act.put,ZnS,ZnT,ZnU]
 refine Zw ?_
 go_wp2
 refine ZZ [(true,0),(false,1),(true,2),(true,3),(true,4),(true,5),(true,6),(true,7),(true,8),(true,9),(true,10),(false,11),(true,12),(true,13)] (SL2 b (off+r*4) (bAt bs r).2.1 (bAt bs r).2.2) (fun _=>false)
  (by kernel_rfl) (by kernel_rfl) (fun _ _=>rfl) (fun _ _ o _ _ h=>by cases o<;>exact h) (HI.out.sl HB2.out.drew) ?_
 iterate 1
  refine Ze _ rfl rfl (fun w' hS=>by obtain⟨⟨a0,a1⟩,z0,z1⟩:=hS;go_simp;(try simp only[e1.out,Int.toNat_natCast]);first | rfl | (rw[if_pos (by omega)])) ?_
  simp only[ZnP,ZnQ,ZnR,Act.put,ZnS,ZnT,ZnU]
 refine Zg rfl rfl fun K hK=>?_
 go_simp
 go_at_call 129
 refine(HI.out.cf HB2.out.drew).mono ?_
 rintro e w3 ⟨q,rfl,hE,hb⟩
 have HB3:Hid (Below w.heap.size w w3):=HB2.out.drew.trans (hb.mono HB2.out.drew.size)
 have HX3:Hid (w3.heap[w.heap.size]?=some (.cells #[.int .i64 0] 30)):=(hb.block _ (Array.getElem?_eq_some_iff.1 HX2.out).1).trans HX2.out
 rcases hE with ⟨_,k,hk,h2⟩ | ⟨rfl,_⟩
 ·rw[HS0.out k hk] at h2
  cases h2
 refine hK _ _ (.inr (HI.out.sl HB3.out)) ?_
 clear hK K hb
 iterate 9
  refine Ze _ rfl rfl (fun w' hS=>by obtain⟨⟨a0,a1⟩,z0,z1⟩:=hS;go_simp;(try simp only[e1.out,Int.toNat_natCast]);first | rfl | (rw[if_pos (by omega)])) ?_
  simp only[ZnP,ZnQ,ZnR,Act.put,ZnS,ZnT,ZnU]
 refine Zg rfl rfl fun K hK=>?_
 go_simp
 go_at_call 22
 refine(Zbr HP.out Ze0 HG.out _).mono ?_
 rintro e w4 ⟨rfl,hb⟩
 have HB4:Hid (Below w.heap.size w w4):=HB3.out.trans (hb.mono HB3.out.size)
 have HX4:Hid (w4.heap[w.heap.size]?=some (.cells #[.int .i64 0] 30)):=(hb.block _ (Array.getElem?_eq_some_iff.1 HX3.out).1).trans HX3.out
 refine hK _ _ (.inr (HI.out.sl HB4.out)) ?_
 clear hK K hb
 iterate 2
  refine Ze _ rfl rfl (fun w' hS=>by obtain⟨⟨a0,a1⟩,z0,z1⟩:=hS;go_simp;(try simp only[e1.out,Int.toNat_natCast]);first | rfl | (rw[if_pos (by omega)])) ?_
  simp only[ZnP,ZnQ,ZnR,Act.put,ZnS,ZnT,ZnU]
 refine Zw ?_
 go_wp2_with fail
 refine(Zhg _ _ _ _).mono ?_
 rintro e w' ⟨rfl,rfl⟩
 obtain⟨L,hL⟩:=ZnX w4.heap.size
 obtain⟨w6,hw6⟩:=ZnX ((w4.alloc (.cells #[.pointer none] 167)).alloc (.cells #[.slice (some ⟨b,off,none⟩) (r+1) c] 72))
 rw[World.size_alloc,hw6,hL]
 have hEL:w.heap.size<L:=by rw[← hL];exact(Array.getElem?_eq_some_iff.1 HX4.out).1
 have hD:w6.heap.size=L+2:=by rw[← hw6];simp[hL]
 have HB6:Hid (Below w4.heap.size w4 w6):=by rw[← hw6];exact((Below.refl _ w4).alloc ZnW _).alloc (by simp) _
 have HL6:Hid (w6.heap[L]?=some (lO none)):=by rw[← hw6,← hL];exact(Below.heap_alloc _ _ _ (by simp)).trans (World.alloc_heap_new w4 _)
 have HS6:Hid (w6.cell? ⟨L+1,0,none⟩=some (.slice (some ⟨b,off,none⟩) (r+1) c)):=by rw[← hw6];exact Zv _ _ _ _ (by simp[hL])
 have HE6:Hid (w6.heap[w.heap.size]?=some (.cells #[.int .i64 0] 30)):=(HB6.out.block _ (by rw[hL];exact hEL)).trans HX4.out
 have hbE:b<w.heap.size:=HI.out.lt
 have HC6:Hid (Zcj b off (r+1) bs w6):=HI.out.cells _ (HB4.out.trans (HB6.out.mono HB4.out.size))
 have HW6:Hid (Below w.heap.size w w6):=HB4.out.trans (HB6.out.mono HB4.out.size)
 clear hw6 hL
 go_wp2
 refine(wpIn_wide (n:=9)).1 ?_
 refine Zdr (L+2) hD (gf:=179) (lb:=#[.pointer (some ⟨L+1,0,none⟩)]) (f:=fun k=>#[bV (bAt bs k),bV (bAt bs (k+1))]) (N:=r)
  (S:=fun x=>x<L+2∧x≠L∧x≠w.heap.size) (T:=fun _=>True)
  rfl (enters_of Tryz.func179 (by kernel_rfl) rfl) (fun _=>rfl) ?iter (fun _ h=>h.1) ⟨trivial,trivial⟩
  (ZnC bs L w6) (fun c _ W=>ZnI bs w.heap.size L w6 c W) ?ci ?cx ?start
  (BoxB bs (L+4) ?a1) ?cb ?assign ?body ?done ?stop
 case iter=>
  have:=Zge (L+1) b off (r+1) c (fun x=>x<L+2∧x≠L∧x≠w.heap.size) bs (by have:=HI.out.two;omega) (by omega) HI.out.cap.1 HI.out.cap.2 w6 ⟨by omega,by omega,by omega⟩ ⟨by omega,by omega,by omega⟩ HS6.out HC6.out
  rwa [Nat.add_sub_cancel] at this
 case ci=>
  rintro k W1 W2 ⟨h1,⟨pl,h2,h3⟩,h4⟩ hk
  exact⟨h1,⟨pl,(hk.block _ (Array.getElem?_eq_some_iff.1 h2).1 ⟨trivial,by omega,by omega⟩).trans h2,h3.keeps hk fun g hg=>⟨trivial,by omega,by omega⟩⟩,h4.trans (hk.mono fun x _ hx=>⟨trivial,by omega,by omega⟩)⟩
 case cx=>
  rintro cd k W1 W2 ⟨h1,h2,h3,h4⟩ hk
  exact⟨h1,h2,(hk.block _ (Array.getElem?_eq_some_iff.1 h3).1 ⟨trivial,by omega,by omega⟩).trans h3,h4.trans (hk.mono fun x _ hx=>⟨trivial,by omega,by omega⟩)⟩
 case start=>exact⟨Pieces.zero bs,⟨none,HL6.out,.inl ⟨rfl,rfl⟩⟩,Keeps.refl _ _⟩
 case cb=>
  rintro k a' W1 W2 ⟨A,h1,h2,h3,h4⟩ hk
  exact⟨A,h1,h2,(hk.block _ (Array.getElem?_eq_some_iff.1 h3).1 ⟨by omega,by omega⟩).trans h3,(hk.block _ (Array.getElem?_eq_some_iff.1 h4).1 ⟨by omega,by omega⟩).trans h4⟩
 case assign=>
  intro l k W hk hW
  gi_wp2
  have h1:((W.alloc (bObj (bAt bs k))).alloc (bObj (bAt bs (k+1)))).heap[W.heap.size]?=some (bObj (bAt bs k)):=(Below.heap_alloc _ _ _ (by simp)).trans (World.alloc_heap_new W _)
  have h2:((W.alloc (bObj (bAt bs k))).alloc (bObj (bAt bs (k+1)))).heap[W.heap.size+1]?=some (bObj (bAt bs (k+1))):=by
   have:=World.alloc_heap_new (W.alloc (bObj (bAt bs k))) (bObj (bAt bs (k+1)))
   rwa [World.size_alloc] at this
  have hkk:Keeps (fun _=>True) W ((W.alloc (bObj (bAt bs k))).alloc (bObj (bAt bs (k+1)))):=((Keeps.refl _ W).alloc _).alloc _
  obtain⟨V,hV⟩:=ZnX ((W.alloc (bObj (bAt bs k))).alloc (bObj (bAt bs (k+1))))
  rw[hV] at h1 h2 hkk
  obtain⟨A,hA⟩:=ZnX W.heap.size
  rw[hA] at h1 h2
  simp only[hV,hA,World.size_alloc]
  refine⟨hkk,A,by omega,?_,h1,h2⟩
  clear hkk h1 h2 hV hA hW
  exact rfl
 case body=>
  have hfn:∀ k,Fence.wide.fn k:=fun _=>trivial
  rintro l k a' W hk ⟨HPi,⟨pl,HLb,HLa⟩,HK⟩ ⟨A,hA,rfl,hA0,hA1⟩ hW
  have hsm:∀ i,i<r+1→Zh 18 (bAt bs i).1=true∧Zh 18 (bAt bs i).2=true:=fun i hi=>by
   have:=HS0.out i hi
   unfold ZaL at this
   simpa using this
  have z0:=hsm k (by omega)
  have z1:=hsm (k+1) (by omega)
  have C0:=Zbg z0.1
  have H0:=Zbg z0.2
  have C1:=Zbg z1.1
  have H1:=Zbg z1.2
  change IsP (cR bs k) _ _∧Sz 18 (cR bs k) at C0
  change IsP (hR bs k) _ _∧Sz 18 (hR bs k) at H0
  change IsP (cR bs (k+1)) _ _∧Sz 18 (cR bs (k+1)) at C1
  change IsP (hR bs (k+1)) _ _∧Sz 18 (hR bs (k+1)) at H1
  have HZ:Hid ((Sz 18 (cR bs k)∧Sz 18 (hR bs k))∧(Sz 18 (cR bs (k+1))∧Sz 18 (hR bs (k+1)))∧0≤cR bs k∧0≤hR bs k):=⟨⟨C0.2,H0.2⟩,⟨C1.2,H1.2⟩,C0.1.nn,H0.1.nn⟩
  have IC0:=ZnV C0.1
  have IH0:=ZnV H0.1
  have IC1:=ZnV C1.1
  have IH1:=ZnV H1.1
  have HN1:Hid (¬ (cR bs k<cR bs (k+1)∧hR bs k≤hR bs (k+1))→¬ CurveP bs):=fun h hc=>h (hc.up k (by rw[HI.out.len];omega))
  have HN2:Hid (∀ j,j+1=k→¬ slp (cR bs) (hR bs) (j+1)≤slp (cR bs) (hR bs) j→¬ CurveP bs):=fun j hj h hc=>h (hc.conc j (by rw[HI.out.len];omega))
  clear z0 z1 C0 H0 C1 H1 hsm
  have HBW:Hid (Below w.heap.size w W):=HW6.out.trans (HK.below_of (fun x hx=>⟨by omega,by omega⟩) (by omega))
  have HEW:Hid (W.heap[w.heap.size]?=some (.cells #[.int .i64 0] 30)):=(HK.block _ (by omega) ⟨by omega,by omega⟩).trans HE6.out
  obtain⟨q0,hq0⟩:=ZnX (bAt bs k)
  obtain⟨q1,hq1⟩:=ZnX (bAt bs (k+1))
  rw[hq0] at hA0 IC0 IH0
  rw[hq1] at hA1 IC1 IH1
  obtain⟨⟨s0,t0⟩,u0,v0⟩:=q0
  obtain⟨⟨s1,t1⟩,u1,v1⟩:=q1
  dsimp only at IC0 IH0 IC1 IH1
  dsimp only
  rw[hq0,hq1]
  have HA:Hid (W.heap[A]?=some (bO s0 t0 u0 v0)∧W.heap[A+1]?=some (bO s1 t1 u1 v1)):=⟨hA0,hA1⟩
  have HLh:Hid (W.heap[L]?=some (lO pl)∧Zew bs k (L+4) pl W):=⟨HLb,HLa⟩
  have HKh:=ZnV HK
  have HPh:=ZnV HPi
  clear HPi HLb HLa HK hA0 hA1 hq0 hq1
  obtain⟨g1,hg1⟩:=ZnX (sgnR (cR bs k) (cR bs (k+1)))
  have HG1:=ZnV hg1
  obtain⟨E,hEe⟩:=ZnX w.heap.size
  have HEE:=ZnV hEe
  rw[hEe] at HEW hEL ⊢
  clear hEe
  have a0:W.cell? ⟨A,0,none⟩=some (.string s0):=Za HA.out.1 0 rfl
  have a1:W.cell? ⟨A,1,none⟩=some (.string t0):=Za HA.out.1 1 rfl
  have a2:W.cell? ⟨A,2,none⟩=some (.string u0):=Za HA.out.1 2 rfl
  have a3:W.cell? ⟨A,3,none⟩=some (.string v0):=Za HA.out.1 3 rfl
  have b0:W.cell? ⟨A+1,0,none⟩=some (.string s1):=Za HA.out.2 0 rfl
  have b1:W.cell? ⟨A+1,1,none⟩=some (.string t1):=Za HA.out.2 1 rfl
  have b2:W.cell? ⟨A+1,2,none⟩=some (.string u1):=Za HA.out.2 2 rfl
  have b3:W.cell? ⟨A+1,3,none⟩=some (.string v1):=Za HA.out.2 3 rfl
  by_cases hc1:cR bs k<cR bs (k+1)
  ·have hge:¬ (0:Int)≤g1:=by rw[← hg1];exact ZgG hc1
   obtain⟨g2,hg2⟩:=ZnX (sgnR (hR bs k) (hR bs (k+1)))
   have HG2:=ZnV hg2
   clear hg1
   gi_wp2_with fail
   refine(CallsIn.inRound l (callsIn_wide.2 (Zbr IC0.out IC1.out HG1.out _))).mono ?_
   rintro e W1 ⟨rfl,hb⟩
   have HA1:Hid (W1.heap[A]?=some (bO s0 t0 u0 v0)∧W1.heap[A+1]?=some (bO s1 t1 u1 v1)):=⟨(hb.block _ (Array.getElem?_eq_some_iff.1 HA.out.1).1).trans HA.out.1,(hb.block _ (Array.getElem?_eq_some_iff.1 HA.out.2).1).trans HA.out.2⟩
   have HV1:Hid (Below W.heap.size W W1):=hb
   clear a0 a1 a2 a3 b0 b1 b2 b3
   clear hb
   have a0:W1.cell? ⟨A,0,none⟩=some (.string s0):=Za HA1.out.1 0 rfl
   have a1:W1.cell? ⟨A,1,none⟩=some (.string t0):=Za HA1.out.1 1 rfl
   have a2:W1.cell? ⟨A,2,none⟩=some (.string u0):=Za HA1.out.1 2 rfl
   have a3:W1.cell? ⟨A,3,none⟩=some (.string v0):=Za HA1.out.1 3 rfl
   have b0:W1.cell? ⟨A+1,0,none⟩=some (.string s1):=Za HA1.out.2 0 rfl
   have b1:W1.cell? ⟨A+1,1,none⟩=some (.string t1):=Za HA1.out.2 1 rfl
   have b2:W1.cell? ⟨A+1,2,none⟩=some (.string u1):=Za HA1.out.2 2 rfl
   have b3:W1.cell? ⟨A+1,3,none⟩=some (.string v1):=Za HA1.out.2 3 rfl
   by_cases hc2:hR bs k≤hR bs (k+1)
   ·have hge2:¬ (0:Int)<g2:=by rw[← hg2];exact Zby hc2
    have HCC:Hid (cR bs k<cR bs (k+1)∧hR bs k≤hR bs (k+1)):=⟨hc1,hc2⟩
    clear hg2 hc1 hc2
    gi_wp2_with fail
    refine(CallsIn.inRound l (callsIn_wide.2 (Zbr IH0.out IH1.out HG2.out _))).mono ?_
    rintro e W2 ⟨rfl,hb⟩
    have HA2:Hid (W2.heap[A]?=some (bO s0 t0 u0 v0)∧W2.heap[A+1]?=some (bO s1 t1 u1 v1)):=⟨(hb.block _ (Array.getElem?_eq_some_iff.1 HA1.out.1).1).trans HA1.out.1,(hb.block _ (Array.getElem?_eq_some_iff.1 HA1.out.2).1).trans HA1.out.2⟩
    have HV2:Hid (Below W.heap.size W W2):=HV1.out.trans (hb.mono HV1.out.size)
    clear a0 a1 a2 a3 b0 b1 b2 b3
    clear hb
    have a0:W2.cell? ⟨A,0,none⟩=some (.string s0):=Za HA2.out.1 0 rfl
    have a1:W2.cell? ⟨A,1,none⟩=some (.string t0):=Za HA2.out.1 1 rfl
    have a2:W2.cell? ⟨A,2,none⟩=some (.string u0):=Za HA2.out.1 2 rfl
    have a3:W2.cell? ⟨A,3,none⟩=some (.string v0):=Za HA2.out.1 3 rfl
    have b0:W2.cell? ⟨A+1,0,none⟩=some (.string s1):=Za HA2.out.2 0 rfl
    have b1:W2.cell? ⟨A+1,1,none⟩=some (.string t1):=Za HA2.out.2 1 rfl
    have b2:W2.cell? ⟨A+1,2,none⟩=some (.string u1):=Za HA2.out.2 2 rfl
    have b3:W2.cell? ⟨A+1,3,none⟩=some (.string v1):=Za HA2.out.2 3 rfl
    obtain⟨⟨x1,y1,j1⟩,⟨x2,y2,j2⟩,⟨x,y,j3⟩,j4,_,_⟩:=Zmv HZ.out.2.2.2 HZ.out.2.2.1 HCC.out.1 HCC.out.2 HZ.out.1.2 HZ.out.2.1.2 HZ.out.1.1 HZ.out.2.1.1
    have HJ3:Hid (IsP (slp (cR bs) (hR bs) k) x y):=j3
    have HR:=ZnV (ZmT IC0.out IH0.out IC1.out IH1.out j1 j2 j3 j4 W2 (HI.out.tabs.below (HBW.out.trans (HV2.out.mono HBW.out.size)) ZnW))
    clear j1 j2 j3 j4
    gi_wp2_with fail
    refine(CallsIn.inRound l (callsIn_wide.2 HR.out)).mono ?_
    rintro e W3 ⟨rfl,hb⟩
    have HV3:Hid (Below W.heap.size W W3):=HV2.out.trans (hb.mono HV2.out.size)
    clear hb HR
    clear a0 a1 a2 a3 b0 b1 b2 b3
    obtain⟨G,hG⟩:=ZnX W3.heap.size
    gi_wp2
    have hGL:L+4≤G:=by rw[← hG];have:=HV3.out.size;omega
    obtain⟨W4,hW4⟩:=ZnX (W3.alloc (pObj x y))
    have HV4:Hid (Below W.heap.size W W4):=by rw[← hW4];exact HV3.out.alloc HV3.out.size _
    have HG4:Hid (W4.heap[G]?=some (pObj x y)):=by rw[← hW4,← hG];exact World.alloc_heap_new W3 _
    have HL4:Hid (W4.heap[L]?=some (lO pl)):=(HV4.out.block _ (by omega)).trans HLh.out.1
    have HLa4:=HLh.out.2.keeps (HV4.out.keepsAll (fun _=>True)) (fun _ _=>trivial)
    rw[hW4]
    clear hW4 hG HLh
    rcases HLa4 with ⟨h0,rfl⟩ | ⟨g',x',y',j,rfl,rfl,hgl,hgx,hgp⟩
    ·have HQ:Hid (∀ i,i+1=k→slp (cR bs) (hR bs) (i+1)≤slp (cR bs) (hR bs) i):=fun i hi=>by omega
     have c0:W4.cell? ⟨L,0,none⟩=some (.pointer none):=Za HL4.out 0 rfl
     refine Zbd [(true,0),(true,1),(true,2),(true,3),(true,4),(true,5),(true,6),(false,7),(true,8),(true,9)] (fun w'=>w'.cell? ⟨L,0,none⟩=some (.pointer none)) (fun _=>false)
      (by kernel_rfl) (by kernel_rfl) (fun _ _=>rfl) (fun _ _ o _ _ h=>by cases o<;>exact h) (fun _ _ h=>h) c0 ?_
     iterate 3
      refine Ze _ rfl rfl (fun w' hS=>by go_simp;rfl) ?_
      simp only[ZnP,ZnQ,ZnR,Act.put,ZnS,ZnT,ZnU]
     iterate 4
      refine ZB rfl rfl ?_
      simp only[ZnP,ZnQ,ZnR,Act.put,ZnS,ZnT,ZnU]
     refine ZN rfl rfl c0 ?_
     simp only[ZnP,ZnQ,ZnR,Act.put,ZnS,ZnT,ZnU]
     iterate 1
      refine ZB rfl rfl ?_
      simp only[ZnP,ZnQ,ZnR,Act.put,ZnS,ZnT,ZnU]
     iterate 1
      refine Ze _ rfl rfl (fun w' hS=>by go_simp;rfl) ?_
      simp only[ZnP,ZnQ,ZnR,Act.put,ZnS,ZnT,ZnU]
     refine Zw ?_
     have c0:W4.drew.cell? ⟨L,0,none⟩=some (.pointer none):=c0
     have f0:W4.drew.frozen? ⟨L,0,none⟩=false:=Zc (w:=W4.drew) HL4.out 0
     have HLV:Hid (W4.drew.heap[L]?=some (lO none)):=HL4.out
     have HGV:Hid (W4.drew.heap[G]?=some (pObj x y)):=HG4.out
     have hb:=HV4.out.drew
     have HKV:Hid (∀ S':Nat→Prop,Keeps S' W (W4.drew)):=fun S'=>hb.keepsAll S'
     clear hb
     gi_wp2
     have nL:¬ (fun x=>(x<L+2∧x≠L∧x≠E)∨x=L+2∨x=L+2+1) L:=fun h=>by rcases h with ⟨_,h,_⟩ | h | h<;>omega
     refine⟨(HKV.out _).setCell (p:=⟨L,0,none⟩) nL _,HPh.out.succ HCC.out HQ.out,⟨some ⟨G,0,none⟩,Joins.block_setCell HLV.out _,.inr ⟨G,x,y,_,rfl,rfl,hGL,(Below.heap_setCell _ _ _ _ (by show G≠L;omega)).trans HGV.out,HJ3.out⟩⟩,(HKh.out.trans (HKV.out _)).setCell (p:=⟨L,0,none⟩) (by simp) _⟩
    ·obtain⟨g3,hg3⟩:=ZnX (sgnR (slp (cR bs) (hR bs) (j+1)) (slp (cR bs) (hR bs) j))
     have HG3:=ZnV hg3
     have HGP:=ZnV hgp
     have c0:W4.cell? ⟨L,0,none⟩=some (.pointer (some ⟨g',0,none⟩)):=Za HL4.out 0 rfl
     have d0:W4.cell? ⟨G,0,none⟩=some (.string x):=Za HG4.out 0 rfl
     have d1:W4.cell? ⟨G,1,none⟩=some (.string y):=Za HG4.out 1 rfl
     have p0:W4.cell? ⟨g',0,none⟩=some (.string x'):=Za hgx 0 rfl
     have p1:W4.cell? ⟨g',1,none⟩=some (.string y'):=Za hgx 1 rfl
     have HS4:Hid (∀ V,Below W4.heap.size W4 V→SW L G g' x y x' y' V):=fun V hV=>by
      have e1:=hV.block L (Array.getElem?_eq_some_iff.1 HL4.out).1
      have e2:=hV.block G (Array.getElem?_eq_some_iff.1 HG4.out).1
      have e3:=hV.block g' (Array.getElem?_eq_some_iff.1 hgx).1
      exact⟨(World.cell?_of_block e1).trans c0,(World.cell?_of_block e2).trans d0,(World.cell?_of_block e2).trans d1,(World.cell?_of_block e3).trans p0,(World.cell?_of_block e3).trans p1⟩
     clear c0 d0 d1 p0 p1 hgp hgx
     refine Zbd [(true,0),(true,1),(true,2),(true,3),(true,4),(true,5),(true,6),(false,7),(true,8),(true,9)] (SW L G g' x y x' y') (fun _=>false)
      (by kernel_rfl) (by kernel_rfl) (fun _ _=>rfl) (fun _ _ o _ _ h=>by cases o<;>exact h) (fun _ _ h=>h) (HS4.out _ (Below.refl _ W4).drew) ?_
     iterate 7
      refine Ze _ rfl rfl (fun w' hS=>by obtain⟨c0,d0,d1,p0,p1⟩:=hS;go_simp;rfl) ?_
      simp only[ZnP,ZnQ,ZnR,Act.put,ZnS,ZnT,ZnU]
     refine Zg rfl rfl fun K hK=>?_
     go_simp
     go_at_call 22
     refine(Zbr HJ3.out HGP.out HG3.out _).mono ?_
     rintro e W5 ⟨rfl,hb⟩
     have hb4:Below W4.heap.size W4 W5:=(Below.refl _ W4).drew.trans hb
     have HLV:Hid (W5.heap[L]?=some (lO (some ⟨g',0,none⟩))):=(hb4.block _ (Array.getElem?_eq_some_iff.1 HL4.out).1).trans HL4.out
     have HGV:Hid (W5.heap[G]?=some (pObj x y)):=(hb4.block _ (Array.getElem?_eq_some_iff.1 HG4.out).1).trans HG4.out
     have HV5:Hid (Below W.heap.size W W5):=HV4.out.trans (hb4.mono HV4.out.size)
     refine hK _ _ (.inr (HS4.out _ hb4)) ?_
     clear hK K hb hb4
     iterate 2
      refine Ze _ rfl rfl (fun w' hS=>by obtain⟨c0,d0,d1,p0,p1⟩:=hS;go_simp;rfl) ?_
      simp only[ZnP,ZnQ,ZnR,Act.put,ZnS,ZnT,ZnU]
     refine Zw ?_
     by_cases hc3:slp (cR bs) (hR bs) (j+1)≤slp (cR bs) (hR bs) j
     ·have HQ:Hid (∀ i,i+1=j+1→slp (cR bs) (hR bs) (i+1)≤slp (cR bs) (hR bs) i):=fun i hi=>by
       obtain rfl:i=j:=by omega
       exact hc3
      have hge3:¬ (0:Int)<g3:=by rw[← hg3];exact Zby hc3
      clear hg3 hc3
      have c0:W5.cell? ⟨L,0,none⟩=some (.pointer (some ⟨g',0,none⟩)):=Za HLV.out 0 rfl
      have f0:W5.frozen? ⟨L,0,none⟩=false:=Zc HLV.out 0
      have hb:=HV5.out
      have HKV:Hid (∀ S':Nat→Prop,Keeps S' W (W5)):=fun S'=>hb.keepsAll S'
      clear hb
      gi_wp2
      have nL:¬ (fun x=>(x<L+2∧x≠L∧x≠E)∨x=L+2∨x=L+2+1) L:=fun h=>by rcases h with ⟨_,h,_⟩ | h | h<;>omega
      refine⟨(HKV.out _).setCell (p:=⟨L,0,none⟩) nL _,HPh.out.succ HCC.out HQ.out,⟨some ⟨G,0,none⟩,Joins.block_setCell HLV.out _,.inr ⟨G,x,y,_,rfl,rfl,hGL,(Below.heap_setCell _ _ _ _ (by show G≠L;omega)).trans HGV.out,HJ3.out⟩⟩,(HKh.out.trans (HKV.out _)).setCell (p:=⟨L,0,none⟩) (by simp) _⟩
     ·have hge3:(0:Int)<g3:=by rw[← hg3];exact Zbu hc3
      have HN:Hid (¬ CurveP bs):=HN2.out j rfl hc3
      clear hg3 hc3
      have hb:=HV5.out
      have hEV:W5.heap[E]?=some (.cells #[.int .i64 0] 30):=(hb.block _ (Array.getElem?_eq_some_iff.1 HEW.out).1).trans HEW.out
      have e0:=Za hEV 0 rfl
      have ef:=Zc hEV 0
      have HEV:=ZnV hEV
      have HKV:Hid (∀ S':Nat→Prop,Keeps S' W W5):=fun S'=>hb.keepsAll S'
      clear hb hEV
      gi_wp2
      have nE:¬ (fun x=>(x<L+2∧x≠L∧x≠E)∨x=L+2∨x=L+2+1) E:=by simp;omega
      refine⟨(HKV.out _).setCell (p:=⟨E,0,none⟩) nE _,rfl,HN.out,Joins.block_setCell HEV.out _,((HKh.out.mono fun x _ hx=>⟨hx.1,hx.2.1⟩).trans (HKV.out _)).setCell (p:=⟨E,0,none⟩) (by simp) _⟩
   ·have hge2:(0:Int)<g2:=by rw[← hg2];exact Zbu hc2
    have HN:Hid (¬ CurveP bs):=HN1.out fun h=>hc2 h.2
    have HEW1:Hid (W1.heap[E]?=some (.cells #[.int .i64 0] 30)):=(HV1.out.block _ (Array.getElem?_eq_some_iff.1 HEW.out).1).trans HEW.out
    clear hg2 hc1 hc2
    gi_wp2_with fail
    refine(CallsIn.inRound l (callsIn_wide.2 (Zbr IH0.out IH1.out HG2.out _))).mono ?_
    rintro e W2 ⟨rfl,hb⟩
    have hb:Below W.heap.size W W2:=HV1.out.trans (hb.mono HV1.out.size)
    have hEV:W2.heap[E]?=some (.cells #[.int .i64 0] 30):=(hb.block _ (Array.getElem?_eq_some_iff.1 HEW.out).1).trans HEW.out
    have e0:=Za hEV 0 rfl
    have ef:=Zc hEV 0
    have HEV:=ZnV hEV
    have HKV:Hid (∀ S':Nat→Prop,Keeps S' W W2):=fun S'=>hb.keepsAll S'
    clear hb hEV a0 a1 a2 a3 b0 b1 b2 b3
    gi_wp2
    have nE:¬ (fun x=>(x<L+2∧x≠L∧x≠E)∨x=L+2∨x=L+2+1) E:=by simp;omega
    refine⟨(HKV.out _).setCell (p:=⟨E,0,none⟩) nE _,rfl,HN.out,Joins.block_setCell HEV.out _,((HKh.out.mono fun x _ hx=>⟨hx.1,hx.2.1⟩).trans (HKV.out _)).setCell (p:=⟨E,0,none⟩) (by simp) _⟩
  ·have hge:(0:Int)≤g1:=by rw[← hg1];exact ZgA hc1
   have HN:Hid (¬ CurveP bs):=HN1.out fun h=>hc1 h.1
   clear hc1 hg1
   gi_wp2_with fail
   refine(CallsIn.inRound l (callsIn_wide.2 (Zbr IC0.out IC1.out HG1.out _))).mono ?_
   rintro e W1 ⟨rfl,hb⟩
   have hEV:W1.heap[E]?=some (.cells #[.int .i64 0] 30):=(hb.block _ (Array.getElem?_eq_some_iff.1 HEW.out).1).trans HEW.out
   have e0:=Za hEV 0 rfl
   have ef:=Zc hEV 0
   have HEV:=ZnV hEV
   have HKV:Hid (∀ S':Nat→Prop,Keeps S' W W1):=fun S'=>hb.keepsAll S'
   clear hb hEV a0 a1 a2 a3 b0 b1 b2 b3
   gi_wp2
   have nE:¬ (fun x=>(x<L+2∧x≠L∧x≠E)∨x=L+2∨x=L+2+1) E:=by simp;omega
   refine⟨(HKV.out _).setCell (p:=⟨E,0,none⟩) nE _,rfl,HN.out,Joins.block_setCell HEV.out _,((HKh.out.mono fun x _ hx=>⟨hx.1,hx.2.1⟩).trans (HKV.out _)).setCell (p:=⟨E,0,none⟩) (by simp) _⟩
 case done=>
  rintro W ⟨HPi,_,HK⟩ hdef
  have hE0:W.heap[w.heap.size]?=some (.cells #[.int .i64 0] 30):=(HK.block _ (by omega) ⟨by omega,by omega⟩).trans HE6.out
  have cr:=Za hE0 0 rfl
  have fr:=Zc hE0 0
  have HE0:=ZnV hE0
  have HKh:=ZnV HK
  have HPh:=ZnV HPi
  clear HK hE0 HPi
  go_wp2
  have hdef':(W.setCell ⟨w.heap.size,0,none⟩ (.int .i64 0)).heap[L+2]?=some (.deferred (some [])):=(Below.heap_setCell _ _ _ _ (by show L+2≠w.heap.size;omega)).trans hdef
  have hc5:((W.setCell ⟨w.heap.size,0,none⟩ (.int .i64 0)).putObj (L+2) (.deferred none)).cell? ⟨w.heap.size,0,none⟩=some (.int .i64 0):=
   (World.cell?_of_block (World.putObj_heap_other (by show w.heap.size≠L+2;omega))).trans (Za (Joins.block_setCell HE0.out _) 0 rfl)
  unfold Calm bodyPostM
  refine⟨by simp,.inl ⟨_,_,rfl,run_takeDeferred hdef',?_⟩⟩
  have HB9:Hid (Below w.heap.size w ((W.setCell ⟨w.heap.size,0,none⟩ (.int .i64 0)).putObj (L+2) (.deferred none))):=by
   have h1:=((HKh.out.mono (S':=fun x=>x<w.heap.size) (fun x _ hx=>⟨by omega,by omega⟩)).setCell (p:=⟨w.heap.size,0,none⟩) (by simp) (.int .i64 0)).putObj (r:=L+2) (by show ¬ L+2<w.heap.size;omega) (.deferred none)
   exact HW6.out.trans (h1.below_of (fun _ h=>h) (by omega))
  refine⟨.int .i64 0,by simp[results,Tryz.f80,go_sem,hc5],0,rfl,.inl ⟨?_,rfl⟩,HB9.out⟩
  have hsm:∀ i,i<bs.length→Zh 18 (bAt bs i).1=true∧Zh 18 (bAt bs i).2=true:=fun i hi=>by
   have:=HS0.out i (by rw[← HI.out.len];exact hi)
   unfold ZaL at this
   simpa using this
  have hl:=HI.out.len
  have htw:=HI.out.two
  exact HPh.out.curve hl ⟨by omega,by omega⟩ HI.out.first hsm HX.out
 case stop=>
  rintro cd k W hk ⟨rfl,HN,hE2,HK⟩ hdef
  have HE2:=ZnV hE2
  have HKh:=ZnV HK
  clear HK hE2
  gi_wp2
  unfold Calm bodyPostM
  have hc5:(W.putObj (L+2) (.deferred none)).cell? ⟨w.heap.size,0,none⟩=some (.int .i64 2):=(World.cell?_of_block (World.putObj_heap_other (by show w.heap.size≠L+2;omega))).trans (Za HE2.out 0 rfl)
  refine⟨by simp,.inl ⟨_,_,rfl,run_takeDeferred hdef,?_⟩⟩
  have HB9:Hid (Below w.heap.size w (W.putObj (L+2) (.deferred none))):=by
   have h1:=(HKh.out.mono (S':=fun x=>x<w.heap.size) (fun x _ hx=>⟨by omega,by omega,by omega⟩)).putObj (r:=L+2) (by show ¬ L+2<w.heap.size;omega) (.deferred none)
   exact HW6.out.trans (h1.below_of (fun _ h=>h) (by omega))
  exact⟨.int .i64 2,by simp[results,Tryz.f80,go_sem,hc5],2,rfl,.inr ⟨HN,rfl⟩,HB9.out⟩
theorem ZkQ {v:Value} {bs:List BB} {w:World} {p:Option Addr} {n c:Nat} (hv:BL w v bs) (hpv:v=.slice p n c) (hn:bs.length=n) (h2:2≤n) (h64:n≤64) (hf:bAt bs 0=ZbO)
  (hz:∀ x ∈ bs,(x.1.1.size≤1000000∧x.1.2.size≤1000000)∧(x.2.1.size≤1000000∧x.2.2.size≤1000000)) (hD:DetV w) (hT:Tabs w):∃ b off,p=some ⟨b,off,none⟩∧CurveIn b off (n-1) c bs w:=by
 subst hpv
 obtain⟨b,off,rfl,hb,hat⟩:=hv.at hn (by omega)
 obtain⟨_,hc,hnc⟩:=hv.len
 refine⟨b,off,rfl,by omega,by omega,by omega,⟨by omega,hc⟩,hf,hz,hb,fun W hW k hk=>hat W hW k (by omega),hD,hT⟩
theorem ZdQ {v:Value} {bs:List BB} {w:World} (hv:BL w v bs) (hz:∀ x ∈ bs,(x.1.1.size≤1000000∧x.1.2.size≤1000000)∧(x.2.1.size≤1000000∧x.2.2.size≤1000000)) (hD:DetV w) (hT:Tabs w) :
  Calls Tryz.prog 80 #[v] w (Zcc bs w):=by
 obtain⟨n,hn⟩:=ZnX bs.length
 obtain⟨p,c,rfl⟩:∃ p c,v=.slice p n c:=by obtain⟨p,c,h,_⟩:=id hv;exact⟨_,_,by rw[← hn];exact h⟩
 obtain⟨_,hc,hnc⟩:=hv.len
 by_cases h:2≤n∧n≤64
 ·obtain⟨h2,h64⟩:=h
  by_cases hf:bAt bs 0=ZbO
  ·obtain⟨b,off,rfl,hI⟩:=ZkQ hv rfl hn h2 h64 hf hz hD hT
   obtain⟨r,rfl⟩:∃ r,n=r+1:=⟨n-1,by omega⟩
   rw[Nat.add_sub_cancel] at hI
   by_cases hs:∃ k,k<r+1∧ZaL bs k=true
   ·exact ZiR hI hs
   ·have hs2:∀ k,k<r+1→ZaL bs k=false:=fun k hk=>by
     cases h:ZaL bs k with
     | false=>rfl
     | true=>exact absurd ⟨k,hk,h⟩ hs
    by_cases hx:hR bs r≤1
    ·exact ZkC hI hs2 hx
    ·exact Zlm hI hs2 (by grind)
  ·obtain⟨b,off,rfl,hb,hat⟩:=hv.at hn (by omega)
   obtain⟨⟨⟨s,t⟩,u,v⟩,hq⟩:∃ q,bAt bs 0=q:=⟨_,rfl⟩
   refine Zji hn h2 h64 hq ?_ hf fun W hW=>?_
   ·intro a1 a2 a3 a4
    refine hf ?_
    rw[hq]
    rw[ByteArray.toList_eq] at a1 a2 a3 a4
    have e1:s=⟨#[48]⟩:=by rw[← ZaN s,a1];rfl
    have e2:t=⟨#[49]⟩:=by rw[← ZaN t,a2];rfl
    have e3:u=⟨#[48]⟩:=by rw[← ZaN u,a3];rfl
    have e4:v=⟨#[49]⟩:=by rw[← ZaN v,a4];rfl
    rw[e1,e2,e3,e4]
   ·have h1:=hat W hW 0 (by omega)
    rw[hq,Nat.zero_mul,Nat.add_zero] at h1
    have hd:=hD.below hW ZnW
    exact⟨h1,hd.z0,hd.z1⟩
 ·refine ZlT hn (by omega) ?_
  rw[Bool.and_eq_false_iff,decide_eq_false_iff_not,decide_eq_false_iff_not]
  omega
end Go.Proofs.YtmpaflidennnoaaGreatDoor
