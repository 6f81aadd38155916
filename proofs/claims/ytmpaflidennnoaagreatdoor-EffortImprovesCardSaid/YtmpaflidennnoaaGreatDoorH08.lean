/- The parts CurveC, Piece, DRight, Env, StepsT, StepsP. -/
import Derived.Test.YtmpaflidennnoaaGreatDoorH07
set_option maxRecDepth 100000
set_option maxHeartbeats 8000000
set_option linter.unusedVariables false
set_option linter.unusedSimpArgs false
namespace Go.Proofs.YtmpaflidennnoaaGreatDoor
open Go.RowKit Go.Shelf
attribute [local go_sem ↓] Go.wp_at_zero Go.wp_at_succ
attribute [local go_sem] Oper.semAt_some
theorem Zhw {a b:Rat} (h:a<b):¬ (0:Int)<=sgnR a b:=by unfold sgnR;rw[if_pos h];decide
theorem Zg9 {a b:Rat} (h:¬ a<b):(0:Int)<=sgnR a b:=by unfold sgnR;rw[if_neg h];split<;>decide
theorem ZbA {a b:Rat} (h:a<=b):¬ (0:Int)<sgnR a b:=by
 unfold sgnR
 split
 ·decide
 ·split
  ·decide
  ·grind
theorem Zby {a b:Rat} (h:¬ a<=b):(0:Int)<sgnR a b:=by
 unfold sgnR
 rw[if_neg Zk,if_neg Zk]
 decide
def Zfq (bs:List BB) (k B:Nat) (pl:Option Addr) (W:World):Prop:=
 (k=0/\pl=none)\/∃ g x y j,k=j+1/\pl=some ⟨g,0,none⟩/\B<=g/\W.heap[g]?=some (pObj x y)/\IsP (slp (cR bs) (hR bs) j) x y
theorem Zfq.keeps {bs:List BB} {k B:Nat} {pl:Option Addr} {W W':World} {S:Nat->Prop} (h:Zfq bs k B pl W) (hk:Keeps S W W') (hS:∀ g,B<=g->S g):Zfq bs k B pl W':=by
 rcases h with h | ⟨g,x,y,j,h1,h2,h3,h4,h5⟩
 ·exact .inl h
 ·exact .inr ⟨g,x,y,j,h1,h2,h3,(hk.block g (Zpu h4) (hS g h3)).trans h4,h5⟩
abbrev lO (pl:Option Addr):Obj:=.cells #[.pointer pl] 167
abbrev SW (L G g:Nat) (x y x' y':ByteArray) (V:World):Prop:=V.cell? ⟨L,0,none⟩=some (.pointer (some ⟨g,0,none⟩))/\V.cell? ⟨G,0,none⟩=some (.string x)/\V.cell? ⟨G,1,none⟩=some (.string y)/\V.cell? ⟨g,0,none⟩=some (.string x')/\V.cell? ⟨g,1,none⟩=some (.string y')
def ZoI (bs:List BB) (L:Nat) (w6:World) (k:Nat) (W:World):Prop:=
 Pieces bs k/\(∃ pl,W.heap[L]?=some (lO pl)/\Zfq bs k (L+4) pl W)/\Keeps (fun b=>b<L+2/\b≠L) w6 W
def ZoA (bs:List BB) (E L:Nat) (w6:World) (c:Code) (W:World):Prop:=
 c=.ret/\¬ CurveP bs/\W.heap[E]?=some (.cells #[.int .i64 2] 30)/\Keeps (fun b=>b<L+2/\b≠L/\b≠E) w6 W
def BoxB (bs:List BB) (B:Nat) (a1:Nat->Nat->Act) (k:Nat) (a':Act) (W:World):Prop:=
 ∃ A,B<=A/\a'=a1 k A/\W.heap[A]?=some (bObj (bAt bs k))/\W.heap[A+1]?=some (bObj (bAt bs (k+1)))
theorem Zlj {b off r c:Nat} {bs:List BB} {w:World} (hI:CurveIn b off r c bs w) (hs:∀ k,k<r+1->Za0 bs k=false) (hx:hR bs r<=1) :
  Calls Tryz.prog 80 #[.slice (some ⟨b,off,none⟩) (r+1) c] w (ZcA bs w):=by
 have hsm:=hs r Za
 unfold Za0 at hsm
 simp only[Bool.not_eq_false',Zpj] at hsm
 have HP:=Zpz (ZbF hsm.2).1
 obtain⟨g,hg⟩:=ZpB (sgnR (hR bs r) 1)
 have HG:=Zpz hg
 have hg0:¬ (0:Int)<g:=by
  rw[<- hg]
  unfold sgnR
  split
  ·decide
  ·split
   ·decide
   ·grind
 have HS0:=Zpz hs
 have HX:=Zpz hx
 have HI:=Zpz hI
 have hr:=hI.most
 have e1:Hid (IntKind.i64.wrap (r:Int)=(r:Int)):=Zpm _ Za
 clear hI hx hs hsm hg
 refine ZcS Tryz.func80 rfl ?_
 simp only[Tryz.ntmps80,Nat.reduceAdd,Nat.reduceSub,Zpy]
 have HS:Hid (∀ W,Below w.heap.size w W->SF b off ⟨#[48]⟩ ⟨#[49]⟩ ⟨#[48]⟩ ⟨#[49]⟩ W):=fun W hW=>HI.out.sf hW
 have H:Hid ((decide ((2:Int)<=(r:Int)+1) && decide ((r:Int)+1<=64))=true):=by show _=_;have:=HI.out.two;have:=HI.out.most;simp;omega
 go_wp2
 have hbx:((w.alloc (.cells #[.int .i64 0] 30)).drew).heap[w.heap.size]?=some (.cells #[.int .i64 0] 30):=ZoO w _
 have hb0:Below w.heap.size w ((w.alloc (.cells #[.int .i64 0] 30)).drew):=((ZoL _ w).alloc ZpA _).drew
 obtain⟨w1,hw1⟩:=ZpB (w.alloc (.cells #[.int .i64 0] 30))
 rw[hw1] at hbx hb0 ⊢
 have hSF:=HS.out _ hb0
 refine Zag [(true,0),(true,1),(false,2),(true,3),(true,4),(true,5),(true,6),(true,7),(true,8),(true,9),(true,10),(true,11),(true,12)] (SF b off ⟨#[48]⟩ ⟨#[49]⟩ ⟨#[48]⟩ ⟨#[49]⟩) (fun _=>false)
  Zb Zb (fun _ _=>rfl) Zi hSF ?_
 iterate 2
  refine Zr _ rfl rfl (fun w' hS=>Zf) ?_
  simp only[Act.put,Zl]
 refine Zt rfl rfl fun K hK=>?_
 go_simp
 go_at_call 128
 refine(ZbJ _ 2 64 _).mono ?_
 rintro e w2 ⟨rfl,hb⟩
 rw[H.out]
 have hbx2:w2.heap[w.heap.size]?=some (.cells #[.int .i64 0] 30):=(hb.block _ (Zpu hbx)).trans hbx
 have HB2:Zpt w w2:=hb0.trans (hb.mono hb0.size)
 have HX2:=Zpz hbx2
 have hSF2:=HS.out _ HB2.out
 refine hK _ _ (.inr hSF2) ?_
 clear hK K hb hbx hb0 hbx2 hw1 hSF hSF2
 iterate 10
  refine Zr _ rfl rfl (fun w' hS=>by obtain⟨⟨a0,a1,a2,a3⟩,z0,z1⟩:=hS;exact Ze) ?_
  simp only[Act.put,Zl]
 refine ZI ?_
 go_wp2
 refine Zag [(true,0),(false,1),(true,2),(true,3),(true,4),(true,5),(true,6),(true,7),(true,8),(true,9),(true,10),(false,11),(true,12),(true,13)] (SL2 b (off+r*4) (bAt bs r).2.1 (bAt bs r).2.2) (fun _=>false)
  Zb Zb (fun _ _=>rfl) Zi (HI.out.sl HB2.out.drew) ?_
 iterate 1
  refine Zr _ rfl rfl (fun w' hS=>by obtain⟨⟨a0,a1⟩,z0,z1⟩:=hS;go_simp;(try simp only[e1.out,Int.toNat_natCast]);first | rfl | (rw[if_pos Za])) ?_
  simp only[Act.put,Zl]
 refine Zt rfl rfl fun K hK=>?_
 go_simp
 go_at_call 129
 refine(HI.out.cf HB2.out.drew).mono ?_
 rintro e w3 ⟨q,rfl,hE,hb⟩
 have HB3:Zpt w w3:=HB2.out.drew.trans (hb.mono HB2.out.drew.size)
 have HX3:Hid (w3.heap[w.heap.size]?=some (.cells #[.int .i64 0] 30)):=(hb.block _ (Zpu HX2.out)).trans HX2.out
 rcases hE with ⟨_,k,hk,h2⟩ | ⟨rfl,_⟩
 ·rw[HS0.out k hk] at h2
  cases h2
 refine hK _ _ (.inr (HI.out.sl HB3.out)) ?_
 clear hK K hb
 iterate 9
  refine Zr _ rfl rfl (fun w' hS=>by obtain⟨⟨a0,a1⟩,z0,z1⟩:=hS;go_simp;(try simp only[e1.out,Int.toNat_natCast]);first | rfl | (rw[if_pos Za])) ?_
  simp only[Act.put,Zl]
 refine Zt rfl rfl fun K hK=>?_
 go_simp
 go_at_call 22
 refine(ZbC HP.out ZfJ HG.out _).mono ?_
 rintro e w4 ⟨rfl,hb⟩
 have HB4:Zpt w w4:=HB3.out.trans (hb.mono HB3.out.size)
 have HX4:Hid (w4.heap[w.heap.size]?=some (.cells #[.int .i64 0] 30)):=(hb.block _ (Zpu HX3.out)).trans HX3.out
 refine hK _ _ (.inr (HI.out.sl HB4.out)) ?_
 clear hK K hb
 iterate 2
  refine Zr _ rfl rfl (fun w' hS=>by obtain⟨⟨a0,a1⟩,z0,z1⟩:=hS;go_simp;(try simp only[e1.out,Int.toNat_natCast]);first | rfl | (rw[if_pos Za])) ?_
  simp only[Act.put,Zl]
 refine ZI ?_
 go_wp2_with fail
 refine(ZhK _ _ _ _).mono ?_
 rintro e w' ⟨rfl,rfl⟩
 obtain⟨L,hL⟩:=ZpB w4.heap.size
 obtain⟨w6,hw6⟩:=ZpB ((w4.alloc (.cells #[.pointer none] 167)).alloc (.cells #[.slice (some ⟨b,off,none⟩) (r+1) c] 72))
 rw[Zpa,hw6,hL]
 have hEL:w.heap.size<L:=by rw[<- hL];exact(Zpu HX4.out)
 have hD:w6.heap.size=L+2:=by rw[<- hw6];simp[hL]
 have HB6:Zpt w4 w6:=by rw[<- hw6];exact((ZoL _ w4).alloc ZpA _).alloc Zc _
 have HL6:Hid (w6.heap[L]?=some (lO none)):=by rw[<- hw6,<- hL];exact(Zo1 _ _ _ Zc).trans (ZoO w4 _)
 have HS6:Hid (w6.cell? ⟨L+1,0,none⟩=some (.slice (some ⟨b,off,none⟩) (r+1) c)):=by rw[<- hw6];exact ZK _ _ _ _ (by simp[hL])
 have HE6:Hid (w6.heap[w.heap.size]?=some (.cells #[.int .i64 0] 30)):=(HB6.out.block _ (by rw[hL];exact hEL)).trans HX4.out
 have hbE:b<w.heap.size:=HI.out.lt
 have HC6:Hid (ZcN b off (r+1) bs w6):=HI.out.cells _ (HB4.out.trans (HB6.out.mono HB4.out.size))
 have HW6:Zpt w w6:=HB4.out.trans (HB6.out.mono HB4.out.size)
 clear hw6 hL
 go_wp2
 refine(wpIn_wide (n:=9)).1 ?_
 refine Zec (L+2) hD (gf:=179) (lb:=#[.pointer (some ⟨L+1,0,none⟩)]) (f:=fun k=>#[bV (bAt bs k),bV (bAt bs (k+1))]) (N:=r)
  (S:=fun x=>x<L+2/\x≠L/\x≠w.heap.size) (T:=fun _=>True)
  rfl (enters_of Tryz.func179 Zb rfl) (fun _=>rfl) ?iter (fun _ h=>h.1) ⟨trivial,trivial⟩
  (ZoI bs L w6) (fun c _ W=>ZoA bs w.heap.size L w6 c W) ?ci ?cx ?start
  (BoxB bs (L+4) ?a1) ?cb ?assign ?body ?done ?stop
 case iter=>
  have:=Zg1 (L+1) b off (r+1) c (fun x=>x<L+2/\x≠L/\x≠w.heap.size) bs (by have:=HI.out.two;omega) Za HI.out.cap.1 HI.out.cap.2 w6 ⟨Za,Za,Za⟩ ⟨Za,Za,Za⟩ HS6.out HC6.out
  rwa [Zpe] at this
 case ci=>
  rintro k W1 W2 ⟨h1,⟨pl,h2,h3⟩,h4⟩ hk
  exact⟨h1,⟨pl,(hk.block _ (Zpu h2) ⟨trivial,Za,Za⟩).trans h2,h3.keeps hk fun g hg=>⟨trivial,Za,Za⟩⟩,h4.trans (hk.mono fun x _ hx=>⟨trivial,Za,Za⟩)⟩
 case cx=>
  rintro cd k W1 W2 ⟨h1,h2,h3,h4⟩ hk
  exact⟨h1,h2,(hk.block _ (Zpu h3) ⟨trivial,Za,Za⟩).trans h3,h4.trans (hk.mono fun x _ hx=>⟨trivial,Za,Za⟩)⟩
 case start=>exact⟨Pieces.zero bs,⟨none,HL6.out,.inl ⟨rfl,rfl⟩⟩,Keeps.refl _ _⟩
 case cb=>
  rintro k a' W1 W2 ⟨A,h1,h2,h3,h4⟩ hk
  exact⟨A,h1,h2,(hk.block _ (Zpu h3) ⟨Za,Za⟩).trans h3,(hk.block _ (Zpu h4) ⟨Za,Za⟩).trans h4⟩
 case assign=>
  intro l k W hk hW
  gi_wp2
  have h1:((W.alloc (bObj (bAt bs k))).alloc (bObj (bAt bs (k+1)))).heap[W.heap.size]?=some (bObj (bAt bs k)):=(Zo1 _ _ _ Zc).trans (ZoO W _)
  have h2:((W.alloc (bObj (bAt bs k))).alloc (bObj (bAt bs (k+1)))).heap[W.heap.size+1]?=some (bObj (bAt bs (k+1))):=by
   have:=ZoO (W.alloc (bObj (bAt bs k))) (bObj (bAt bs (k+1)))
   rwa [Zpa] at this
  have hkk:Keeps (fun _=>True) W ((W.alloc (bObj (bAt bs k))).alloc (bObj (bAt bs (k+1)))):=((Keeps.refl _ W).alloc _).alloc _
  obtain⟨V,hV⟩:=ZpB ((W.alloc (bObj (bAt bs k))).alloc (bObj (bAt bs (k+1))))
  rw[hV] at h1 h2 hkk
  obtain⟨A,hA⟩:=ZpB W.heap.size
  rw[hA] at h1 h2
  simp only[hV,hA,Zpa]
  refine⟨hkk,A,Za,?_,h1,h2⟩
  clear hkk h1 h2 hV hA hW
  exact rfl
 case body=>
  have hfn:∀ k,Fence.wide.fn k:=fun _=>trivial
  rintro l k a' W hk ⟨HPi,⟨pl,HLb,HLa⟩,HK⟩ ⟨A,hA,rfl,hA0,hA1⟩ hW
  have hsm:∀ i,i<r+1->Zw 18 (bAt bs i).1=true/\Zw 18 (bAt bs i).2=true:=fun i hi=>by
   have:=HS0.out i hi
   unfold Za0 at this
   simpa using this
  have z0:=hsm k Za
  have z1:=hsm (k+1) Za
  have C0:=ZbF z0.1
  have H0:=ZbF z0.2
  have C1:=ZbF z1.1
  have H1:=ZbF z1.2
  change IsP (cR bs k) _ _/\Sz 18 (cR bs k) at C0
  change IsP (hR bs k) _ _/\Sz 18 (hR bs k) at H0
  change IsP (cR bs (k+1)) _ _/\Sz 18 (cR bs (k+1)) at C1
  change IsP (hR bs (k+1)) _ _/\Sz 18 (hR bs (k+1)) at H1
  have HZ:Hid ((Sz 18 (cR bs k)/\Sz 18 (hR bs k))/\(Sz 18 (cR bs (k+1))/\Sz 18 (hR bs (k+1)))/\0<=cR bs k/\0<=hR bs k):=⟨⟨C0.2,H0.2⟩,⟨C1.2,H1.2⟩,C0.1.nn,H0.1.nn⟩
  have IC0:=Zpz C0.1
  have IH0:=Zpz H0.1
  have IC1:=Zpz C1.1
  have IH1:=Zpz H1.1
  have HN1:Hid (¬ (cR bs k<cR bs (k+1)/\hR bs k<=hR bs (k+1))->¬ CurveP bs):=fun h hc=>h (hc.up k (by rw[HI.out.len];omega))
  have HN2:Hid (∀ j,j+1=k->¬ slp (cR bs) (hR bs) (j+1)<=slp (cR bs) (hR bs) j->¬ CurveP bs):=fun j hj h hc=>h (hc.conc j (by rw[HI.out.len];omega))
  clear z0 z1 C0 H0 C1 H1 hsm
  have HBW:Zpt w W:=HW6.out.trans (HK.below_of (fun x hx=>⟨Za,Za⟩) Za)
  have HEW:Hid (W.heap[w.heap.size]?=some (.cells #[.int .i64 0] 30)):=(HK.block _ Za ⟨Za,Za⟩).trans HE6.out
  obtain⟨q0,hq0⟩:=ZpB (bAt bs k)
  obtain⟨q1,hq1⟩:=ZpB (bAt bs (k+1))
  rw[hq0] at hA0 IC0 IH0
  rw[hq1] at hA1 IC1 IH1
  obtain⟨⟨s0,t0⟩,u0,v0⟩:=q0
  obtain⟨⟨s1,t1⟩,u1,v1⟩:=q1
  dsimp only at IC0 IH0 IC1 IH1
  dsimp only
  rw[hq0,hq1]
  have HA:Hid (W.heap[A]?=some (bO s0 t0 u0 v0)/\W.heap[A+1]?=some (bO s1 t1 u1 v1)):=⟨hA0,hA1⟩
  have HLh:Hid (W.heap[L]?=some (lO pl)/\Zfq bs k (L+4) pl W):=⟨HLb,HLa⟩
  have HKh:=Zpz HK
  have HPh:=Zpz HPi
  clear HPi HLb HLa HK hA0 hA1 hq0 hq1
  obtain⟨g1,hg1⟩:=ZpB (sgnR (cR bs k) (cR bs (k+1)))
  have HG1:=Zpz hg1
  obtain⟨E,hEe⟩:=ZpB w.heap.size
  have HEE:=Zpz hEe
  rw[hEe] at HEW hEL ⊢
  clear hEe
  have a0:W.cell? ⟨A,0,none⟩=some (.string s0):=Zn HA.out.1 0 rfl
  have a1:W.cell? ⟨A,1,none⟩=some (.string t0):=Zn HA.out.1 1 rfl
  have a2:W.cell? ⟨A,2,none⟩=some (.string u0):=Zn HA.out.1 2 rfl
  have a3:W.cell? ⟨A,3,none⟩=some (.string v0):=Zn HA.out.1 3 rfl
  have b0:W.cell? ⟨A+1,0,none⟩=some (.string s1):=Zn HA.out.2 0 rfl
  have b1:W.cell? ⟨A+1,1,none⟩=some (.string t1):=Zn HA.out.2 1 rfl
  have b2:W.cell? ⟨A+1,2,none⟩=some (.string u1):=Zn HA.out.2 2 rfl
  have b3:W.cell? ⟨A+1,3,none⟩=some (.string v1):=Zn HA.out.2 3 rfl
  by_cases hc1:cR bs k<cR bs (k+1)
  ·have hge:¬ (0:Int)<=g1:=by rw[<- hg1];exact Zhw hc1
   obtain⟨g2,hg2⟩:=ZpB (sgnR (hR bs k) (hR bs (k+1)))
   have HG2:=Zpz hg2
   clear hg1
   gi_wp2_with fail
   refine(CallsIn.inRound l (Zpf.2 (ZbC IC0.out IC1.out HG1.out _))).mono ?_
   rintro e W1 ⟨rfl,hb⟩
   have HA1:Hid (W1.heap[A]?=some (bO s0 t0 u0 v0)/\W1.heap[A+1]?=some (bO s1 t1 u1 v1)):=⟨(hb.block _ (Zpu HA.out.1)).trans HA.out.1,(hb.block _ (Zpu HA.out.2)).trans HA.out.2⟩
   have HV1:Zpt W W1:=hb
   clear a0 a1 a2 a3 b0 b1 b2 b3
   clear hb
   have a0:W1.cell? ⟨A,0,none⟩=some (.string s0):=Zn HA1.out.1 0 rfl
   have a1:W1.cell? ⟨A,1,none⟩=some (.string t0):=Zn HA1.out.1 1 rfl
   have a2:W1.cell? ⟨A,2,none⟩=some (.string u0):=Zn HA1.out.1 2 rfl
   have a3:W1.cell? ⟨A,3,none⟩=some (.string v0):=Zn HA1.out.1 3 rfl
   have b0:W1.cell? ⟨A+1,0,none⟩=some (.string s1):=Zn HA1.out.2 0 rfl
   have b1:W1.cell? ⟨A+1,1,none⟩=some (.string t1):=Zn HA1.out.2 1 rfl
   have b2:W1.cell? ⟨A+1,2,none⟩=some (.string u1):=Zn HA1.out.2 2 rfl
   have b3:W1.cell? ⟨A+1,3,none⟩=some (.string v1):=Zn HA1.out.2 3 rfl
   by_cases hc2:hR bs k<=hR bs (k+1)
   ·have hge2:¬ (0:Int)<g2:=by rw[<- hg2];exact ZbA hc2
    have HCC:Hid (cR bs k<cR bs (k+1)/\hR bs k<=hR bs (k+1)):=⟨hc1,hc2⟩
    clear hg2 hc1 hc2
    gi_wp2_with fail
    refine(CallsIn.inRound l (Zpf.2 (ZbC IH0.out IH1.out HG2.out _))).mono ?_
    rintro e W2 ⟨rfl,hb⟩
    have HA2:Hid (W2.heap[A]?=some (bO s0 t0 u0 v0)/\W2.heap[A+1]?=some (bO s1 t1 u1 v1)):=⟨(hb.block _ (Zpu HA1.out.1)).trans HA1.out.1,(hb.block _ (Zpu HA1.out.2)).trans HA1.out.2⟩
    have HV2:Zpt W W2:=HV1.out.trans (hb.mono HV1.out.size)
    clear a0 a1 a2 a3 b0 b1 b2 b3
    clear hb
    have a0:W2.cell? ⟨A,0,none⟩=some (.string s0):=Zn HA2.out.1 0 rfl
    have a1:W2.cell? ⟨A,1,none⟩=some (.string t0):=Zn HA2.out.1 1 rfl
    have a2:W2.cell? ⟨A,2,none⟩=some (.string u0):=Zn HA2.out.1 2 rfl
    have a3:W2.cell? ⟨A,3,none⟩=some (.string v0):=Zn HA2.out.1 3 rfl
    have b0:W2.cell? ⟨A+1,0,none⟩=some (.string s1):=Zn HA2.out.2 0 rfl
    have b1:W2.cell? ⟨A+1,1,none⟩=some (.string t1):=Zn HA2.out.2 1 rfl
    have b2:W2.cell? ⟨A+1,2,none⟩=some (.string u1):=Zn HA2.out.2 2 rfl
    have b3:W2.cell? ⟨A+1,3,none⟩=some (.string v1):=Zn HA2.out.2 3 rfl
    obtain⟨⟨x1,y1,j1⟩,⟨x2,y2,j2⟩,⟨x,y,j3⟩,j4,_,_⟩:=Zm0 HZ.out.2.2.2 HZ.out.2.2.1 HCC.out.1 HCC.out.2 HZ.out.1.2 HZ.out.2.1.2 HZ.out.1.1 HZ.out.2.1.1
    have HJ3:Hid (IsP (slp (cR bs) (hR bs) k) x y):=j3
    have HR:=Zpz (ZnW IC0.out IH0.out IC1.out IH1.out j1 j2 j3 j4 W2 (HI.out.tabs.below (HBW.out.trans (HV2.out.mono HBW.out.size)) ZpA))
    clear j1 j2 j3 j4
    gi_wp2_with fail
    refine(CallsIn.inRound l (Zpf.2 HR.out)).mono ?_
    rintro e W3 ⟨rfl,hb⟩
    have HV3:Zpt W W3:=HV2.out.trans (hb.mono HV2.out.size)
    clear hb HR
    clear a0 a1 a2 a3 b0 b1 b2 b3
    obtain⟨G,hG⟩:=ZpB W3.heap.size
    gi_wp2
    have hGL:L+4<=G:=by rw[<- hG];have:=HV3.out.size;omega
    obtain⟨W4,hW4⟩:=ZpB (W3.alloc (pObj x y))
    have HV4:Zpt W W4:=by rw[<- hW4];exact HV3.out.alloc HV3.out.size _
    have HG4:Hid (W4.heap[G]?=some (pObj x y)):=by rw[<- hW4,<- hG];exact ZoO W3 _
    have HL4:Hid (W4.heap[L]?=some (lO pl)):=(HV4.out.block _ Za).trans HLh.out.1
    have HLa4:=HLh.out.2.keeps (HV4.out.keepsAll (fun _=>True)) (fun _ _=>trivial)
    rw[hW4]
    clear hW4 hG HLh
    rcases HLa4 with ⟨h0,rfl⟩ | ⟨g',x',y',j,rfl,rfl,hgl,hgx,hgp⟩
    ·have HQ:Hid (∀ i,i+1=k->slp (cR bs) (hR bs) (i+1)<=slp (cR bs) (hR bs) i):=fun i hi=>Za
     have c0:W4.cell? ⟨L,0,none⟩=some (.pointer none):=Zn HL4.out 0 rfl
     refine ZaO [(true,0),(true,1),(true,2),(true,3),(true,4),(true,5),(true,6),(false,7),(true,8),(true,9)] (fun w'=>w'.cell? ⟨L,0,none⟩=some (.pointer none)) (fun _=>false)
      Zb Zb (fun _ _=>rfl) Zi (fun _ _ h=>h) c0 ?_
     iterate 3
      refine Zr _ rfl rfl (fun w' hS=>Zf) ?_
      simp only[Act.put,Zl]
     iterate 4
      refine ZR rfl rfl ?_
      simp only[Act.put,Zl]
     refine Z0 rfl rfl c0 ?_
     simp only[Act.put,Zl]
     iterate 1
      refine ZR rfl rfl ?_
      simp only[Act.put,Zl]
     iterate 1
      refine Zr _ rfl rfl (fun w' hS=>Zf) ?_
      simp only[Act.put,Zl]
     refine ZI ?_
     have c0:W4.drew.cell? ⟨L,0,none⟩=some (.pointer none):=c0
     have f0:W4.drew.frozen? ⟨L,0,none⟩=false:=Zo (w:=W4.drew) HL4.out 0
     have HLV:Hid (W4.drew.heap[L]?=some (lO none)):=HL4.out
     have HGV:Hid (W4.drew.heap[G]?=some (pObj x y)):=HG4.out
     have hb:=HV4.out.drew
     have HKV:Hid (∀ S':Nat->Prop,Keeps S' W (W4.drew)):=fun S'=>hb.keepsAll S'
     clear hb
     gi_wp2
     have nL:¬ (fun x=>(x<L+2/\x≠L/\x≠E)\/x=L+2\/x=L+2+1) L:=fun h=>by rcases h with ⟨_,h,_⟩ | h | h<;>omega
     refine⟨(HKV.out _).setCell (p:=⟨L,0,none⟩) nL _,HPh.out.succ HCC.out HQ.out,⟨some ⟨G,0,none⟩,ZoQ HLV.out _,.inr ⟨G,x,y,_,rfl,rfl,hGL,(ZoN _ _ _ _ (by show G≠L;omega)).trans HGV.out,HJ3.out⟩⟩,(HKh.out.trans (HKV.out _)).setCell (p:=⟨L,0,none⟩) Zc _⟩
    ·obtain⟨g3,hg3⟩:=ZpB (sgnR (slp (cR bs) (hR bs) (j+1)) (slp (cR bs) (hR bs) j))
     have HG3:=Zpz hg3
     have HGP:=Zpz hgp
     have c0:W4.cell? ⟨L,0,none⟩=some (.pointer (some ⟨g',0,none⟩)):=Zn HL4.out 0 rfl
     have d0:W4.cell? ⟨G,0,none⟩=some (.string x):=Zn HG4.out 0 rfl
     have d1:W4.cell? ⟨G,1,none⟩=some (.string y):=Zn HG4.out 1 rfl
     have p0:W4.cell? ⟨g',0,none⟩=some (.string x'):=Zn hgx 0 rfl
     have p1:W4.cell? ⟨g',1,none⟩=some (.string y'):=Zn hgx 1 rfl
     have HS4:Hid (∀ V,Below W4.heap.size W4 V->SW L G g' x y x' y' V):=fun V hV=>by
      have e1:=hV.block L (Zpu HL4.out)
      have e2:=hV.block G (Zpu HG4.out)
      have e3:=hV.block g' (Zpu hgx)
      exact⟨(Zo3 e1).trans c0,(Zo3 e2).trans d0,(Zo3 e2).trans d1,(Zo3 e3).trans p0,(Zo3 e3).trans p1⟩
     clear c0 d0 d1 p0 p1 hgp hgx
     refine ZaO [(true,0),(true,1),(true,2),(true,3),(true,4),(true,5),(true,6),(false,7),(true,8),(true,9)] (SW L G g' x y x' y') (fun _=>false)
      Zb Zb (fun _ _=>rfl) Zi (fun _ _ h=>h) (HS4.out _ (ZoL _ W4).drew) ?_
     iterate 7
      refine Zr _ rfl rfl (fun w' hS=>by obtain⟨c0,d0,d1,p0,p1⟩:=hS;exact Zf) ?_
      simp only[Act.put,Zl]
     refine Zt rfl rfl fun K hK=>?_
     go_simp
     go_at_call 22
     refine(ZbC HJ3.out HGP.out HG3.out _).mono ?_
     rintro e W5 ⟨rfl,hb⟩
     have hb4:Below W4.heap.size W4 W5:=(ZoL _ W4).drew.trans hb
     have HLV:Hid (W5.heap[L]?=some (lO (some ⟨g',0,none⟩))):=(hb4.block _ (Zpu HL4.out)).trans HL4.out
     have HGV:Hid (W5.heap[G]?=some (pObj x y)):=(hb4.block _ (Zpu HG4.out)).trans HG4.out
     have HV5:Zpt W W5:=HV4.out.trans (hb4.mono HV4.out.size)
     refine hK _ _ (.inr (HS4.out _ hb4)) ?_
     clear hK K hb hb4
     iterate 2
      refine Zr _ rfl rfl (fun w' hS=>by obtain⟨c0,d0,d1,p0,p1⟩:=hS;exact Zf) ?_
      simp only[Act.put,Zl]
     refine ZI ?_
     by_cases hc3:slp (cR bs) (hR bs) (j+1)<=slp (cR bs) (hR bs) j
     ·have HQ:Hid (∀ i,i+1=j+1->slp (cR bs) (hR bs) (i+1)<=slp (cR bs) (hR bs) i):=fun i hi=>by
       obtain rfl:i=j:=Za
       exact hc3
      have hge3:¬ (0:Int)<g3:=by rw[<- hg3];exact ZbA hc3
      clear hg3 hc3
      have c0:W5.cell? ⟨L,0,none⟩=some (.pointer (some ⟨g',0,none⟩)):=Zn HLV.out 0 rfl
      have f0:W5.frozen? ⟨L,0,none⟩=false:=Zo HLV.out 0
      have hb:=HV5.out
      have HKV:Hid (∀ S':Nat->Prop,Keeps S' W (W5)):=fun S'=>hb.keepsAll S'
      clear hb
      gi_wp2
      have nL:¬ (fun x=>(x<L+2/\x≠L/\x≠E)\/x=L+2\/x=L+2+1) L:=fun h=>by rcases h with ⟨_,h,_⟩ | h | h<;>omega
      refine⟨(HKV.out _).setCell (p:=⟨L,0,none⟩) nL _,HPh.out.succ HCC.out HQ.out,⟨some ⟨G,0,none⟩,ZoQ HLV.out _,.inr ⟨G,x,y,_,rfl,rfl,hGL,(ZoN _ _ _ _ (by show G≠L;omega)).trans HGV.out,HJ3.out⟩⟩,(HKh.out.trans (HKV.out _)).setCell (p:=⟨L,0,none⟩) Zc _⟩
     ·have hge3:(0:Int)<g3:=by rw[<- hg3];exact Zby hc3
      have HN:Hid (¬ CurveP bs):=HN2.out j rfl hc3
      clear hg3 hc3
      have hb:=HV5.out
      have hEV:W5.heap[E]?=some (.cells #[.int .i64 0] 30):=(hb.block _ (Zpu HEW.out)).trans HEW.out
      have e0:=Zn hEV 0 rfl
      have ef:=Zo hEV 0
      have HEV:=Zpz hEV
      have HKV:Hid (∀ S':Nat->Prop,Keeps S' W W5):=fun S'=>hb.keepsAll S'
      clear hb hEV
      gi_wp2
      have nE:¬ (fun x=>(x<L+2/\x≠L/\x≠E)\/x=L+2\/x=L+2+1) E:=by simp;omega
      refine⟨(HKV.out _).setCell (p:=⟨E,0,none⟩) nE _,rfl,HN.out,ZoQ HEV.out _,((HKh.out.mono fun x _ hx=>⟨hx.1,hx.2.1⟩).trans (HKV.out _)).setCell (p:=⟨E,0,none⟩) Zc _⟩
   ·have hge2:(0:Int)<g2:=by rw[<- hg2];exact Zby hc2
    have HN:Hid (¬ CurveP bs):=HN1.out fun h=>hc2 h.2
    have HEW1:Hid (W1.heap[E]?=some (.cells #[.int .i64 0] 30)):=(HV1.out.block _ (Zpu HEW.out)).trans HEW.out
    clear hg2 hc1 hc2
    gi_wp2_with fail
    refine(CallsIn.inRound l (Zpf.2 (ZbC IH0.out IH1.out HG2.out _))).mono ?_
    rintro e W2 ⟨rfl,hb⟩
    have hb:Below W.heap.size W W2:=HV1.out.trans (hb.mono HV1.out.size)
    have hEV:W2.heap[E]?=some (.cells #[.int .i64 0] 30):=(hb.block _ (Zpu HEW.out)).trans HEW.out
    have e0:=Zn hEV 0 rfl
    have ef:=Zo hEV 0
    have HEV:=Zpz hEV
    have HKV:Hid (∀ S':Nat->Prop,Keeps S' W W2):=fun S'=>hb.keepsAll S'
    clear hb hEV a0 a1 a2 a3 b0 b1 b2 b3
    gi_wp2
    have nE:¬ (fun x=>(x<L+2/\x≠L/\x≠E)\/x=L+2\/x=L+2+1) E:=by simp;omega
    refine⟨(HKV.out _).setCell (p:=⟨E,0,none⟩) nE _,rfl,HN.out,ZoQ HEV.out _,((HKh.out.mono fun x _ hx=>⟨hx.1,hx.2.1⟩).trans (HKV.out _)).setCell (p:=⟨E,0,none⟩) Zc _⟩
  ·have hge:(0:Int)<=g1:=by rw[<- hg1];exact Zg9 hc1
   have HN:Hid (¬ CurveP bs):=HN1.out fun h=>hc1 h.1
   clear hc1 hg1
   gi_wp2_with fail
   refine(CallsIn.inRound l (Zpf.2 (ZbC IC0.out IC1.out HG1.out _))).mono ?_
   rintro e W1 ⟨rfl,hb⟩
   have hEV:W1.heap[E]?=some (.cells #[.int .i64 0] 30):=(hb.block _ (Zpu HEW.out)).trans HEW.out
   have e0:=Zn hEV 0 rfl
   have ef:=Zo hEV 0
   have HEV:=Zpz hEV
   have HKV:Hid (∀ S':Nat->Prop,Keeps S' W W1):=fun S'=>hb.keepsAll S'
   clear hb hEV a0 a1 a2 a3 b0 b1 b2 b3
   gi_wp2
   have nE:¬ (fun x=>(x<L+2/\x≠L/\x≠E)\/x=L+2\/x=L+2+1) E:=by simp;omega
   refine⟨(HKV.out _).setCell (p:=⟨E,0,none⟩) nE _,rfl,HN.out,ZoQ HEV.out _,((HKh.out.mono fun x _ hx=>⟨hx.1,hx.2.1⟩).trans (HKV.out _)).setCell (p:=⟨E,0,none⟩) Zc _⟩
 case done=>
  rintro W ⟨HPi,_,HK⟩ hdef
  have hE0:W.heap[w.heap.size]?=some (.cells #[.int .i64 0] 30):=(HK.block _ Za ⟨Za,Za⟩).trans HE6.out
  have cr:=Zn hE0 0 rfl
  have fr:=Zo hE0 0
  have HE0:=Zpz hE0
  have HKh:=Zpz HK
  have HPh:=Zpz HPi
  clear HK hE0 HPi
  go_wp2
  have hdef':(W.setCell ⟨w.heap.size,0,none⟩ (.int .i64 0)).heap[L+2]?=some (.deferred (some [])):=(ZoN _ _ _ _ (by show L+2≠w.heap.size;omega)).trans hdef
  have hc5:((W.setCell ⟨w.heap.size,0,none⟩ (.int .i64 0)).putObj (L+2) (.deferred none)).cell? ⟨w.heap.size,0,none⟩=some (.int .i64 0):=
   (Zo3 (Zo4 (by show w.heap.size≠L+2;omega))).trans (Zn (ZoQ HE0.out _) 0 rfl)
  unfold Calm bodyPostM
  refine⟨Zc,.inl ⟨_,_,rfl,run_takeDeferred hdef',?_⟩⟩
  have HB9:Hid (Below w.heap.size w ((W.setCell ⟨w.heap.size,0,none⟩ (.int .i64 0)).putObj (L+2) (.deferred none))):=by
   have h1:=((HKh.out.mono (S':=fun x=>x<w.heap.size) (fun x _ hx=>⟨Za,Za⟩)).setCell (p:=⟨w.heap.size,0,none⟩) Zc (.int .i64 0)).putObj (r:=L+2) (by show ¬ L+2<w.heap.size;omega) (.deferred none)
   exact HW6.out.trans (h1.below_of (fun _ h=>h) Za)
  refine⟨.int .i64 0,by simp[results,Tryz.f80,go_sem,hc5],0,rfl,.inl ⟨?_,rfl⟩,HB9.out⟩
  have hsm:∀ i,i<bs.length->Zw 18 (bAt bs i).1=true/\Zw 18 (bAt bs i).2=true:=fun i hi=>by
   have:=HS0.out i (by rw[<- HI.out.len];exact hi)
   unfold Za0 at this
   simpa using this
  have hl:=HI.out.len
  have htw:=HI.out.two
  exact HPh.out.curve hl ⟨Za,Za⟩ HI.out.first hsm HX.out
 case stop=>
  rintro cd k W hk ⟨rfl,HN,hE2,HK⟩ hdef
  have HE2:=Zpz hE2
  have HKh:=Zpz HK
  clear HK hE2
  gi_wp2
  unfold Calm bodyPostM
  have hc5:(W.putObj (L+2) (.deferred none)).cell? ⟨w.heap.size,0,none⟩=some (.int .i64 2):=(Zo3 (Zo4 (by show w.heap.size≠L+2;omega))).trans (Zn HE2.out 0 rfl)
  refine⟨Zc,.inl ⟨_,_,rfl,run_takeDeferred hdef,?_⟩⟩
  have HB9:Hid (Below w.heap.size w (W.putObj (L+2) (.deferred none))):=by
   have h1:=(HKh.out.mono (S':=fun x=>x<w.heap.size) (fun x _ hx=>⟨Za,Za,Za⟩)).putObj (r:=L+2) (by show ¬ L+2<w.heap.size;omega) (.deferred none)
   exact HW6.out.trans (h1.below_of (fun _ h=>h) Za)
  exact⟨.int .i64 2,by simp[results,Tryz.f80,go_sem,hc5],2,rfl,.inr ⟨HN,rfl⟩,HB9.out⟩
theorem Zk1 {v:Value} {bs:List BB} {w:World} {p:Option Addr} {n c:Nat} (hv:BL w v bs) (hpv:v=.slice p n c) (hn:bs.length=n) (h2:2<=n) (h64:n<=64) (hf:bAt bs 0=Zcf)
  (hz:∀ x ∈ bs,(x.1.1.size<=1000000/\x.1.2.size<=1000000)/\(x.2.1.size<=1000000/\x.2.2.size<=1000000)) (hD:DetV w) (hT:Tabs w):∃ b off,p=some ⟨b,off,none⟩/\CurveIn b off (n-1) c bs w:=by
 subst hpv
 obtain⟨b,off,rfl,hb,hat⟩:=hv.at hn Za
 obtain⟨_,hc,hnc⟩:=hv.len
 refine⟨b,off,rfl,Za,Za,Za,⟨Za,hc⟩,hf,hz,hb,fun W hW k hk=>hat W hW k Za,hD,hT⟩
theorem Zen {v:Value} {bs:List BB} {w:World} (hv:BL w v bs) (hz:∀ x ∈ bs,(x.1.1.size<=1000000/\x.1.2.size<=1000000)/\(x.2.1.size<=1000000/\x.2.2.size<=1000000)) (hD:DetV w) (hT:Tabs w) :
  Calls Tryz.prog 80 #[v] w (ZcA bs w):=by
 obtain⟨n,hn⟩:=ZpB bs.length
 obtain⟨p,c,rfl⟩:∃ p c,v=.slice p n c:=by obtain⟨p,c,h,_⟩:=id hv;exact⟨_,_,by rw[<- hn];exact h⟩
 obtain⟨_,hc,hnc⟩:=hv.len
 by_cases h:2<=n/\n<=64
 ·obtain⟨h2,h64⟩:=h
  by_cases hf:bAt bs 0=Zcf
  ·obtain⟨b,off,rfl,hI⟩:=Zk1 hv rfl hn h2 h64 hf hz hD hT
   obtain⟨r,rfl⟩:∃ r,n=r+1:=⟨n-1,Za⟩
   rw[Zpe] at hI
   by_cases hs:∃ k,k<r+1/\Za0 bs k=true
   ·exact Zjq hI hs
   ·have hs2:∀ k,k<r+1->Za0 bs k=false:=fun k hk=>by
     cases h:Za0 bs k with
     | false=>rfl
     | true=>exact Zpp ⟨k,hk,h⟩ hs
    by_cases hx:hR bs r<=1
    ·exact Zlj hI hs2 hx
    ·exact ZlY hI hs2 Zk
  ·obtain⟨b,off,rfl,hb,hat⟩:=hv.at hn Za
   obtain⟨⟨⟨s,t⟩,u,v⟩,hq⟩:∃ q,bAt bs 0=q:=⟨_,rfl⟩
   refine ZjJ hn h2 h64 hq ?_ hf fun W hW=>?_
   ·intro a1 a2 a3 a4
    refine hf ?_
    rw[hq]
    rw[Zo8] at a1 a2 a3 a4
    have e1:s=⟨#[48]⟩:=by rw[<- Za1 s,a1];rfl
    have e2:t=⟨#[49]⟩:=by rw[<- Za1 t,a2];rfl
    have e3:u=⟨#[48]⟩:=by rw[<- Za1 u,a3];rfl
    have e4:v=⟨#[49]⟩:=by rw[<- Za1 v,a4];rfl
    rw[e1,e2,e3,e4]
   ·have h1:=hat W hW 0 Za
    rw[hq,Nat.zero_mul,Nat.add_zero] at h1
    have hd:=hD.below hW ZpA
    exact⟨h1,hd.z0,hd.z1⟩
 ·refine ZmA hn Za ?_
  rw[Bool.and_eq_false_iff,decide_eq_false_iff_not,decide_eq_false_iff_not]
  omega
def Zg2 (bs:List BB) (q:Rat) (i j:Nat) (inn:Bool):Prop:=Zbf bs.length (cR bs) q i/\((i+1<bs.length/\j=i+1/\inn=true)\/(i+1=bs.length/\j=i/\inn=false))
def Zmv (bs:List BB) (q:Rat) (w:World) (e:Ending) (w':World):Prop:=∃ i j inn,e=.returned (.tuple #[bV (bAt bs i),bV (bAt bs j),.bool inn])/\Zg2 bs q i j inn/\Below w.heap.size w w'
abbrev bE:Obj:=bO ⟨#[]⟩ ⟨#[]⟩ ⟨#[]⟩ ⟨#[]⟩
abbrev tO (b:Bool):Obj:=.cells #[.bool b] 4
def PcI (bs:List BB) (q:Rat) (P:Nat) (w6:World) (k:Nat) (W:World):Prop:=(∀ j,j<k->cR bs (j+1)<=q)/\Keeps (fun b=>b<P+5) w6 W
def PcX (bs:List BB) (q:Rat) (P:Nat) (w6:World) (c:Code) (k:Nat) (W:World):Prop:=
 c=.ret/\Zg2 bs q k (k+1) true/\W.heap[P+1]?=some (bObj (bAt bs k))/\W.heap[P+2]?=some (bObj (bAt bs (k+1)))/\W.heap[P+3]?=some (tO true)/\Keeps (fun b=>b<P) w6 W
theorem Zew {W:World} {g:Nat} {a b c d:ByteArray} (h:W.heap[g]?=some (bO a b c d)) (s t u v:ByteArray) :
  ((((W.setCell ⟨g,0,none⟩ (.string s)).setCell ⟨g,1,none⟩ (.string t)).setCell ⟨g,2,none⟩ (.string u)).setCell ⟨g,3,none⟩ (.string v)).heap[g]?=some (bO s t u v)/\
  (∀ k,k≠g->((((W.setCell ⟨g,0,none⟩ (.string s)).setCell ⟨g,1,none⟩ (.string t)).setCell ⟨g,2,none⟩ (.string u)).setCell ⟨g,3,none⟩ (.string v)).heap[k]?=W.heap[k]?)/\
  ∀ S:Nat->Prop,¬ S g->Keeps S W ((((W.setCell ⟨g,0,none⟩ (.string s)).setCell ⟨g,1,none⟩ (.string t)).setCell ⟨g,2,none⟩ (.string u)).setCell ⟨g,3,none⟩ (.string v)):=
 ⟨ZoQ (ZoQ (ZoQ (ZoQ h _) _) _) _,
  fun k hk=>(ZoN _ _ _ _ hk).trans ((ZoN _ _ _ _ hk).trans ((ZoN _ _ _ _ hk).trans (ZoN _ _ _ _ hk))),
  fun S hS=>((((Keeps.refl S W).setCell (p:=⟨g,0,none⟩) hS _).setCell (p:=⟨g,1,none⟩) hS _).setCell (p:=⟨g,2,none⟩) hS _).setCell (p:=⟨g,3,none⟩) hS _⟩
theorem S8.of {W:World} {A:Nat} {s0 t0 u0 v0 s1 t1 u1 v1:ByteArray} (h0:W.heap[A]?=some (bO s0 t0 u0 v0)) (h1:W.heap[A+1]?=some (bO s1 t1 u1 v1)):S8 A s0 t0 u0 v0 s1 t1 u1 v1 W:=
 ⟨Zn h0 0 rfl,Zn h0 1 rfl,Zn h0 2 rfl,Zn h0 3 rfl,Zn h1 0 rfl,Zn h1 1 rfl,Zn h1 2 rfl,Zn h1 3 rfl⟩
abbrev S4 (g:Nat) (s t u v:ByteArray) (w':World):Prop:=w'.cell? ⟨g,0,none⟩=some (.string s)/\w'.cell? ⟨g,1,none⟩=some (.string t)/\w'.cell? ⟨g,2,none⟩=some (.string u)/\w'.cell? ⟨g,3,none⟩=some (.string v)
theorem S4.of {W:World} {A:Nat} {s t u v:ByteArray} (h:W.heap[A]?=some (bO s t u v)):S4 A s t u v W:=⟨Zn h 0 rfl,Zn h 1 rfl,Zn h 2 rfl,Zn h 3 rfl⟩
theorem ZlL {v:Value} {bs:List BB} {w:World} {q:Rat} {s t:ByteArray} (hv:BL w v bs) (hC:CurveP bs) (hq:IsP q s t) :
  Calls Tryz.prog 182 #[v,Zpw s t] w (Zmv bs q w):=by
 obtain⟨n,hn⟩:=ZpB bs.length
 obtain⟨p,c,rfl⟩:∃ p c,v=.slice p n c:=by obtain⟨p,c,h,_⟩:=id hv;exact⟨_,_,by rw[<- hn];exact h⟩
 obtain⟨_,hc,hnc⟩:=hv.len
 have hl:=hC.len
 rw[hn] at hl
 obtain⟨b,off,rfl,hb,hat⟩:=hv.at hn Za
 obtain⟨r,rfl⟩:∃ r,n=r+1:=⟨n-1,Za⟩
 have HC:=Zpz hC
 have HQ:=Zpz hq
 have HN:=Zpz hn
 have HAT:Hid (∀ W,Below w.heap.size w W->ZcN b off (r+1) bs W):=fun W hW k hk=>hat W hW k hk
 have hr:1<=r/\r<=63:=Za
 have e1:Hid (IntKind.i64.wrap (r:Int)=(r:Int)):=Zpm _ Za
 clear hv hC hq hn hat hl
 refine ZcS Tryz.func182 rfl ?_
 simp only[Tryz.ntmps182,Nat.reduceAdd,Nat.reduceSub,Zpy]
 go_wp2_with fail
 refine(ZhK _ _ _ _).mono ?_
 rintro e w' ⟨rfl,rfl⟩
 obtain⟨P,hP⟩:=ZpB w.heap.size
 obtain⟨w6,hw6⟩:=ZpB (((((w.alloc (pObj s t)).alloc bE).alloc bE).alloc (tO false)).alloc (.cells #[.slice (some ⟨b,off,none⟩) (r+1) c] 72))
 have HX:Zv P [pObj s t,bE,bE,tO false,.cells #[.slice (some ⟨b,off,none⟩) (r+1) c] 72] w6:=by rw[<- hw6,<- hP];exact(Zv.four w _ _ _ _).snoc Zc _
 have hs4:((((w.alloc (pObj s t)).alloc bE).alloc bE).alloc (tO false)).heap.size=P+4:=by simp[hP]
 have hD:w6.heap.size=P+5:=by rw[<- hw6,Zpa,hs4]
 have HB6:Hid (Below P w w6):=by
  rw[<- hw6,<- hP]
  exact(((((ZoL _ w).alloc ZpA _).alloc Zc _).alloc (by simp<;>omega) _).alloc (by simp<;>omega) _).alloc (by rw[hs4];omega) _
 have HC6:Hid (ZcN b off (r+1) bs w6):=HAT.out _ (by rw[hP];exact HB6.out)
 have h0:w6.heap[P]?=some (pObj s t):=HX.block 0 rfl rfl
 have h1:w6.heap[P+1]?=some bE:=HX.block 1 rfl rfl
 have h2:w6.heap[P+2]?=some bE:=HX.block 2 rfl rfl
 have h3:w6.heap[P+3]?=some (tO false):=HX.block 3 rfl rfl
 have h4:w6.cell? ⟨P+4,0,none⟩=some (.slice (some ⟨b,off,none⟩) (r+1) c):=Zn (HX.block 4 rfl rfl) 0 rfl
 have H6:Hid (w6.heap[P]?=some (pObj s t)/\w6.heap[P+1]?=some bE/\w6.heap[P+2]?=some bE/\w6.heap[P+3]?=some (tO false)):=⟨h0,h1,h2,h3⟩
 rw[hs4,hw6]
 have HPP:=Zpz hP
 rw[hP] at hb ⊢
 clear HX hw6 hs4 h0 h1 h2 h3 hP
 go_wp2
 refine(wpIn_wide (n:=9)).1 ?_
 refine Zec (P+5) hD (gf:=179) (lb:=#[.pointer (some ⟨P+4,0,none⟩)]) (f:=fun k=>#[bV (bAt bs k),bV (bAt bs (k+1))]) (N:=r)
  (S:=fun x=>x<P+5/\x≠P+1/\x≠P+2/\x≠P+3) (T:=fun _=>True)
  rfl (enters_of Tryz.func179 Zb rfl) (fun _=>rfl) ?iter (fun _ h=>h.1) ⟨trivial,trivial⟩
  (PcI bs q P w6) (PcX bs q P w6) ?ci ?cx ?start
  (BoxB bs (P+7) ?a1) ?cb ?assign ?body ?done ?stop
 case iter=>
  have:=Zg1 (P+4) b off (r+1) c (fun x=>x<P+5/\x≠P+1/\x≠P+2/\x≠P+3) bs Za Za hnc hc w6 ⟨Za,Za,Za,Za⟩ ⟨Za,Za,Za,Za⟩ h4 HC6.out
  rwa [Zpe] at this
 case ci=>
  rintro k W1 W2 ⟨h1,h2⟩ hk
  exact⟨h1,h2.trans (hk.mono fun x _ hx=>⟨trivial,Za,Za⟩)⟩
 case cx=>
  rintro cd k W1 W2 ⟨h1,h2,h3,h4,h5,h6⟩ hk
  have kp:∀ {g:Nat} {o:Obj},g<P+5->W1.heap[g]?=some o->W2.heap[g]?=some o:=fun hg h=>(hk.block _ (Zpu h) ⟨trivial,Za,Za⟩).trans h
  exact⟨h1,h2,kp Za h3,kp Za h4,kp Za h5,h6.trans (hk.mono fun x _ hx=>⟨trivial,Za,Za⟩)⟩
 case start=>exact⟨fun j hj=>Za,Keeps.refl _ _⟩
 case cb=>
  rintro k a' W1 W2 ⟨A,h1,h2,h3,h4⟩ hk
  exact⟨A,h1,h2,(hk.block _ (Zpu h3) ⟨Za,Za⟩).trans h3,(hk.block _ (Zpu h4) ⟨Za,Za⟩).trans h4⟩
 case assign=>
  intro l k W hk hW
  gi_wp2
  have h1:((W.alloc (bObj (bAt bs k))).alloc (bObj (bAt bs (k+1)))).heap[W.heap.size]?=some (bObj (bAt bs k)):=(Zo1 _ _ _ Zc).trans (ZoO W _)
  have h2:((W.alloc (bObj (bAt bs k))).alloc (bObj (bAt bs (k+1)))).heap[W.heap.size+1]?=some (bObj (bAt bs (k+1))):=by
   have:=ZoO (W.alloc (bObj (bAt bs k))) (bObj (bAt bs (k+1)))
   rwa [Zpa] at this
  have hkk:Keeps (fun _=>True) W ((W.alloc (bObj (bAt bs k))).alloc (bObj (bAt bs (k+1)))):=((Keeps.refl _ W).alloc _).alloc _
  obtain⟨V,hV⟩:=ZpB ((W.alloc (bObj (bAt bs k))).alloc (bObj (bAt bs (k+1))))
  rw[hV] at h1 h2 hkk
  obtain⟨A,hA⟩:=ZpB W.heap.size
  rw[hA] at h1 h2
  simp only[hV,hA,Zpa]
  refine⟨hkk,A,Za,?_,h1,h2⟩
  clear hkk h1 h2 hV hA hW
  exact rfl
 case body=>
  have hfn:∀ k,Fence.wide.fn k:=fun _=>trivial
  rintro l k a' W hk ⟨HPi,HK⟩ ⟨A,hA,rfl,hA0,hA1⟩ hW
  have C1:=(HC.out.isC (i:=k+1) (by rw[HN.out];omega)).1
  obtain⟨q0,hq0⟩:=ZpB (bAt bs k)
  obtain⟨q1,hq1⟩:=ZpB (bAt bs (k+1))
  have HQ0:=Zpz hq0
  have HQ1:=Zpz hq1
  rw[hq0] at hA0
  rw[hq1] at hA1 C1
  obtain⟨⟨s0,t0⟩,u0,v0⟩:=q0
  obtain⟨⟨s1,t1⟩,u1,v1⟩:=q1
  dsimp only at C1
  dsimp only
  rw[hq0,hq1]
  have IC1:=Zpz C1
  have HA:Hid (W.heap[A]?=some (bO s0 t0 u0 v0)/\W.heap[A+1]?=some (bO s1 t1 u1 v1)):=⟨hA0,hA1⟩
  have HKh:=Zpz HK
  have HPh:=Zpz HPi
  obtain⟨g1,hg1⟩:=ZpB (sgnR q (cR bs (k+1)))
  have HG1:=Zpz hg1
  have cs:W.cell? ⟨P,0,none⟩=some (.string s):=HK.cellAt (Zn H6.out.1 0 rfl) (by show P<P+5;omega)
  have ct:W.cell? ⟨P,1,none⟩=some (.string t):=HK.cellAt (Zn H6.out.1 1 rfl) (by show P<P+5;omega)
  have b0:W.cell? ⟨A+1,0,none⟩=some (.string s1):=Zn HA.out.2 0 rfl
  have b1:W.cell? ⟨A+1,1,none⟩=some (.string t1):=Zn HA.out.2 1 rfl
  clear HPi HK hA0 hA1 hq0 hq1 C1
  gi_wp2_with fail
  refine(CallsIn.inRound l (Zpf.2 (ZbC HQ.out IC1.out HG1.out _))).mono ?_
  rintro e V ⟨rfl,hb⟩
  have HV:Zpt W V:=hb
  have HAV:Hid (V.heap[A]?=some (bO s0 t0 u0 v0)/\V.heap[A+1]?=some (bO s1 t1 u1 v1)):=⟨(hb.block _ (Zpu HA.out.1)).trans HA.out.1,(hb.block _ (Zpu HA.out.2)).trans HA.out.2⟩
  clear hb cs ct b0 b1
  by_cases hc1:q<cR bs (k+1)
  ·have hge:g1<(0:Int):=by rw[<- hg1];exact Int.not_le.1 (Zhw hc1)
   have HPA:Hid (Zg2 bs q k (k+1) true):=⟨⟨by rw[HN.out];omega,HPh.out,fun _=>hc1⟩,.inl ⟨by rw[HN.out];omega,rfl,rfl⟩⟩
   clear hg1 hc1
   gi_wp2
   have kV:∀ {g:Nat} {o:Obj},g<P+5->w6.heap[g]?=some o->V.heap[g]?=some o:=fun hg h=>by
    have h1:=(HKh.out.block _ (Zpu h) hg).trans h
    exact(HV.out.block _ (Zpu h1)).trans h1
   have hF:V.heap[P+1]?=some bE:=kV Za H6.out.2.1
   have hT:V.heap[P+1+1]?=some bE:=kV Za H6.out.2.2.1
   have hI:V.heap[P+1+1+1]?=some (tO false):=kV Za H6.out.2.2.2
   have HKV:Hid (∀ S:Nat->Prop,Keeps S W V):=fun S=>HV.out.keepsAll S
   refine ZaO [(true,0),(true,1),(false,2),(false,3),(false,4)] (S8 A s0 t0 u0 v0 s1 t1 u1 v1) (fun _=>false)
    Zb Zb (fun _ _=>rfl) Zi (fun _ _ h=>h) (S8.of HAV.out.1 HAV.out.2) ?_
   iterate 2
    refine Zr _ rfl rfl (fun w' hS=>by obtain⟨a0,a1,a2,a3,b0,b1,b2,b3⟩:=hS;exact Zf) ?_
    simp only[Act.put,Zl]
   have c0:V.cell? ⟨P+1,0,none⟩=some (.string Zpv):=Zn hF 0 rfl
   have c1:V.cell? ⟨P+1,1,none⟩=some (.string Zpv):=Zn hF 1 rfl
   have c2:V.cell? ⟨P+1,2,none⟩=some (.string Zpv):=Zn hF 2 rfl
   have c3:V.cell? ⟨P+1,3,none⟩=some (.string Zpv):=Zn hF 3 rfl
   have f0:V.frozen? ⟨P+1,0,none⟩=false:=Zo hF 0
   have f1:V.frozen? ⟨P+1,1,none⟩=false:=Zo hF 1
   have f2:V.frozen? ⟨P+1,2,none⟩=false:=Zo hF 2
   have f3:V.frozen? ⟨P+1,3,none⟩=false:=Zo hF 3
   refine Zt rfl rfl fun K hK=>?_
   go_simp
   obtain⟨p1,p2,p3⟩:=Zew hF s0 t0 u0 v0
   obtain⟨V1,hV1⟩:=ZpB (((((V.setCell ⟨P+1,0,none⟩ (.string s0)).setCell ⟨P+1,1,none⟩ (.string t0)).setCell ⟨P+1,2,none⟩ (.string u0)).setCell ⟨P+1,3,none⟩ (.string v0)))
   rw[hV1] at p1 p2 p3 ⊢
   have hA1:V1.heap[A]?=some (bO s0 t0 u0 v0):=(p2 A Za).trans HAV.out.1
   have hB1:V1.heap[A+1]?=some (bO s1 t1 u1 v1):=(p2 (A+1) Za).trans HAV.out.2
   have hT1:V1.heap[P+1+1]?=some bE:=(p2 _ Za).trans hT
   have hI1:V1.heap[P+1+1+1]?=some (tO false):=(p2 _ Za).trans hI
   have HKV1:Hid (∀ S:Nat->Prop,¬ S (P+1)->Keeps S W V1):=fun S h=>(HKV.out S).trans (p3 S h)
   refine hK _ _ (.inr (S8.of (W:=V1) hA1 hB1)) ?_
   clear hK K hV1 c0 c1 c2 c3 f0 f1 f2 f3 hF hT hI p2 p3 HKV
   have c0:V1.cell? ⟨P+1+1,0,none⟩=some (.string Zpv):=Zn hT1 0 rfl
   have c1:V1.cell? ⟨P+1+1,1,none⟩=some (.string Zpv):=Zn hT1 1 rfl
   have c2:V1.cell? ⟨P+1+1,2,none⟩=some (.string Zpv):=Zn hT1 2 rfl
   have c3:V1.cell? ⟨P+1+1,3,none⟩=some (.string Zpv):=Zn hT1 3 rfl
   have f0:V1.frozen? ⟨P+1+1,0,none⟩=false:=Zo hT1 0
   have f1:V1.frozen? ⟨P+1+1,1,none⟩=false:=Zo hT1 1
   have f2:V1.frozen? ⟨P+1+1,2,none⟩=false:=Zo hT1 2
   have f3:V1.frozen? ⟨P+1+1,3,none⟩=false:=Zo hT1 3
   refine Zt rfl rfl fun K hK=>?_
   go_simp
   obtain⟨r1,r2,r3⟩:=Zew hT1 s1 t1 u1 v1
   obtain⟨V2,hV2⟩:=ZpB (((((V1.setCell ⟨P+1+1,0,none⟩ (.string s1)).setCell ⟨P+1+1,1,none⟩ (.string t1)).setCell ⟨P+1+1,2,none⟩ (.string u1)).setCell ⟨P+1+1,3,none⟩ (.string v1)))
   rw[hV2] at r1 r2 r3 ⊢
   have hA2:V2.heap[A]?=some (bO s0 t0 u0 v0):=(r2 A Za).trans hA1
   have hB2:V2.heap[A+1]?=some (bO s1 t1 u1 v1):=(r2 (A+1) Za).trans hB1
   have hF2:V2.heap[P+1]?=some (bO s0 t0 u0 v0):=(r2 _ Za).trans p1
   have hI2:V2.heap[P+1+1+1]?=some (tO false):=(r2 _ Za).trans hI1
   have HKV2:Hid (∀ S:Nat->Prop,¬ S (P+1)->¬ S (P+1+1)->Keeps S W V2):=fun S h h2=>(HKV1.out S h).trans (r3 S h2)
   refine hK _ _ (.inr (S8.of (W:=V2) hA2 hB2)) ?_
   clear hK K hV2 c0 c1 c2 c3 f0 f1 f2 f3 hT1 hI1 r2 r3 HKV1 hA1 hB1 p1
   have c0:V2.cell? ⟨P+1+1+1,0,none⟩=some (.bool false):=Zn hI2 0 rfl
   have f0:V2.frozen? ⟨P+1+1+1,0,none⟩=false:=Zo hI2 0
   refine Zt rfl rfl fun K hK=>?_
   go_simp
   obtain⟨V3,hV3⟩:=ZpB (V2.setCell ⟨P+1+1+1,0,none⟩ (.bool true))
   have o3:∀ k,k≠P+1+1+1->V3.heap[k]?=V2.heap[k]?:=fun k hk=>by rw[<- hV3];exact ZoN _ _ _ _ hk
   have hI3:V3.heap[P+1+1+1]?=some (tO true):=by rw[<- hV3];exact ZoQ hI2 _
   have HKV3:Hid (∀ S:Nat->Prop,¬ S (P+1)->¬ S (P+1+1)->¬ S (P+1+1+1)->Keeps S W V3.drew):=fun S h h2 h3=>by
    rw[<- hV3]
    exact((HKV2.out S h h2).setCell (p:=⟨P+1+1+1,0,none⟩) h3 _).drew
   rw[hV3]
   refine hK _ _ (.inr (S8.of (W:=V3) ((o3 A Za).trans hA2) ((o3 (A+1) Za).trans hB2))) ?_
   have HF3:Hid (V3.heap[P+1]?=some (bObj (bAt bs k))/\V3.heap[P+1+1]?=some (bObj (bAt bs (k+1)))/\V3.heap[P+1+1+1]?=some (tO true)):=by
    rw[HQ0.out,HQ1.out]
    exact⟨(o3 _ Za).trans hF2,(o3 _ Za).trans r1,hI3⟩
   clear hK K hV3 c0 f0 o3 hI3 hF2 hI2 r1 HKV2 hA2 hB2
   refine ZI ?_
   gi_wp2
   refine⟨HKV3.out _ (fun h=>by rcases h with ⟨_,h1,h2,h3⟩ | h | h<;>omega) (fun h=>by rcases h with ⟨_,h1,h2,h3⟩ | h | h<;>omega) (fun h=>by rcases h with ⟨_,h1,h2,h3⟩ | h | h<;>omega),rfl,HPA.out,HF3.out.1,HF3.out.2.1,HF3.out.2.2,
    (HKh.out.mono fun x _ hx=>Za).trans (HKV3.out _ Za Za Za)⟩
  ·have hge:¬ g1<(0:Int):=by rw[<- hg1];exact Int.not_lt.2 (Zg9 hc1)
   have HPA:Hid (∀ j,j<k+1->cR bs (j+1)<=q):=fun j hj=>by
    rcases ZoR j k with h | h
    ·exact HPh.out j h
    ·obtain rfl:j=k:=Za
     grind
   clear hg1 hc1
   gi_wp2
   exact⟨HV.out.keepsAll _,HPA.out,HKh.out.trans (HV.out.keepsAll _)⟩
 case done=>
  rintro W ⟨HPi,HK⟩ hdef
  have kV:∀ {g:Nat} {o:Obj},g<P+5->w6.heap[g]?=some o->W.heap[g]?=some o:=fun hg h=>(HK.block _ (Zpu h) hg).trans h
  have hF:W.heap[P+1]?=some bE:=kV Za H6.out.2.1
  have hT:W.heap[P+1+1]?=some bE:=kV Za H6.out.2.2.1
  have hI:W.heap[P+1+1+1]?=some (tO false):=kV Za H6.out.2.2.2
  have hsz:P+5<=W.heap.size:=by rw[<- hD];exact HK.size
  have hcl:=HC6.out.keeps HK (by show b<P+5;omega)
  obtain⟨a0,a1,a2,a3⟩:=hcl r Za
  obtain⟨q0,hq0⟩:=ZpB (bAt bs r)
  have HQ0:=Zpz hq0
  rw[hq0] at a0 a1 a2 a3
  obtain⟨⟨s0,t0⟩,u0,v0⟩:=q0
  dsimp only at a0 a1 a2 a3
  have HPA:Hid (Zg2 bs q r r false):=⟨⟨by rw[HN.out];omega,HPi,fun h=>by rw[HN.out] at h;omega⟩,.inr ⟨by rw[HN.out],rfl,rfl⟩⟩
  have HKh:=Zpz HK
  have e1':=e1.out
  clear HK HPi hcl hq0 kV
  go_wp2
  obtain⟨X,hX⟩:=ZpB W.heap.size
  obtain⟨V,hV⟩:=ZpB (W.alloc (bO s0 t0 u0 v0))
  have hXV:V.heap[X]?=some (bO s0 t0 u0 v0):=by rw[<- hV,<- hX];exact ZoO W _
  have ov:∀ k,k<X->V.heap[k]?=W.heap[k]?:=fun k hk=>by rw[<- hV];exact Zo1 _ _ _ Za
  have HKV:Hid (∀ S:Nat->Prop,Keeps S W V):=fun S=>by rw[<- hV];exact(Keeps.refl S W).alloc _
  rw[hX] at hsz ⊢
  rw[hV]
  have hdV:V.heap[P+5]?=some (.deferred (some [])):=(ov _ (by have:=(Zpu hdef);omega)).trans hdef
  have hF:=(ov _ Za).trans hF
  have hT:=(ov _ Za).trans hT
  have hI:=(ov _ Za).trans hI
  have hX5:P+5<X:=by have:=(Zpu hdef);omega
  clear hV hX ov a0 a1 a2 a3 hdef
  refine Zag [(true,0),(true,1),(false,2),(false,3),(false,4)] (S4 X s0 t0 u0 v0) (fun _=>false)
   Zb Zb (fun _ _=>rfl) Zi (S4.of (W:=V) hXV) ?_
  iterate 2
   refine Zr _ rfl rfl (fun w' hS=>by obtain⟨a0,a1,a2,a3⟩:=hS;exact Zf) ?_
   simp only[Act.put,Zl]
  have c0:V.cell? ⟨P+1,0,none⟩=some (.string Zpv):=Zn hF 0 rfl
  have c1:V.cell? ⟨P+1,1,none⟩=some (.string Zpv):=Zn hF 1 rfl
  have c2:V.cell? ⟨P+1,2,none⟩=some (.string Zpv):=Zn hF 2 rfl
  have c3:V.cell? ⟨P+1,3,none⟩=some (.string Zpv):=Zn hF 3 rfl
  have f0:V.frozen? ⟨P+1,0,none⟩=false:=Zo hF 0
  have f1:V.frozen? ⟨P+1,1,none⟩=false:=Zo hF 1
  have f2:V.frozen? ⟨P+1,2,none⟩=false:=Zo hF 2
  have f3:V.frozen? ⟨P+1,3,none⟩=false:=Zo hF 3
  refine Zt rfl rfl fun K hK=>?_
  go_simp
  obtain⟨p1,p2,p3⟩:=Zew hF s0 t0 u0 v0
  obtain⟨V1,hV1⟩:=ZpB (((((V.setCell ⟨P+1,0,none⟩ (.string s0)).setCell ⟨P+1,1,none⟩ (.string t0)).setCell ⟨P+1,2,none⟩ (.string u0)).setCell ⟨P+1,3,none⟩ (.string v0)))
  rw[hV1] at p1 p2 p3 ⊢
  have hX1:V1.heap[X]?=some (bO s0 t0 u0 v0):=(p2 X Za).trans hXV
  have hT1:V1.heap[P+1+1]?=some bE:=(p2 _ Za).trans hT
  have hI1:V1.heap[P+1+1+1]?=some (tO false):=(p2 _ Za).trans hI
  have hd1:V1.heap[P+5]?=some (.deferred (some [])):=(p2 _ Za).trans hdV
  have HKV1:Hid (∀ S:Nat->Prop,¬ S (P+1)->Keeps S W V1):=fun S h=>(HKV.out S).trans (p3 S h)
  refine hK _ _ (.inr (S4.of (W:=V1) hX1)) ?_
  clear hK K hV1 c0 c1 c2 c3 f0 f1 f2 f3 hF hT hI p2 p3 HKV hdV hXV
  have c0:V1.cell? ⟨P+1+1,0,none⟩=some (.string Zpv):=Zn hT1 0 rfl
  have c1:V1.cell? ⟨P+1+1,1,none⟩=some (.string Zpv):=Zn hT1 1 rfl
  have c2:V1.cell? ⟨P+1+1,2,none⟩=some (.string Zpv):=Zn hT1 2 rfl
  have c3:V1.cell? ⟨P+1+1,3,none⟩=some (.string Zpv):=Zn hT1 3 rfl
  have f0:V1.frozen? ⟨P+1+1,0,none⟩=false:=Zo hT1 0
  have f1:V1.frozen? ⟨P+1+1,1,none⟩=false:=Zo hT1 1
  have f2:V1.frozen? ⟨P+1+1,2,none⟩=false:=Zo hT1 2
  have f3:V1.frozen? ⟨P+1+1,3,none⟩=false:=Zo hT1 3
  refine Zt rfl rfl fun K hK=>?_
  go_simp
  obtain⟨r1,r2,r3⟩:=Zew hT1 s0 t0 u0 v0
  obtain⟨V2,hV2⟩:=ZpB (((((V1.setCell ⟨P+1+1,0,none⟩ (.string s0)).setCell ⟨P+1+1,1,none⟩ (.string t0)).setCell ⟨P+1+1,2,none⟩ (.string u0)).setCell ⟨P+1+1,3,none⟩ (.string v0)))
  rw[hV2] at r1 r2 r3 ⊢
  have hX2:V2.heap[X]?=some (bO s0 t0 u0 v0):=(r2 X Za).trans hX1
  have hF2:V2.heap[P+1]?=some (bO s0 t0 u0 v0):=(r2 _ Za).trans p1
  have hI2:V2.heap[P+1+1+1]?=some (tO false):=(r2 _ Za).trans hI1
  have hd2:V2.heap[P+5]?=some (.deferred (some [])):=(r2 _ Za).trans hd1
  have HKV2:Hid (∀ S:Nat->Prop,¬ S (P+1)->¬ S (P+1+1)->Keeps S W V2):=fun S h h2=>(HKV1.out S h).trans (r3 S h2)
  refine hK _ _ (.inr (S4.of (W:=V2) hX2)) ?_
  clear hK K hV2 c0 c1 c2 c3 f0 f1 f2 f3 hT1 hI1 r2 r3 HKV1 hX1 p1 hd1
  have c0:V2.cell? ⟨P+1+1+1,0,none⟩=some (.bool false):=Zn hI2 0 rfl
  have f0:V2.frozen? ⟨P+1+1+1,0,none⟩=false:=Zo hI2 0
  refine Zt rfl rfl fun K hK=>?_
  go_simp
  obtain⟨V3,hV3⟩:=ZpB (V2.setCell ⟨P+1+1+1,0,none⟩ (.bool false))
  have o3:∀ k,k≠P+1+1+1->V3.heap[k]?=V2.heap[k]?:=fun k hk=>by rw[<- hV3];exact ZoN _ _ _ _ hk
  have hI3:V3.heap[P+1+1+1]?=some (tO false):=by rw[<- hV3];exact ZoQ hI2 _
  have HKV3:Hid (Keeps (fun x=>x<P) W V3.drew):=by
   rw[<- hV3]
   exact((HKV2.out _ Za Za).setCell (p:=⟨P+1+1+1,0,none⟩) (by show ¬ P+1+1+1<P;omega) _).drew
  rw[hV3]
  refine hK _ _ (.inr (S4.of (W:=V3) ((o3 X Za).trans hX2))) ?_
  have hF3:V3.drew.heap[P+1]?=some (bO s0 t0 u0 v0):=(o3 _ Za).trans hF2
  have hT3:V3.drew.heap[P+1+1]?=some (bO s0 t0 u0 v0):=(o3 _ Za).trans r1
  have hd3:V3.drew.heap[P+5]?=some (.deferred (some [])):=(o3 _ Za).trans hd2
  have hI3:V3.drew.heap[P+1+1+1]?=some (tO false):=hI3
  clear hK K hV3 c0 f0 o3 hF2 hI2 r1 HKV2 hX2 hd2
  refine ZI ?_
  have k4:∀ {g:Nat} {o:Obj},g≠P+5->V3.drew.heap[g]?=some o->(V3.drew.putObj (P+5) (.deferred none)).heap[g]?=some o:=fun hg h=>(Zo4 hg).trans h
  have g1:=k4 Za hF3
  have g2:=k4 Za hT3
  have g3:=k4 Za hI3
  go_wp2
  unfold Calm bodyPostM
  refine⟨Zc,.inl ⟨_,_,rfl,run_takeDeferred hd3,?_⟩⟩
  have HB9:Hid (Below (w.heap.size) w (V3.drew.putObj (P+5) (.deferred none))):=by
   have h1:=((HKh.out.mono (S':=fun x=>x<P) fun x _ hx=>Za).trans HKV3.out).putObj (r:=P+5) (by show ¬ P+5<P;omega) (.deferred none)
   rw[HPP.out]
   exact HB6.out.trans (h1.below_of (fun _ h=>h) Za)
  have c0:=Zn g1 0 rfl
  have c1:=Zn g1 1 rfl
  have c2:=Zn g1 2 rfl
  have c3:=Zn g1 3 rfl
  have d0:=Zn g2 0 rfl
  have d1:=Zn g2 1 rfl
  have d2:=Zn g2 2 rfl
  have d3:=Zn g2 3 rfl
  have f0:=Zn g3 0 rfl
  refine⟨.tuple #[bV (bAt bs r),bV (bAt bs r),.bool false],?_,r,r,false,rfl,HPA.out,HB9.out⟩
  rw[HQ0.out]
  simp[results,Tryz.f182,go_sem,c0,c1,c2,c3,d0,d1,d2,d3,f0]
 case stop=>
  rintro cd k W hk ⟨rfl,HA,h1,h2,h3,HK⟩ hdef
  obtain⟨q0,hq0⟩:=ZpB (bAt bs k)
  obtain⟨q1,hq1⟩:=ZpB (bAt bs (k+1))
  have HQ0:=Zpz hq0
  have HQ1:=Zpz hq1
  rw[hq0] at h1
  rw[hq1] at h2
  obtain⟨⟨s0,t0⟩,u0,v0⟩:=q0
  obtain⟨⟨s1,t1⟩,u1,v1⟩:=q1
  have HKh:=Zpz HK
  have k4:∀ {g:Nat} {o:Obj},g≠P+5->W.heap[g]?=some o->(W.putObj (P+5) (.deferred none)).heap[g]?=some o:=fun hg h=>(Zo4 hg).trans h
  have g1:=k4 Za h1
  have g2:=k4 Za h2
  have g3:=k4 Za h3
  clear HK hq0 hq1
  gi_wp2
  unfold Calm bodyPostM
  refine⟨Zc,.inl ⟨_,_,rfl,run_takeDeferred hdef,?_⟩⟩
  have HB9:Hid (Below (w.heap.size) w (W.putObj (P+5) (.deferred none))):=by
   have h1:=HKh.out.putObj (r:=P+5) (by show ¬ P+5<P;omega) (.deferred none)
   rw[HPP.out]
   exact HB6.out.trans (h1.below_of (fun _ h=>h) Za)
  have c0:=Zn g1 0 rfl
  have c1:=Zn g1 1 rfl
  have c2:=Zn g1 2 rfl
  have c3:=Zn g1 3 rfl
  have d0:=Zn g2 0 rfl
  have d1:=Zn g2 1 rfl
  have d2:=Zn g2 2 rfl
  have d3:=Zn g2 3 rfl
  have f0:=Zn g3 0 rfl
  refine⟨.tuple #[bV (bAt bs k),bV (bAt bs (k+1)),.bool true],?_,k,k+1,true,rfl,HA,HB9.out⟩
  rw[HQ0.out,HQ1.out]
  simp[results,Tryz.f182,go_sem,c0,c1,c2,c3,d0,d1,d2,d3,f0]
end Go.Proofs.YtmpaflidennnoaaGreatDoor
namespace Go.Proofs.YtmpaflidennnoaaGreatDoor
open Go.RowKit Go.Shelf
attribute [local go_sem ↓] Go.wp_at_zero Go.wp_at_succ
def LimB (bs:List BB):Prop:=∀ x ∈ bs,(x.1.1.size<=1000000/\x.1.2.size<=1000000)/\(x.2.1.size<=1000000/\x.2.2.size<=1000000)
def ZgK (bs:List BB) (ps:List PP):Prop:=CurveP bs/\ps.all (Zw 300)=true
def ZlI (bs:List BB) (ps:List PP) (w:World) (e:Ending) (w':World):Prop:=
 ((ZgK bs ps/\e=.returned (.int .i64 0))\/(¬ ZgK bs ps/\e=.returned (.int .i64 2)))/\Below w.heap.size w w'
theorem ZkS {v v2:Value} {bs:List BB} {ps:List PP} {w:World} (hv:BL w v bs) (hz:LimB bs) (hv2:PL w v2 ps) (hz2:LimP ps) (hD:DetV w) (hT:Tabs w) :
  Calls Tryz.prog 181 #[v,v2] w (ZlI bs ps w):=by
 have HC:=Zpz (Zen hv hz hD hT)
 have HV2:=Zpz hv2
 have HZ2:=Zpz hz2
 clear hv hz hD hT hv2 hz2
 go_enter Tryz.func181,Tryz.ntmps181
 go_wp2_with fail
 refine HC.out.mono ?_
 rintro e w2 ⟨n,rfl,h,hb⟩
 have HB2:=Zpz hb
 rcases h with ⟨h,rfl⟩ | ⟨h,rfl⟩
 ·have HR:=Zpz h
  obtain⟨q,hq⟩:=ZpB (ps.all (Zw 300))
  have HS:=Zpz (Zg0 300 Zd (HV2.out.after hb ZpA) HZ2.out)
  rw[hq] at HS
  have HQ:=Zpz hq
  clear hb h hq HC HV2 HZ2
  go_wp2_with fail
  refine HS.out.mono ?_
  rintro e w3 ⟨rfl,hb⟩
  have HB3:=Zpz (HB2.out.trans (hb.mono HB2.out.size))
  clear hb HS
  cases q
  ·go_wp2
   go_ret
   exact⟨.inr ⟨fun hc=>(by have:=hc.2;rw[HQ.out] at this;cases this),rfl⟩,HB3.out⟩
  ·go_wp2
   go_ret
   exact⟨.inl ⟨⟨HR.out,HQ.out⟩,rfl⟩,HB3.out⟩
 ·have HR:=Zpz h
  clear hb h HC HV2 HZ2
  go_wp2
  go_ret
  exact⟨.inr ⟨fun hc=>HR.out hc.1,rfl⟩,HB2.out⟩
structure SP where
 P:World->Prop
 fp:Nat->Prop
 st:∀ {w w':World},P w->Keeps fp w w'->P w'
structure Env (B:Nat) (w0:World) (bs:List (Nat×Obj)) (ps:List SP) (w:World):Prop where
 base:Below B w0 w
 own:B<=w.heap.size
 cells:∀ (i:Nat) (p:Nat×Obj),bs[i]?=some p->B<=p.1/\w.heap[p.1]?=some p.2
 apart:∀ (i j:Nat) (p q:Nat×Obj),bs[i]?=some p->bs[j]?=some q->p.1=q.1->i=j
 props:∀ (i:Nat) (q:SP),ps[i]?=some q->q.P w/\(∀ b,q.fp b->b<w.heap.size)/\(∀ (j:Nat) (p:Nat×Obj),bs[j]?=some p->¬ q.fp p.1)
section
variable {B:Nat} {w0 w w':World} {bs:List (Nat×Obj)} {ps:List SP}
theorem Env.start (w:World):Env w.heap.size w [] [] w:=⟨ZoL _ w,Nat.le_refl _,fun i p h=>by simp at h,fun i j p q h=>by simp at h,fun i q h=>by simp at h⟩
theorem Env.after {C:Nat} (h:Env B w0 bs ps w) (hb:Below C w w') (hC:w.heap.size<=C):Env B w0 bs ps w' where
 base:=h.base.trans (hb.mono (ZoU h.own hC))
 own:=ZoU h.own hb.size
 cells:=fun i p hp=>by
  obtain⟨h1,h2⟩:=h.cells i p hp
  refine⟨h1,?_⟩
  rw[hb.block _ (ZoS (Zpu h2) hC)]
  exact h2
 apart:=h.apart
 props:=fun i q hq=>by
  obtain⟨h1,h2,h3⟩:=h.props i q hq
  exact⟨q.st h1 ⟨hb.os,hb.tape,hb.output,hb.size,fun k hk _=>hb.block k Za⟩,fun b hb2=>ZoS (h2 b hb2) hb.size,h3⟩
theorem Env.step (h:Env B w0 bs ps w) (hb:Below w.heap.size w w'):Env B w0 bs ps w':=h.after hb ZpA
theorem Env.drew (h:Env B w0 bs ps w):Env B w0 bs ps w.drew:=h.step (ZoL _ w).drew
theorem Env.push (h:Env B w0 bs ps w) (o:Obj) {g:Nat} (hg:g=w.heap.size):Env B w0 ((g,o)::bs) ps (w.alloc o):=by
 subst hg
 have hb:Below w.heap.size w (w.alloc o):=(ZoL _ w).alloc ZpA o
 have h':=h.step hb
 have hlt:∀ (j:Nat) (p:Nat×Obj),bs[j]?=some p->p.1<w.heap.size:=fun j p hp=>(ZoK.1 (h.cells j p hp).2).1
 refine⟨h'.base,h'.own,fun i p hp=>?_,fun i j p q hp hq e=>?_,fun i q hq=>?_⟩
 ·cases i with
  | zero=>
   obtain rfl:=ZoP hp
   exact⟨h.own,ZoO w o⟩
  | succ i=>exact h'.cells i p (by simpa using hp)
 ·cases i with
  | zero=>
   cases j with
   | zero=>rfl
   | succ j=>
    obtain rfl:=ZoP hp
    have:=hlt j q (by simpa using hq)
    simp only at e
    omega
  | succ i=>
   cases j with
   | zero=>
    obtain rfl:=ZoP hq
    have:=hlt i p (by simpa using hp)
    simp only at e
    omega
   | succ j=>rw[h.apart i j p q (by simpa using hp) (by simpa using hq) e]
 ·obtain⟨h1,h2,h3⟩:=h'.props i q hq
  refine⟨h1,h2,fun j p hp hc=>?_⟩
  cases j with
  | zero=>
   obtain rfl:=ZoP hp
   have:=(h.props i q hq).2.1 _ hc
   simp only at this
   omega
  | succ j=>exact h3 j p (by simpa using hp) hc
theorem Env.block (h:Env B w0 bs ps w) (i:Nat) {g:Nat} {o:Obj} (hi:bs[i]?=some (g,o)):w.heap[g]?=some o:=(h.cells i _ hi).2
theorem Env.lt (h:Env B w0 bs ps w) (i:Nat) {g:Nat} {o:Obj} (hi:bs[i]?=some (g,o)):g<w.heap.size:=(Zpu (h.block i hi))
theorem Env.le (h:Env B w0 bs ps w) (i:Nat) {g:Nat} {o:Obj} (hi:bs[i]?=some (g,o)):B<=g:=(h.cells i _ hi).1
theorem Env.cell (h:Env B w0 bs ps w) (i j:Nat) {g:Nat} {cs:Array Value} {T:TypeId} {v:Value} (hi:bs[i]?=some (g,.cells cs T (0,0))) (hv:cs[j]?=some v):w.cell? ⟨g,j,none⟩=some v:=Zn (h.block i hi) j hv
theorem Env.free (h:Env B w0 bs ps w) (i j:Nat) {g:Nat} {cs:Array Value} {T:TypeId} (hi:bs[i]?=some (g,.cells cs T (0,0))):w.frozen? ⟨g,j,none⟩=false:=Zo (h.block i hi) j
theorem Env.put (h:Env B w0 bs ps w) (i:Nat) {g:Nat} {o:Obj} (o':Obj) (hi:bs[i]?=some (g,o)) (hw:w'.heap[g]?=some o') (hk:Keeps (fun b=>b≠g) w w'):Env B w0 (bs.set i (g,o')) ps w':=by
 have hil:i<bs.length:=(Zo9.1 hi).1
 have hget:∀ (j:Nat) (p:Nat×Obj),(bs.set i (g,o'))[j]?=some p->(j=i/\p=(g,o'))\/(j≠i/\bs[j]?=some p):=fun j p hp=>by
  by_cases e:j=i
  ·subst e
   rw[List.getElem?_set_self hil] at hp
   exact .inl ⟨rfl,(ZoP hp).symm⟩
  ·rw[List.getElem?_set_ne (Ne.symm e)] at hp
   exact .inr ⟨e,hp⟩
 have hB:B<=g:=h.le i hi
 refine⟨h.base.trans ⟨hk.os,hk.tape,hk.output,hk.size,fun k hlt=>hk.block k (by have:=h.own;omega) Za⟩,ZoU h.own hk.size,fun j p hp=>?_,fun j k p q hp hq e=>?_,fun j q hq=>?_⟩
 ·rcases hget j p hp with ⟨rfl,rfl⟩ | ⟨hne,hp⟩
  ·exact⟨hB,hw⟩
  ·obtain⟨h1,h2⟩:=h.cells j p hp
   refine⟨h1,?_⟩
   rw[hk.block _ (Zpu h2) (fun e=>hne (h.apart j i p _ hp hi e))]
   exact h2
 ·rcases hget j p hp with ⟨e1,e2⟩ | ⟨hne,hp'⟩
  ·rcases hget k q hq with ⟨e3,e4⟩ | ⟨hne2,hq'⟩
   ·rw[e1,e3]
   ·rw[e2] at e
    rw[e1]
    exact h.apart i k _ q hi hq' e
  ·rcases hget k q hq with ⟨e3,e4⟩ | ⟨hne2,hq'⟩
   ·rw[e4] at e
    rw[e3]
    exact h.apart j i p _ hp' hi e
   ·exact h.apart j k p q hp' hq' e
 ·obtain⟨h1,h2,h3⟩:=h.props j q hq
  have hng:¬ q.fp g:=h3 i _ hi
  refine⟨q.st h1 (hk.mono fun b _ hb e=>hng (e ▸ hb)),fun b hb=>ZoS (h2 b hb) hk.size,fun k p hp hc=>?_⟩
  rcases hget k p hp with ⟨rfl,rfl⟩ | ⟨_,hp⟩
  ·exact hng hc
  ·exact h3 k p hp hc
theorem Env.store (h:Env B w0 bs ps w) (i j:Nat) {g:Nat} {cs:Array Value} {T:TypeId} (v:Value) (hi:bs[i]?=some (g,.cells cs T (0,0))):Env B w0 (bs.set i (g,.cells (cs.set! j v) T (0,0))) ps (w.setCell ⟨g,j,none⟩ v):=
 h.put i (.cells (cs.set! j v) T (0,0)) hi (ZoQ (h.block i hi) v) ((Keeps.refl _ w).setCell Zc v)
theorem Env.tail {p:Nat×Obj} (h:Env B w0 (p::bs) ps w):Env B w0 bs ps w:=
 ⟨h.base,h.own,fun i q hq=>h.cells (i+1) q (by simpa using hq),fun i j p q hp hq e=>by have:=h.apart (i+1) (j+1) p q (by simpa using hp) (by simpa using hq) e;omega,
  fun i q hq=>⟨(h.props i q hq).1,(h.props i q hq).2.1,fun j p hp=>(h.props i q hq).2.2 (j+1) p (by simpa using hp)⟩⟩
theorem Env.fill {g:Nat} {a b:Value} {T:TypeId} (h:Env B w0 ((g,.cells #[a,b] T (0,0))::bs) ps w) (x y:Value):Env B w0 ((g,.cells #[x,y] T (0,0))::bs) ps ((w.setCell ⟨g,0,none⟩ x).setCell ⟨g,1,none⟩ y):=
 h.put 0 (.cells #[x,y] T (0,0)) rfl (Zan (h.block 0 rfl) x y) (((Keeps.refl _ w).setCell Zc x).setCell Zc y)
theorem Env.laid (h:Env B w0 bs ps w) (hb:Below w.heap.size w w') {g:Nat} {o:Obj} (hg:w'.heap[g]?=some o) (hle:w.heap.size<=g):Env B w0 ((g,o)::bs) ps w':=by
 have h':=h.step hb
 have hlt:∀ (j:Nat) (p:Nat×Obj),bs[j]?=some p->p.1<w.heap.size:=fun j p hp=>(ZoK.1 (h.cells j p hp).2).1
 refine⟨h'.base,h'.own,fun i p hp=>?_,fun i j p q hp hq e=>?_,fun i q hq=>?_⟩
 ·cases i with
  | zero=>
   obtain rfl:=ZoP hp
   exact⟨ZoU h.own hle,hg⟩
  | succ i=>exact h'.cells i p (by simpa using hp)
 ·cases i with
  | zero=>
   cases j with
   | zero=>rfl
   | succ j=>
    obtain rfl:=ZoP hp
    have:=hlt j q (by simpa using hq)
    simp only at e
    omega
  | succ i=>
   cases j with
   | zero=>
    obtain rfl:=ZoP hq
    have:=hlt i p (by simpa using hp)
    simp only at e
    omega
   | succ j=>rw[h.apart i j p q (by simpa using hp) (by simpa using hq) e]
 ·obtain⟨h1,h2,h3⟩:=h'.props i q hq
  refine⟨h1,h2,fun j p hp hc=>?_⟩
  cases j with
  | zero=>
   obtain rfl:=ZoP hp
   have:=(h.props i q hq).2.1 _ hc
   simp only at this
   omega
  | succ j=>exact h3 j p (by simpa using hp) hc
theorem Env.only (h:Env B w0 bs ps w) (is:List Nat) (bs':List (Nat×Obj)) (hb:bs'=is.filterMap (fun i=>bs[i]?)) (hn:is.Nodup):Env B w0 bs' ps w:=by
 subst hb
 have hget:∀ (k:Nat) (p:Nat×Obj),(is.filterMap (fun i=>bs[i]?))[k]?=some p->∃ i ∈ is,bs[i]?=some p:=fun k p hp=>by
  have:=List.mem_of_getElem? hp
  rw[List.mem_filterMap] at this
  exact this
 refine⟨h.base,h.own,fun i p hp=>?_,?_,fun i q hq=>?_⟩
 ·obtain⟨j,_,hj⟩:=hget i p hp
  exact h.cells j p hj
 ·have hp:(is.filterMap (fun i=>bs[i]?)).Pairwise (fun a b=>a.1≠b.1):=by
   rw[List.pairwise_filterMap]
   refine List.Pairwise.imp ?_ hn
   intro a b hab p hp q hq e
   exact hab (h.apart a b p q hp hq e)
  intro i j p q h1 h2 e
  rcases Nat.lt_trichotomy i j with hlt | rfl | hlt
  ·obtain⟨l1,e1⟩:=Zo9.1 h1
   obtain⟨l2,e2⟩:=Zo9.1 h2
   have:=(List.pairwise_iff_getElem.1 hp) i j l1 l2 hlt
   rw[e1,e2] at this
   exact Zpp e this
  ·rfl
  ·obtain⟨l1,e1⟩:=Zo9.1 h1
   obtain⟨l2,e2⟩:=Zo9.1 h2
   have:=(List.pairwise_iff_getElem.1 hp) j i l2 l1 hlt
   rw[e1,e2] at this
   exact Zpp e.symm this
 ·obtain⟨h1,h2,h3⟩:=h.props i q hq
  refine⟨h1,h2,fun j p hp=>?_⟩
  obtain⟨k,_,hk⟩:=hget j p hp
  exact h3 k p hk
end
section
variable {P:Program} {ops:Array Oper} {Q:Exit->Act->World->Prop} {md:Region.Mode} {S:World->Prop} {bar:Nat->Bool}
theorem Zb8 {i:Nat} {oi:Oper} {v:Value} (hi:ops[i]?=some oi) (hsel:Region.noSelect ops=true) (hQ:∀ c a w,Q (.panic c) (a.put oi.dst v) w->Q (.panic c) a w) (hbar:Zcl md ops bar i) (hbi:bar i=false) :
  ∀ (fuel:Nat) (listed:Array Bool) (a:Act) (w:World),Zao md ops listed->
   (∀ j oj,ops[j]?=some oj->j≠i->listed.getD j true=false->(∀ e ∈ oj.after,Region.binds md e=true->e.on≠i)->oi.apart ops oj=true)->
   i ∈ Region.ready md ops listed->YieldsIf P ops S oi v a->S w->
   wpJ P md ops Q S bar fuel (listed.setIfInBounds i true) (a.put oi.dst v) w->wpJ P md ops Q S bar (fuel+1) listed a w
 | 0,listed,a,w,_,_,hr,hy,hS,H=>by
  refine⟨fun h=>(by rw[h] at hr;cases hr),fun j hj=>?_⟩
  by_cases hji:j=i
  ·subst hji;exact hy.wpOp hi hS ⟨.inr hS,H⟩
  ·have:=ready_mono hj hji
   rw[H.1] at this
   cases this
 | fuel+1,listed,a,w,hcl,hfree,hr,hy,hS,H=>by
  refine⟨fun h=>(by rw[h] at hr;cases hr),fun j hj=>?_⟩
  by_cases hji:j=i
  ·subst hji;exact hy.wpOp hi hS ⟨.inr hS,H⟩
  ·have hbj:bar j=false:=by
    cases hb:bar j with
    | false=>rfl
    | true=>exact Zpp hj (Zb9 hcl (mem_ready.1 hr).1 _ _ (hbar j hb hji)).2
   obtain⟨hjun,oj,hoj,hall⟩:=mem_ready.1 hj
   have hnot:∀ e ∈ oj.after,Region.binds md e=true->e.on≠i:=fun e he hb heq=>by
    have:Region.waitsFor md ops j i=true:=by
     unfold Region.waitsFor
     rw[hoj]
     exact Array.any_eq_true'.2 ⟨e,he,by simp[hb,heq]⟩
    exact Zaz hr this hj
   have h2:=wpOp_putIf hoj (hfree j oj hoj hji hjun hnot) (fun cs b=>Region.noSelect_spec hsel i oi cs b hi) (fun cs b=>Region.noSelect_spec hsel j oj cs b hoj) hQ hy (H.2 j (ready_mono hj hji))
   refine wpOp_mono (fun a' w' h3=>?_) h2
   have hS':S w':=by
    rcases h3.2.1 with h4 | h4
    ·rw[hbj] at h4;cases h4
    ·exact h4
   refine⟨.inr hS',Zb8 hi hsel hQ hbar hbi fuel (listed.setIfInBounds j true) a' w' (hcl.step hj) (fun k ok hk hki hun hno=>?_) (ready_mono hr (Ne.symm hji)) h3.1 hS' ?_⟩
   ·refine hfree k ok hk hki ?_ hno
    by_cases hjk:j=k
    ·subst hjk;exact hjun
    ·rw[getD_set_ne true hjk] at hun;exact hun
   ·rw[Array.setIfInBounds_comm _ _ hji]
    exact h3.2.2
theorem Zdl (hsel:Region.noSelect ops=true) (hQ:∀ c a o v w,Q (.panic c) (a.put o v) w->Q (.panic c) a w) (hbo:∀ j,ops.size<=j->bar j=false) :
  ∀ (ks:List (Bool×Nat)) (listed:Array Bool) (a:Act) (w:World),Zcd md ops bar ks listed=true->Zao md ops listed->
   (S w\/ks.all (fun b=>!b.1)=true)->Zbd P ops Q S bar ks a w->wpJ P md ops Q S bar ks.length listed a w
 | [],listed,a,w,hB,_,_,h=>⟨of_decide_eq_true hB,h⟩
 | (true,k)::ks,listed,a,w,hB,hC,hS,h=>by
  simp only[Zcd,Zpj] at hB
  obtain⟨⟨⟨⟨hr,hf⟩,hbk⟩,hw⟩,hB'⟩:=hB
  have hSw:S w:=by
   rcases hS with hS | hS
   ·exact hS
   ·simp at hS
  obtain⟨o,v,h0,hy,hrest⟩:=h
  have hbk':bar k=false:=by simpa using hbk
  have hwait:Zcl md ops bar k:=fun j hj hne=>by
   have hjl:j<ops.size:=by
    rcases ZoR j ops.size with h' | h'
    ·exact h'
    ·rw[hbo j h'] at hj;cases hj
   rw[Zpo] at hw
   have:=hw j (List.mem_range.2 hjl)
   rw[hj] at this
   simpa[hne] using this
  have ih:=Zdl hsel hQ hbo ks (listed.setIfInBounds k true) (a.put o.dst v) w hB' (hC.step (by simpa using hr)) (.inl hSw) hrest
  rw[Zpl]
  exact Zb8 h0 hsel (fun c a w=>hQ c a o.dst v w) hwait hbk' ks.length listed a w hC (Region.free_spec h0 hf) (by simpa using hr) hy hSw ih
 | (false,k)::ks,listed,a,w,hB,hC,hS,h=>by
  simp only[Zcd,Zpj,Zpk] at hB
  obtain⟨⟨hr,hbk⟩,hB'⟩:=hB
  obtain⟨o,h0,h⟩:=h
  refine⟨fun h1=>(by rw[hr] at h1;cases h1),fun i hi=>?_⟩
  rw[hr] at hi
  obtain rfl:i=k:=by simpa using hi
  have ih:=fun a' w' (hs:bar i=true\/S w') h'=>Zdl hsel hQ hbo ks (listed.setIfInBounds i true) a' w' hB' (hC.step (by rw[hr];simp)) (by
   rcases hs with hs | hs
   ·rw[hs] at hbk
    exact .inr (by simpa using hbk)
   ·exact .inl hs) h'
  unfold wpOp
  simp only[h0]
  split at h
  ·rename_i hw;simp only[hw,if_true];exact .inl (Oper.wp_mono (fun a' w' h'=>⟨h'.1,ih a' w' h'.1 h'.2⟩) h)
  ·rename_i hw;simp only[hw];exact⟨h.1,ih _ _ h.1 h.2⟩
theorem ZY {id:Nat} {a:Act} {w:World} {l:List Oper} (ks:List (Bool×Nat)) (S:World->Prop) (bar:Nat->Bool) (hm:P.follows .mixedOrders=true)
  (hB:ZeR l ks bar=true) (hd:ZcE l.toArray=true) (hbo:∀ j,l.length<=j->bar j=false) (hQ:∀ c a o v w,Q (.panic c) (a.put o v) w->Q (.panic c) a w) (hS:S w.drew)
  (H:Zbd P l.toArray Q S bar ks a w.drew):(Code.region id l.toArray true).wp P Q a w:=by
 simp only[ZeR,Zpj,Zpk] at hB
 obtain⟨⟨hsel,hn⟩,hm2⟩:=hB
 have:=ZbP _ _ _ _ (Zdl hsel hQ (fun j hj=>hbo j (by simpa using hj)) ks _ a w.drew hm2 Zao.start (.inl hS) H)
 rw[hn] at this
 exact wp_region_any hm (by simpa using this)
end
section
variable {P:Program} {ops:Array Oper} {Q:Exit->Act->World->Prop} {md:Region.Mode} {S:World->Prop} {bar:Nat->Bool}
theorem Zdf {i:Nat} {oi:Oper} {v:Value} (hi:ops[i]?=some oi) (hsel:Region.noSelect ops=true) (hQ:∀ c a w,Q (.panic c) (a.put oi.dst v) w->Q (.panic c) a w) (hbi:bar i=true) :
  ∀ (fuel:Nat) (listed:Array Bool) (a:Act) (w:World),
   (∀ j oj,ops[j]?=some oj->j≠i->listed.getD j true=false->(∀ e ∈ oj.after,Region.binds md e=true->e.on≠i)->oi.apart ops oj=true)->
   i ∈ Region.ready md ops listed->YieldsIf P ops (fun _=>True) oi v a->
   wpJ P md ops Q S bar fuel (listed.setIfInBounds i true) (a.put oi.dst v) w->wpJ P md ops Q S bar (fuel+1) listed a w
 | 0,listed,a,w,_,hr,hy,H=>by
  refine⟨fun h=>(by rw[h] at hr;cases hr),fun j hj=>?_⟩
  by_cases hji:j=i
  ·subst hji;exact hy.wpOp hi trivial ⟨.inl hbi,H⟩
  ·have:=ready_mono hj hji
   rw[H.1] at this
   cases this
 | fuel+1,listed,a,w,hfree,hr,hy,H=>by
  refine⟨fun h=>(by rw[h] at hr;cases hr),fun j hj=>?_⟩
  by_cases hji:j=i
  ·subst hji;exact hy.wpOp hi trivial ⟨.inl hbi,H⟩
  ·obtain⟨hjun,oj,hoj,hall⟩:=mem_ready.1 hj
   have hnot:∀ e ∈ oj.after,Region.binds md e=true->e.on≠i:=fun e he hb heq=>by
    have:Region.waitsFor md ops j i=true:=by
     unfold Region.waitsFor
     rw[hoj]
     exact Array.any_eq_true'.2 ⟨e,he,by simp[hb,heq]⟩
    exact Zaz hr this hj
   have h2:=wpOp_putIf hoj (hfree j oj hoj hji hjun hnot) (fun cs b=>Region.noSelect_spec hsel i oi cs b hi) (fun cs b=>Region.noSelect_spec hsel j oj cs b hoj) hQ hy (H.2 j (ready_mono hj hji))
   refine wpOp_mono (fun a' w' h3=>?_) h2
   refine⟨h3.2.1,Zdf hi hsel hQ hbi fuel (listed.setIfInBounds j true) a' w' (fun k ok hk hki hun hno=>?_) (ready_mono hr (Ne.symm hji)) h3.1 ?_⟩
   ·refine hfree k ok hk hki ?_ hno
    by_cases hjk:j=k
    ·subst hjk;exact hjun
    ·rw[getD_set_ne true hjk] at hun;exact hun
   ·rw[Array.setIfInBounds_comm _ _ hji]
    exact h3.2.2
def Zah (P:Program) (ops:Array Oper) (Q:Exit->Act->World->Prop) (S:World->Prop) (bar:Nat->Bool):List (Nat×Nat)->Act->World->Prop
 | [],a,w=>Q .normal a w
 | (0,i)::ks,a,w=>∃ o,ops[i]?=some o/\(if Region.wanted o (yielded ops a.tmps) then o.wp P a w (fun a' w'=>(bar i=true\/S w')/\Zah P ops Q S bar ks a' w') Q
   else (bar i=true\/S w)/\Zah P ops Q S bar ks (a.put o.dst undef) w)
 | (1,i)::ks,a,w=>∃ o v,ops[i]?=some o/\YieldsIf P ops S o v a/\Zah P ops Q S bar ks (a.put o.dst v) w
 | (_+2,i)::ks,a,w=>∃ o v,ops[i]?=some o/\YieldsIf P ops (fun _=>True) o v a/\Zah P ops Q S bar ks (a.put o.dst v) w
def Zbk (md:Region.Mode) (ops:Array Oper) (bar:Nat->Bool):List (Nat×Nat)->Array Bool->Bool
 | [],listed=>decide (Region.ready md ops listed=[])
 | (0,k)::ks,listed=>decide (Region.ready md ops listed=[k]) && (!bar k || ks.all fun b=>b.1 !=1) && Zbk md ops bar ks (listed.setIfInBounds k true)
 | (1,k)::ks,listed=>(Region.ready md ops listed).contains k && Region.free md ops listed k && !bar k && ((List.range ops.size).all fun j=>!bar j || decide (j=k) || Zcm md ops ops.size j k) && Zbk md ops bar ks (listed.setIfInBounds k true)
 | (_+2,k)::ks,listed=>(Region.ready md ops listed).contains k && Region.free md ops listed k && bar k && Zbk md ops bar ks (listed.setIfInBounds k true)
theorem ZaF (hsel:Region.noSelect ops=true) (hQ:∀ c a o v w,Q (.panic c) (a.put o v) w->Q (.panic c) a w) (hbo:∀ j,ops.size<=j->bar j=false) :
  ∀ (ks:List (Nat×Nat)) (listed:Array Bool) (a:Act) (w:World),Zbk md ops bar ks listed=true->Zao md ops listed->
   (S w\/ks.all (fun b=>b.1 !=1)=true)->Zah P ops Q S bar ks a w->wpJ P md ops Q S bar ks.length listed a w
 | [],listed,a,w,hB,_,_,h=>⟨of_decide_eq_true hB,h⟩
 | (1,k)::ks,listed,a,w,hB,hC,hS,h=>by
  simp only[Zbk,Zpj] at hB
  obtain⟨⟨⟨⟨hr,hf⟩,hbk⟩,hw⟩,hB'⟩:=hB
  have hSw:S w:=by
   rcases hS with hS | hS
   ·exact hS
   ·simp at hS
  obtain⟨o,v,h0,hy,hrest⟩:=h
  have hbk':bar k=false:=by simpa using hbk
  have hwait:Zcl md ops bar k:=fun j hj hne=>by
   have hjl:j<ops.size:=by
    rcases ZoR j ops.size with h' | h'
    ·exact h'
    ·rw[hbo j h'] at hj;cases hj
   rw[Zpo] at hw
   have:=hw j (List.mem_range.2 hjl)
   rw[hj] at this
   simpa[hne] using this
  have ih:=ZaF hsel hQ hbo ks (listed.setIfInBounds k true) (a.put o.dst v) w hB' (hC.step (by simpa using hr)) (.inl hSw) hrest
  rw[Zpl]
  exact Zb8 h0 hsel (fun c a w=>hQ c a o.dst v w) hwait hbk' ks.length listed a w hC (Region.free_spec h0 hf) (by simpa using hr) hy hSw ih
 | (n+2,k)::ks,listed,a,w,hB,hC,hS,h=>by
  simp only[Zbk,Zpj] at hB
  obtain⟨⟨⟨hr,hf⟩,hbk⟩,hB'⟩:=hB
  obtain⟨o,v,h0,hy,hrest⟩:=h
  have ih:=ZaF hsel hQ hbo ks (listed.setIfInBounds k true) (a.put o.dst v) w hB' (hC.step (by simpa using hr)) (by
   rcases hS with hS | hS
   ·exact .inl hS
   ·exact .inr (by simp only[List.all_cons,Zpj] at hS;exact hS.2)) hrest
  rw[Zpl]
  exact Zdf h0 hsel (fun c a w=>hQ c a o.dst v w) hbk ks.length listed a w (Region.free_spec h0 hf) (by simpa using hr) hy ih
 | (0,k)::ks,listed,a,w,hB,hC,hS,h=>by
  simp only[Zbk,Zpj,Zpk] at hB
  obtain⟨⟨hr,hbk⟩,hB'⟩:=hB
  obtain⟨o,h0,h⟩:=h
  refine⟨fun h1=>(by rw[hr] at h1;cases h1),fun i hi=>?_⟩
  rw[hr] at hi
  obtain rfl:i=k:=by simpa using hi
  have ih:=fun a' w' (hs:bar i=true\/S w') h'=>ZaF hsel hQ hbo ks (listed.setIfInBounds i true) a' w' hB' (hC.step (by rw[hr];simp)) (by
   rcases hs with hs | hs
   ·rw[hs] at hbk
    exact .inr (by simpa using hbk)
   ·exact .inl hs) h'
  unfold wpOp
  simp only[h0]
  split at h
  ·rename_i hw;simp only[hw,if_true];exact .inl (Oper.wp_mono (fun a' w' h'=>⟨h'.1,ih a' w' h'.1 h'.2⟩) h)
  ·rename_i hw;simp only[hw];exact⟨h.1,ih _ _ h.1 h.2⟩
def Zi5 (l:List Oper) (ks:List (Nat×Nat)) (bar:Nat->Bool):Bool:=
 Region.noSelect l.toArray && decide (ks.length=l.length) && Zbk .any l.toArray bar ks (Array.replicate l.toArray.size false)
theorem ZP {id:Nat} {a:Act} {w:World} {l:List Oper} (ks:List (Nat×Nat)) (S:World->Prop) (bar:Nat->Bool) (hm:P.follows .mixedOrders=true)
  (hB:Zi5 l ks bar=true) (hbo:∀ j,l.length<=j->bar j=false) (hQ:∀ c a o v w,Q (.panic c) (a.put o v) w->Q (.panic c) a w) (hS:S w.drew)
  (H:Zah P l.toArray Q S bar ks a w.drew):(Code.region id l.toArray true).wp P Q a w:=by
 simp only[Zi5,Zpj,Zpk] at hB
 obtain⟨⟨hsel,hn⟩,hm2⟩:=hB
 have:=ZbP _ _ _ _ (ZaF hsel hQ (fun j hj=>hbo j (by simpa using hj)) ks _ a w.drew hm2 Zao.start (.inl hS) H)
 rw[hn] at this
 exact wp_region_any hm (by simpa using this)
theorem Zx {i:Nat} {o:Oper} {ks:List (Nat×Nat)} {a:Act} {w:World} (v:Value) (ho:ops[i]?=some o) (hw:Region.wanted o (yielded ops a.tmps)=true) (hv:∀ w,S w->(execOp a.eval o).run P w=.ok (.value v) w)
  (h:Zah P ops Q S bar ks (a.put o.dst v) w):Zah P ops Q S bar ((1,i)::ks) a w:=⟨o,v,ho,.inl ⟨hw,hv⟩,h⟩
theorem Zc8 {i:Nat} {o:Oper} {ks:List (Nat×Nat)} {a:Act} {w:World} (v:Value) (ho:ops[i]?=some o) (hw:Region.wanted o (yielded ops a.tmps)=true) (hv:∀ w,True->(execOp a.eval o).run P w=.ok (.value v) w)
  (h:Zah P ops Q S bar ks (a.put o.dst v) w):Zah P ops Q S bar ((2,i)::ks) a w:=⟨o,v,ho,.inl ⟨hw,hv⟩,h⟩
theorem ZB {i:Nat} {o:Oper} {ks:List (Nat×Nat)} {a:Act} {w:World} (ho:ops[i]?=some o) (hw:Region.wanted o (yielded ops a.tmps)=true)
  (h:∀ K:Act->World->Prop,(∀ a' w',(bar i=true\/S w')->Zah P ops Q S bar ks a' w'->K a' w')->o.wp P a w K Q):Zah P ops Q S bar ((0,i)::ks) a w:=by
 refine⟨o,ho,?_⟩
 rw[if_pos hw]
 exact h _ fun _ _ h1 h2=>⟨h1,h2⟩
theorem Zci {i:Nat} {o:Oper} {ks:List (Nat×Nat)} {a:Act} {w:World} (ho:ops[i]?=some o) (hw:Region.wanted o (yielded ops a.tmps)=false)
  (h:Zah P ops Q S bar ks (a.put o.dst undef) w):Zah P ops Q S bar ((1,i)::ks) a w:=⟨o,undef,ho,.inr ⟨hw,rfl⟩,h⟩
theorem ZiB {i:Nat} {o:Oper} {ks:List (Nat×Nat)} {a:Act} {w:World} (ho:ops[i]?=some o) (hw:Region.wanted o (yielded ops a.tmps)=false) (hS:bar i=true\/S w)
  (h:Zah P ops Q S bar ks (a.put o.dst undef) w):Zah P ops Q S bar ((0,i)::ks) a w:=by
 refine⟨o,ho,?_⟩
 rw[if_neg (by rw[hw];exact Bool.false_ne_true)]
 exact⟨hS,h⟩
theorem ZF {a:Act} {w:World} (h:Q .normal a w):Zah P ops Q S bar [] a w:=h
end
end Go.Proofs.YtmpaflidennnoaaGreatDoor
