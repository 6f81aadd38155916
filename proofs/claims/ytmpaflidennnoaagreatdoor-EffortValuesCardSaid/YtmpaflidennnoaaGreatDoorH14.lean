/- The parts CurveC. -/
import Derived.Test.YtmpaflidennnoaaGreatDoorH13
set_option maxRecDepth 100000
set_option maxHeartbeats 8000000
set_option linter.unusedVariables false
set_option linter.unusedSimpArgs false
namespace Go.Proofs.YtmpaflidennnoaaGreatDoor
open Go.RowKit Go.Shelf
attribute [local go_sem ↓] Go.wp_at_zero Go.wp_at_succ
attribute [local go_sem] Oper.semAt_some
theorem Zhg {a b:Rat} (h:a<b):¬ (0:Int)<=sgnR a b:=by unfold sgnR;rw[if_pos h];decide
theorem Zha {a b:Rat} (h:¬ a<b):(0:Int)<=sgnR a b:=by unfold sgnR;rw[if_neg h];split<;>decide
theorem ZbZ {a b:Rat} (h:a<=b):¬ (0:Int)<sgnR a b:=by
 unfold sgnR
 split
 ·decide
 ·split
  ·decide
  ·grind
theorem Zb2 {a b:Rat} (h:¬ a<=b):(0:Int)<sgnR a b:=by
 unfold sgnR
 rw[if_neg Zk,if_neg Zk]
 decide
def Ze0 (bs:List BB) (k B:Nat) (pl:Option Addr) (W:World):Prop:=
 (k=0/\pl=none)\/∃ g x y j,k=j+1/\pl=some ⟨g,0,none⟩/\B<=g/\W.heap[g]?=some (pObj x y)/\IsP (slp (cR bs) (hR bs) j) x y
theorem Ze0.keeps {bs:List BB} {k B:Nat} {pl:Option Addr} {W W':World} {S:Nat->Prop} (h:Ze0 bs k B pl W) (hk:Keeps S W W') (hS:∀ g,B<=g->S g):Ze0 bs k B pl W':=by
 rcases h with h | ⟨g,x,y,j,h1,h2,h3,h4,h5⟩
 ·exact .inl h
 ·exact .inr ⟨g,x,y,j,h1,h2,h3,(hk.block g (Zo9 h4) (hS g h3)).trans h4,h5⟩
abbrev lO (pl:Option Addr):Obj:=.cells #[.pointer pl] 167
abbrev SW (L G g:Nat) (x y x' y':ByteArray) (V:World):Prop:=V.cell? ⟨L,0,none⟩=some (.pointer (some ⟨g,0,none⟩))/\V.cell? ⟨G,0,none⟩=some (.string x)/\V.cell? ⟨G,1,none⟩=some (.string y)/\V.cell? ⟨g,0,none⟩=some (.string x')/\V.cell? ⟨g,1,none⟩=some (.string y')
def Zoa (bs:List BB) (L:Nat) (w6:World) (k:Nat) (W:World):Prop:=
 Pieces bs k/\(∃ pl,W.heap[L]?=some (lO pl)/\Ze0 bs k (L+4) pl W)/\Keeps (fun b=>b<L+2/\b≠L) w6 W
def Zn6 (bs:List BB) (E L:Nat) (w6:World) (c:Code) (W:World):Prop:=
 c=.ret/\¬ CurveP bs/\W.heap[E]?=some (.cells #[.int .i64 2] 30)/\Keeps (fun b=>b<L+2/\b≠L/\b≠E) w6 W
def BoxB (bs:List BB) (B:Nat) (a1:Nat->Nat->Act) (k:Nat) (a':Act) (W:World):Prop:=
 ∃ A,B<=A/\a'=a1 k A/\W.heap[A]?=some (bObj (bAt bs k))/\W.heap[A+1]?=some (bObj (bAt bs (k+1)))
theorem ZkT {b off r c:Nat} {bs:List BB} {w:World} (hI:CurveIn b off r c bs w) (hs:∀ k,k<r+1->ZaX bs k=false) (hx:hR bs r<=1) :
  Calls Tryz.prog 80 #[.slice (some ⟨b,off,none⟩) (r+1) c] w (Zct bs w):=by
 have hsm:=hs r Za
 unfold ZaX at hsm
 simp only[Bool.not_eq_false',ZoY] at hsm
 have HP:=Zpe (Zbw hsm.2).1
 obtain⟨g,hg⟩:=Zpg (sgnR (hR bs r) 1)
 have HG:=Zpe hg
 have hg0:¬ (0:Int)<g:=by
  rw[<- hg]
  unfold sgnR
  split
  ·decide
  ·split
   ·decide
   ·grind
 have HS0:=Zpe hs
 have HX:=Zpe hx
 have HI:=Zpe hI
 have hr:=hI.most
 have e1:Hid (IntKind.i64.wrap (r:Int)=(r:Int)):=Zo1 _ Za
 clear hI hx hs hsm hg
 refine Zdq Tryz.func80 rfl ?_
 simp only[Tryz.ntmps80,Nat.reduceAdd,Nat.reduceSub,Zpd]
 have HS:Hid (∀ W,Below w.heap.size w W->SF b off ⟨#[48]⟩ ⟨#[49]⟩ ⟨#[48]⟩ ⟨#[49]⟩ W):=fun W hW=>HI.out.sf hW
 have H:Hid ((decide ((2:Int)<=(r:Int)+1) && decide ((r:Int)+1<=64))=true):=by show _=_;have:=HI.out.two;have:=HI.out.most;simp;omega
 go_wp2
 have hbx:((w.alloc (.cells #[.int .i64 0] 30)).drew).heap[w.heap.size]?=some (.cells #[.int .i64 0] 30):=Zot w _
 have hb0:Below w.heap.size w ((w.alloc (.cells #[.int .i64 0] 30)).drew):=((Zoq _ w).alloc Zpf _).drew
 obtain⟨w1,hw1⟩:=Zpg (w.alloc (.cells #[.int .i64 0] 30))
 rw[hw1] at hbx hb0 ⊢
 have hSF:=HS.out _ hb0
 refine Zaf [(true,0),(true,1),(false,2),(true,3),(true,4),(true,5),(true,6),(true,7),(true,8),(true,9),(true,10),(true,11),(true,12)] (SF b off ⟨#[48]⟩ ⟨#[49]⟩ ⟨#[48]⟩ ⟨#[49]⟩) (fun _=>false)
  Zb Zb (fun _ _=>rfl) Zi hSF ?_
 iterate 2
  refine Zr _ rfl rfl (fun w' hS=>Zf) ?_
  simp only[Act.put,Zl]
 refine Zt rfl rfl fun K hK=>?_
 go_simp
 go_at_call 128
 refine(Zbz _ 2 64 _).mono ?_
 rintro e w2 ⟨rfl,hb⟩
 rw[H.out]
 have hbx2:w2.heap[w.heap.size]?=some (.cells #[.int .i64 0] 30):=(hb.block _ (Zo9 hbx)).trans hbx
 have HB2:Zo8 w w2:=hb0.trans (hb.mono hb0.size)
 have HX2:=Zpe hbx2
 have hSF2:=HS.out _ HB2.out
 refine hK _ _ (.inr hSF2) ?_
 clear hK K hb hbx hb0 hbx2 hw1 hSF hSF2
 iterate 10
  refine Zr _ rfl rfl (fun w' hS=>by obtain⟨⟨a0,a1,a2,a3⟩,z0,z1⟩:=hS;exact Ze) ?_
  simp only[Act.put,Zl]
 refine ZJ ?_
 go_wp2
 refine Zaf [(true,0),(false,1),(true,2),(true,3),(true,4),(true,5),(true,6),(true,7),(true,8),(true,9),(true,10),(false,11),(true,12),(true,13)] (SL2 b (off+r*4) (bAt bs r).2.1 (bAt bs r).2.2) (fun _=>false)
  Zb Zb (fun _ _=>rfl) Zi (HI.out.sl HB2.out.drew) ?_
 iterate 1
  refine Zr _ rfl rfl (fun w' hS=>by obtain⟨⟨a0,a1⟩,z0,z1⟩:=hS;go_simp;(try simp only[e1.out,Int.toNat_natCast]);first | rfl | (rw[if_pos Za])) ?_
  simp only[Act.put,Zl]
 refine Zt rfl rfl fun K hK=>?_
 go_simp
 go_at_call 129
 refine(HI.out.cf HB2.out.drew).mono ?_
 rintro e w3 ⟨q,rfl,hE,hb⟩
 have HB3:Zo8 w w3:=HB2.out.drew.trans (hb.mono HB2.out.drew.size)
 have HX3:Hid (w3.heap[w.heap.size]?=some (.cells #[.int .i64 0] 30)):=(hb.block _ (Zo9 HX2.out)).trans HX2.out
 rcases hE with ⟨_,k,hk,h2⟩ | ⟨rfl,_⟩
 ·rw[HS0.out k hk] at h2
  cases h2
 refine hK _ _ (.inr (HI.out.sl HB3.out)) ?_
 clear hK K hb
 iterate 9
  refine Zr _ rfl rfl (fun w' hS=>by obtain⟨⟨a0,a1⟩,z0,z1⟩:=hS;go_simp;(try simp only[e1.out,Int.toNat_natCast]);first | rfl | (rw[if_pos Za])) ?_
  simp only[Act.put,Zl]
 refine Zt rfl rfl fun K hK=>?_
 go_simp
 go_at_call 22
 refine(ZbH HP.out Zfx HG.out _).mono ?_
 rintro e w4 ⟨rfl,hb⟩
 have HB4:Zo8 w w4:=HB3.out.trans (hb.mono HB3.out.size)
 have HX4:Hid (w4.heap[w.heap.size]?=some (.cells #[.int .i64 0] 30)):=(hb.block _ (Zo9 HX3.out)).trans HX3.out
 refine hK _ _ (.inr (HI.out.sl HB4.out)) ?_
 clear hK K hb
 iterate 2
  refine Zr _ rfl rfl (fun w' hS=>by obtain⟨⟨a0,a1⟩,z0,z1⟩:=hS;go_simp;(try simp only[e1.out,Int.toNat_natCast]);first | rfl | (rw[if_pos Za])) ?_
  simp only[Act.put,Zl]
 refine ZJ ?_
 go_wp2_with fail
 refine(ZhA _ _ _ _).mono ?_
 rintro e w' ⟨rfl,rfl⟩
 obtain⟨L,hL⟩:=Zpg w4.heap.size
 obtain⟨w6,hw6⟩:=Zpg ((w4.alloc (.cells #[.pointer none] 167)).alloc (.cells #[.slice (some ⟨b,off,none⟩) (r+1) c] 72))
 rw[ZoP,hw6,hL]
 have hEL:w.heap.size<L:=by rw[<- hL];exact(Zo9 HX4.out)
 have hD:w6.heap.size=L+2:=by rw[<- hw6];simp[hL]
 have HB6:Zo8 w4 w6:=by rw[<- hw6];exact((Zoq _ w4).alloc Zpf _).alloc Zc _
 have HL6:Hid (w6.heap[L]?=some (lO none)):=by rw[<- hw6,<- hL];exact(ZoG _ _ _ Zc).trans (Zot w4 _)
 have HS6:Hid (w6.cell? ⟨L+1,0,none⟩=some (.slice (some ⟨b,off,none⟩) (r+1) c)):=by rw[<- hw6];exact ZK _ _ _ _ (by simp[hL])
 have HE6:Hid (w6.heap[w.heap.size]?=some (.cells #[.int .i64 0] 30)):=(HB6.out.block _ (by rw[hL];exact hEL)).trans HX4.out
 have hbE:b<w.heap.size:=HI.out.lt
 have HC6:Hid (Zcz b off (r+1) bs w6):=HI.out.cells _ (HB4.out.trans (HB6.out.mono HB4.out.size))
 have HW6:Zo8 w w6:=HB4.out.trans (HB6.out.mono HB4.out.size)
 clear hw6 hL
 go_wp2
 refine(wpIn_wide (n:=9)).1 ?_
 refine ZdY (L+2) hD (gf:=179) (lb:=#[.pointer (some ⟨L+1,0,none⟩)]) (f:=fun k=>#[bV (bAt bs k),bV (bAt bs (k+1))]) (N:=r)
  (S:=fun x=>x<L+2/\x≠L/\x≠w.heap.size) (T:=fun _=>True)
  rfl (enters_of Tryz.func179 Zb rfl) (fun _=>rfl) ?iter (fun _ h=>h.1) ⟨trivial,trivial⟩
  (Zoa bs L w6) (fun c _ W=>Zn6 bs w.heap.size L w6 c W) ?ci ?cx ?start
  (BoxB bs (L+4) ?a1) ?cb ?assign ?body ?done ?stop
 case iter=>
  have:=ZgF (L+1) b off (r+1) c (fun x=>x<L+2/\x≠L/\x≠w.heap.size) bs (by have:=HI.out.two;omega) Za HI.out.cap.1 HI.out.cap.2 w6 ⟨Za,Za,Za⟩ ⟨Za,Za,Za⟩ HS6.out HC6.out
  rwa [ZoT] at this
 case ci=>
  rintro k W1 W2 ⟨h1,⟨pl,h2,h3⟩,h4⟩ hk
  exact⟨h1,⟨pl,(hk.block _ (Zo9 h2) ⟨trivial,Za,Za⟩).trans h2,h3.keeps hk fun g hg=>⟨trivial,Za,Za⟩⟩,h4.trans (hk.mono fun x _ hx=>⟨trivial,Za,Za⟩)⟩
 case cx=>
  rintro cd k W1 W2 ⟨h1,h2,h3,h4⟩ hk
  exact⟨h1,h2,(hk.block _ (Zo9 h3) ⟨trivial,Za,Za⟩).trans h3,h4.trans (hk.mono fun x _ hx=>⟨trivial,Za,Za⟩)⟩
 case start=>exact⟨Pieces.zero bs,⟨none,HL6.out,.inl ⟨rfl,rfl⟩⟩,Keeps.refl _ _⟩
 case cb=>
  rintro k a' W1 W2 ⟨A,h1,h2,h3,h4⟩ hk
  exact⟨A,h1,h2,(hk.block _ (Zo9 h3) ⟨Za,Za⟩).trans h3,(hk.block _ (Zo9 h4) ⟨Za,Za⟩).trans h4⟩
 case assign=>
  intro l k W hk hW
  gi_wp2
  have h1:((W.alloc (bObj (bAt bs k))).alloc (bObj (bAt bs (k+1)))).heap[W.heap.size]?=some (bObj (bAt bs k)):=(ZoG _ _ _ Zc).trans (Zot W _)
  have h2:((W.alloc (bObj (bAt bs k))).alloc (bObj (bAt bs (k+1)))).heap[W.heap.size+1]?=some (bObj (bAt bs (k+1))):=by
   have:=Zot (W.alloc (bObj (bAt bs k))) (bObj (bAt bs (k+1)))
   rwa [ZoP] at this
  have hkk:Keeps (fun _=>True) W ((W.alloc (bObj (bAt bs k))).alloc (bObj (bAt bs (k+1)))):=((Keeps.refl _ W).alloc _).alloc _
  obtain⟨V,hV⟩:=Zpg ((W.alloc (bObj (bAt bs k))).alloc (bObj (bAt bs (k+1))))
  rw[hV] at h1 h2 hkk
  obtain⟨A,hA⟩:=Zpg W.heap.size
  rw[hA] at h1 h2
  simp only[hV,hA,ZoP]
  refine⟨hkk,A,Za,?_,h1,h2⟩
  clear hkk h1 h2 hV hA hW
  exact rfl
 case body=>
  have hfn:∀ k,Fence.wide.fn k:=fun _=>trivial
  rintro l k a' W hk ⟨HPi,⟨pl,HLb,HLa⟩,HK⟩ ⟨A,hA,rfl,hA0,hA1⟩ hW
  have hsm:∀ i,i<r+1->Zw 18 (bAt bs i).1=true/\Zw 18 (bAt bs i).2=true:=fun i hi=>by
   have:=HS0.out i hi
   unfold ZaX at this
   simpa using this
  have z0:=hsm k Za
  have z1:=hsm (k+1) Za
  have C0:=Zbw z0.1
  have H0:=Zbw z0.2
  have C1:=Zbw z1.1
  have H1:=Zbw z1.2
  change IsP (cR bs k) _ _/\Sz 18 (cR bs k) at C0
  change IsP (hR bs k) _ _/\Sz 18 (hR bs k) at H0
  change IsP (cR bs (k+1)) _ _/\Sz 18 (cR bs (k+1)) at C1
  change IsP (hR bs (k+1)) _ _/\Sz 18 (hR bs (k+1)) at H1
  have HZ:Hid ((Sz 18 (cR bs k)/\Sz 18 (hR bs k))/\(Sz 18 (cR bs (k+1))/\Sz 18 (hR bs (k+1)))/\0<=cR bs k/\0<=hR bs k):=⟨⟨C0.2,H0.2⟩,⟨C1.2,H1.2⟩,C0.1.nn,H0.1.nn⟩
  have IC0:=Zpe C0.1
  have IH0:=Zpe H0.1
  have IC1:=Zpe C1.1
  have IH1:=Zpe H1.1
  have HN1:Hid (¬ (cR bs k<cR bs (k+1)/\hR bs k<=hR bs (k+1))->¬ CurveP bs):=fun h hc=>h (hc.up k (by rw[HI.out.len];omega))
  have HN2:Hid (∀ j,j+1=k->¬ slp (cR bs) (hR bs) (j+1)<=slp (cR bs) (hR bs) j->¬ CurveP bs):=fun j hj h hc=>h (hc.conc j (by rw[HI.out.len];omega))
  clear z0 z1 C0 H0 C1 H1 hsm
  have HBW:Zo8 w W:=HW6.out.trans (HK.below_of (fun x hx=>⟨Za,Za⟩) Za)
  have HEW:Hid (W.heap[w.heap.size]?=some (.cells #[.int .i64 0] 30)):=(HK.block _ Za ⟨Za,Za⟩).trans HE6.out
  obtain⟨q0,hq0⟩:=Zpg (bAt bs k)
  obtain⟨q1,hq1⟩:=Zpg (bAt bs (k+1))
  rw[hq0] at hA0 IC0 IH0
  rw[hq1] at hA1 IC1 IH1
  obtain⟨⟨s0,t0⟩,u0,v0⟩:=q0
  obtain⟨⟨s1,t1⟩,u1,v1⟩:=q1
  dsimp only at IC0 IH0 IC1 IH1
  dsimp only
  rw[hq0,hq1]
  have HA:Hid (W.heap[A]?=some (bO s0 t0 u0 v0)/\W.heap[A+1]?=some (bO s1 t1 u1 v1)):=⟨hA0,hA1⟩
  have HLh:Hid (W.heap[L]?=some (lO pl)/\Ze0 bs k (L+4) pl W):=⟨HLb,HLa⟩
  have HKh:=Zpe HK
  have HPh:=Zpe HPi
  clear HPi HLb HLa HK hA0 hA1 hq0 hq1
  obtain⟨g1,hg1⟩:=Zpg (sgnR (cR bs k) (cR bs (k+1)))
  have HG1:=Zpe hg1
  obtain⟨E,hEe⟩:=Zpg w.heap.size
  have HEE:=Zpe hEe
  rw[hEe] at HEW hEL ⊢
  clear hEe
  have a0:W.cell? ⟨A,0,none⟩=some (.string s0):=Zn HA.out.1 0 rfl
  have a1:W.cell? ⟨A,1,none⟩=some (.string t0):=Zn HA.out.1 1 rfl
  have a2:W.cell? ⟨A,2,none⟩=some (.string u0):=Zn HA.out.1 2 rfl
  have a3:W.cell? ⟨A,3,none⟩=some (.string v0):=Zn HA.out.1 3 rfl
  have b0:W.cell? ⟨A+1,0,none⟩=some (.string s1):=Zn HA.out.2 0 rfl
  have b1:W.cell? ⟨A+1,1,none⟩=some (.string t1):=Zn HA.out.2 1 rfl
  have b2:W.cell? ⟨A+1,2,none⟩=some (.string u1):=Zn HA.out.2 2 rfl
  have b3:W.cell? ⟨A+1,3,none⟩=some (.string v1):=Zn HA.out.2 3 rfl
  by_cases hc1:cR bs k<cR bs (k+1)
  ·have hge:¬ (0:Int)<=g1:=by rw[<- hg1];exact Zhg hc1
   obtain⟨g2,hg2⟩:=Zpg (sgnR (hR bs k) (hR bs (k+1)))
   have HG2:=Zpe hg2
   clear hg1
   gi_wp2_with fail
   refine(CallsIn.inRound l (ZoU.2 (ZbH IC0.out IC1.out HG1.out _))).mono ?_
   rintro e W1 ⟨rfl,hb⟩
   have HA1:Hid (W1.heap[A]?=some (bO s0 t0 u0 v0)/\W1.heap[A+1]?=some (bO s1 t1 u1 v1)):=⟨(hb.block _ (Zo9 HA.out.1)).trans HA.out.1,(hb.block _ (Zo9 HA.out.2)).trans HA.out.2⟩
   have HV1:Zo8 W W1:=hb
   clear a0 a1 a2 a3 b0 b1 b2 b3
   clear hb
   have a0:W1.cell? ⟨A,0,none⟩=some (.string s0):=Zn HA1.out.1 0 rfl
   have a1:W1.cell? ⟨A,1,none⟩=some (.string t0):=Zn HA1.out.1 1 rfl
   have a2:W1.cell? ⟨A,2,none⟩=some (.string u0):=Zn HA1.out.1 2 rfl
   have a3:W1.cell? ⟨A,3,none⟩=some (.string v0):=Zn HA1.out.1 3 rfl
   have b0:W1.cell? ⟨A+1,0,none⟩=some (.string s1):=Zn HA1.out.2 0 rfl
   have b1:W1.cell? ⟨A+1,1,none⟩=some (.string t1):=Zn HA1.out.2 1 rfl
   have b2:W1.cell? ⟨A+1,2,none⟩=some (.string u1):=Zn HA1.out.2 2 rfl
   have b3:W1.cell? ⟨A+1,3,none⟩=some (.string v1):=Zn HA1.out.2 3 rfl
   by_cases hc2:hR bs k<=hR bs (k+1)
   ·have hge2:¬ (0:Int)<g2:=by rw[<- hg2];exact ZbZ hc2
    have HCC:Hid (cR bs k<cR bs (k+1)/\hR bs k<=hR bs (k+1)):=⟨hc1,hc2⟩
    clear hg2 hc1 hc2
    gi_wp2_with fail
    refine(CallsIn.inRound l (ZoU.2 (ZbH IH0.out IH1.out HG2.out _))).mono ?_
    rintro e W2 ⟨rfl,hb⟩
    have HA2:Hid (W2.heap[A]?=some (bO s0 t0 u0 v0)/\W2.heap[A+1]?=some (bO s1 t1 u1 v1)):=⟨(hb.block _ (Zo9 HA1.out.1)).trans HA1.out.1,(hb.block _ (Zo9 HA1.out.2)).trans HA1.out.2⟩
    have HV2:Zo8 W W2:=HV1.out.trans (hb.mono HV1.out.size)
    clear a0 a1 a2 a3 b0 b1 b2 b3
    clear hb
    have a0:W2.cell? ⟨A,0,none⟩=some (.string s0):=Zn HA2.out.1 0 rfl
    have a1:W2.cell? ⟨A,1,none⟩=some (.string t0):=Zn HA2.out.1 1 rfl
    have a2:W2.cell? ⟨A,2,none⟩=some (.string u0):=Zn HA2.out.1 2 rfl
    have a3:W2.cell? ⟨A,3,none⟩=some (.string v0):=Zn HA2.out.1 3 rfl
    have b0:W2.cell? ⟨A+1,0,none⟩=some (.string s1):=Zn HA2.out.2 0 rfl
    have b1:W2.cell? ⟨A+1,1,none⟩=some (.string t1):=Zn HA2.out.2 1 rfl
    have b2:W2.cell? ⟨A+1,2,none⟩=some (.string u1):=Zn HA2.out.2 2 rfl
    have b3:W2.cell? ⟨A+1,3,none⟩=some (.string v1):=Zn HA2.out.2 3 rfl
    obtain⟨⟨x1,y1,j1⟩,⟨x2,y2,j2⟩,⟨x,y,j3⟩,j4,_,_⟩:=ZmG HZ.out.2.2.2 HZ.out.2.2.1 HCC.out.1 HCC.out.2 HZ.out.1.2 HZ.out.2.1.2 HZ.out.1.1 HZ.out.2.1.1
    have HJ3:Hid (IsP (slp (cR bs) (hR bs) k) x y):=j3
    have HR:=Zpe (Znr IC0.out IH0.out IC1.out IH1.out j1 j2 j3 j4 W2 (HI.out.tabs.below (HBW.out.trans (HV2.out.mono HBW.out.size)) Zpf))
    clear j1 j2 j3 j4
    gi_wp2_with fail
    refine(CallsIn.inRound l (ZoU.2 HR.out)).mono ?_
    rintro e W3 ⟨rfl,hb⟩
    have HV3:Zo8 W W3:=HV2.out.trans (hb.mono HV2.out.size)
    clear hb HR
    clear a0 a1 a2 a3 b0 b1 b2 b3
    obtain⟨G,hG⟩:=Zpg W3.heap.size
    gi_wp2
    have hGL:L+4<=G:=by rw[<- hG];have:=HV3.out.size;omega
    obtain⟨W4,hW4⟩:=Zpg (W3.alloc (pObj x y))
    have HV4:Zo8 W W4:=by rw[<- hW4];exact HV3.out.alloc HV3.out.size _
    have HG4:Hid (W4.heap[G]?=some (pObj x y)):=by rw[<- hW4,<- hG];exact Zot W3 _
    have HL4:Hid (W4.heap[L]?=some (lO pl)):=(HV4.out.block _ Za).trans HLh.out.1
    have HLa4:=HLh.out.2.keeps (HV4.out.keepsAll (fun _=>True)) (fun _ _=>trivial)
    rw[hW4]
    clear hW4 hG HLh
    rcases HLa4 with ⟨h0,rfl⟩ | ⟨g',x',y',j,rfl,rfl,hgl,hgx,hgp⟩
    ·have HQ:Hid (∀ i,i+1=k->slp (cR bs) (hR bs) (i+1)<=slp (cR bs) (hR bs) i):=fun i hi=>Za
     have c0:W4.cell? ⟨L,0,none⟩=some (.pointer none):=Zn HL4.out 0 rfl
     refine Zbt [(true,0),(true,1),(true,2),(true,3),(true,4),(true,5),(true,6),(false,7),(true,8),(true,9)] (fun w'=>w'.cell? ⟨L,0,none⟩=some (.pointer none)) (fun _=>false)
      Zb Zb (fun _ _=>rfl) Zi (fun _ _ h=>h) c0 ?_
     iterate 3
      refine Zr _ rfl rfl (fun w' hS=>Zf) ?_
      simp only[Act.put,Zl]
     iterate 4
      refine ZR rfl rfl ?_
      simp only[Act.put,Zl]
     refine Z4 rfl rfl c0 ?_
     simp only[Act.put,Zl]
     iterate 1
      refine ZR rfl rfl ?_
      simp only[Act.put,Zl]
     iterate 1
      refine Zr _ rfl rfl (fun w' hS=>Zf) ?_
      simp only[Act.put,Zl]
     refine ZJ ?_
     have c0:W4.drew.cell? ⟨L,0,none⟩=some (.pointer none):=c0
     have f0:W4.drew.frozen? ⟨L,0,none⟩=false:=Zo (w:=W4.drew) HL4.out 0
     have HLV:Hid (W4.drew.heap[L]?=some (lO none)):=HL4.out
     have HGV:Hid (W4.drew.heap[G]?=some (pObj x y)):=HG4.out
     have hb:=HV4.out.drew
     have HKV:Hid (∀ S':Nat->Prop,Keeps S' W (W4.drew)):=fun S'=>hb.keepsAll S'
     clear hb
     gi_wp2
     have nL:¬ (fun x=>(x<L+2/\x≠L/\x≠E)\/x=L+2\/x=L+2+1) L:=fun h=>by rcases h with ⟨_,h,_⟩ | h | h<;>omega
     refine⟨(HKV.out _).setCell (p:=⟨L,0,none⟩) nL _,HPh.out.succ HCC.out HQ.out,⟨some ⟨G,0,none⟩,Zov HLV.out _,.inr ⟨G,x,y,_,rfl,rfl,hGL,(Zos _ _ _ _ (by show G≠L;omega)).trans HGV.out,HJ3.out⟩⟩,(HKh.out.trans (HKV.out _)).setCell (p:=⟨L,0,none⟩) Zc _⟩
    ·obtain⟨g3,hg3⟩:=Zpg (sgnR (slp (cR bs) (hR bs) (j+1)) (slp (cR bs) (hR bs) j))
     have HG3:=Zpe hg3
     have HGP:=Zpe hgp
     have c0:W4.cell? ⟨L,0,none⟩=some (.pointer (some ⟨g',0,none⟩)):=Zn HL4.out 0 rfl
     have d0:W4.cell? ⟨G,0,none⟩=some (.string x):=Zn HG4.out 0 rfl
     have d1:W4.cell? ⟨G,1,none⟩=some (.string y):=Zn HG4.out 1 rfl
     have p0:W4.cell? ⟨g',0,none⟩=some (.string x'):=Zn hgx 0 rfl
     have p1:W4.cell? ⟨g',1,none⟩=some (.string y'):=Zn hgx 1 rfl
     have HS4:Hid (∀ V,Below W4.heap.size W4 V->SW L G g' x y x' y' V):=fun V hV=>by
      have e1:=hV.block L (Zo9 HL4.out)
      have e2:=hV.block G (Zo9 HG4.out)
      have e3:=hV.block g' (Zo9 hgx)
      exact⟨(ZoI e1).trans c0,(ZoI e2).trans d0,(ZoI e2).trans d1,(ZoI e3).trans p0,(ZoI e3).trans p1⟩
     clear c0 d0 d1 p0 p1 hgp hgx
     refine Zbt [(true,0),(true,1),(true,2),(true,3),(true,4),(true,5),(true,6),(false,7),(true,8),(true,9)] (SW L G g' x y x' y') (fun _=>false)
      Zb Zb (fun _ _=>rfl) Zi (fun _ _ h=>h) (HS4.out _ (Zoq _ W4).drew) ?_
     iterate 7
      refine Zr _ rfl rfl (fun w' hS=>by obtain⟨c0,d0,d1,p0,p1⟩:=hS;exact Zf) ?_
      simp only[Act.put,Zl]
     refine Zt rfl rfl fun K hK=>?_
     go_simp
     go_at_call 22
     refine(ZbH HJ3.out HGP.out HG3.out _).mono ?_
     rintro e W5 ⟨rfl,hb⟩
     have hb4:Below W4.heap.size W4 W5:=(Zoq _ W4).drew.trans hb
     have HLV:Hid (W5.heap[L]?=some (lO (some ⟨g',0,none⟩))):=(hb4.block _ (Zo9 HL4.out)).trans HL4.out
     have HGV:Hid (W5.heap[G]?=some (pObj x y)):=(hb4.block _ (Zo9 HG4.out)).trans HG4.out
     have HV5:Zo8 W W5:=HV4.out.trans (hb4.mono HV4.out.size)
     refine hK _ _ (.inr (HS4.out _ hb4)) ?_
     clear hK K hb hb4
     iterate 2
      refine Zr _ rfl rfl (fun w' hS=>by obtain⟨c0,d0,d1,p0,p1⟩:=hS;exact Zf) ?_
      simp only[Act.put,Zl]
     refine ZJ ?_
     by_cases hc3:slp (cR bs) (hR bs) (j+1)<=slp (cR bs) (hR bs) j
     ·have HQ:Hid (∀ i,i+1=j+1->slp (cR bs) (hR bs) (i+1)<=slp (cR bs) (hR bs) i):=fun i hi=>by
       obtain rfl:i=j:=Za
       exact hc3
      have hge3:¬ (0:Int)<g3:=by rw[<- hg3];exact ZbZ hc3
      clear hg3 hc3
      have c0:W5.cell? ⟨L,0,none⟩=some (.pointer (some ⟨g',0,none⟩)):=Zn HLV.out 0 rfl
      have f0:W5.frozen? ⟨L,0,none⟩=false:=Zo HLV.out 0
      have hb:=HV5.out
      have HKV:Hid (∀ S':Nat->Prop,Keeps S' W (W5)):=fun S'=>hb.keepsAll S'
      clear hb
      gi_wp2
      have nL:¬ (fun x=>(x<L+2/\x≠L/\x≠E)\/x=L+2\/x=L+2+1) L:=fun h=>by rcases h with ⟨_,h,_⟩ | h | h<;>omega
      refine⟨(HKV.out _).setCell (p:=⟨L,0,none⟩) nL _,HPh.out.succ HCC.out HQ.out,⟨some ⟨G,0,none⟩,Zov HLV.out _,.inr ⟨G,x,y,_,rfl,rfl,hGL,(Zos _ _ _ _ (by show G≠L;omega)).trans HGV.out,HJ3.out⟩⟩,(HKh.out.trans (HKV.out _)).setCell (p:=⟨L,0,none⟩) Zc _⟩
     ·have hge3:(0:Int)<g3:=by rw[<- hg3];exact Zb2 hc3
      have HN:Hid (¬ CurveP bs):=HN2.out j rfl hc3
      clear hg3 hc3
      have hb:=HV5.out
      have hEV:W5.heap[E]?=some (.cells #[.int .i64 0] 30):=(hb.block _ (Zo9 HEW.out)).trans HEW.out
      have e0:=Zn hEV 0 rfl
      have ef:=Zo hEV 0
      have HEV:=Zpe hEV
      have HKV:Hid (∀ S':Nat->Prop,Keeps S' W W5):=fun S'=>hb.keepsAll S'
      clear hb hEV
      gi_wp2
      have nE:¬ (fun x=>(x<L+2/\x≠L/\x≠E)\/x=L+2\/x=L+2+1) E:=by simp;omega
      refine⟨(HKV.out _).setCell (p:=⟨E,0,none⟩) nE _,rfl,HN.out,Zov HEV.out _,((HKh.out.mono fun x _ hx=>⟨hx.1,hx.2.1⟩).trans (HKV.out _)).setCell (p:=⟨E,0,none⟩) Zc _⟩
   ·have hge2:(0:Int)<g2:=by rw[<- hg2];exact Zb2 hc2
    have HN:Hid (¬ CurveP bs):=HN1.out fun h=>hc2 h.2
    have HEW1:Hid (W1.heap[E]?=some (.cells #[.int .i64 0] 30)):=(HV1.out.block _ (Zo9 HEW.out)).trans HEW.out
    clear hg2 hc1 hc2
    gi_wp2_with fail
    refine(CallsIn.inRound l (ZoU.2 (ZbH IH0.out IH1.out HG2.out _))).mono ?_
    rintro e W2 ⟨rfl,hb⟩
    have hb:Below W.heap.size W W2:=HV1.out.trans (hb.mono HV1.out.size)
    have hEV:W2.heap[E]?=some (.cells #[.int .i64 0] 30):=(hb.block _ (Zo9 HEW.out)).trans HEW.out
    have e0:=Zn hEV 0 rfl
    have ef:=Zo hEV 0
    have HEV:=Zpe hEV
    have HKV:Hid (∀ S':Nat->Prop,Keeps S' W W2):=fun S'=>hb.keepsAll S'
    clear hb hEV a0 a1 a2 a3 b0 b1 b2 b3
    gi_wp2
    have nE:¬ (fun x=>(x<L+2/\x≠L/\x≠E)\/x=L+2\/x=L+2+1) E:=by simp;omega
    refine⟨(HKV.out _).setCell (p:=⟨E,0,none⟩) nE _,rfl,HN.out,Zov HEV.out _,((HKh.out.mono fun x _ hx=>⟨hx.1,hx.2.1⟩).trans (HKV.out _)).setCell (p:=⟨E,0,none⟩) Zc _⟩
  ·have hge:(0:Int)<=g1:=by rw[<- hg1];exact Zha hc1
   have HN:Hid (¬ CurveP bs):=HN1.out fun h=>hc1 h.1
   clear hc1 hg1
   gi_wp2_with fail
   refine(CallsIn.inRound l (ZoU.2 (ZbH IC0.out IC1.out HG1.out _))).mono ?_
   rintro e W1 ⟨rfl,hb⟩
   have hEV:W1.heap[E]?=some (.cells #[.int .i64 0] 30):=(hb.block _ (Zo9 HEW.out)).trans HEW.out
   have e0:=Zn hEV 0 rfl
   have ef:=Zo hEV 0
   have HEV:=Zpe hEV
   have HKV:Hid (∀ S':Nat->Prop,Keeps S' W W1):=fun S'=>hb.keepsAll S'
   clear hb hEV a0 a1 a2 a3 b0 b1 b2 b3
   gi_wp2
   have nE:¬ (fun x=>(x<L+2/\x≠L/\x≠E)\/x=L+2\/x=L+2+1) E:=by simp;omega
   refine⟨(HKV.out _).setCell (p:=⟨E,0,none⟩) nE _,rfl,HN.out,Zov HEV.out _,((HKh.out.mono fun x _ hx=>⟨hx.1,hx.2.1⟩).trans (HKV.out _)).setCell (p:=⟨E,0,none⟩) Zc _⟩
 case done=>
  rintro W ⟨HPi,_,HK⟩ hdef
  have hE0:W.heap[w.heap.size]?=some (.cells #[.int .i64 0] 30):=(HK.block _ Za ⟨Za,Za⟩).trans HE6.out
  have cr:=Zn hE0 0 rfl
  have fr:=Zo hE0 0
  have HE0:=Zpe hE0
  have HKh:=Zpe HK
  have HPh:=Zpe HPi
  clear HK hE0 HPi
  go_wp2
  have hdef':(W.setCell ⟨w.heap.size,0,none⟩ (.int .i64 0)).heap[L+2]?=some (.deferred (some [])):=(Zos _ _ _ _ (by show L+2≠w.heap.size;omega)).trans hdef
  have hc5:((W.setCell ⟨w.heap.size,0,none⟩ (.int .i64 0)).putObj (L+2) (.deferred none)).cell? ⟨w.heap.size,0,none⟩=some (.int .i64 0):=
   (ZoI (ZoJ (by show w.heap.size≠L+2;omega))).trans (Zn (Zov HE0.out _) 0 rfl)
  unfold Calm bodyPostM
  refine⟨Zc,.inl ⟨_,_,rfl,run_takeDeferred hdef',?_⟩⟩
  have HB9:Hid (Below w.heap.size w ((W.setCell ⟨w.heap.size,0,none⟩ (.int .i64 0)).putObj (L+2) (.deferred none))):=by
   have h1:=((HKh.out.mono (S':=fun x=>x<w.heap.size) (fun x _ hx=>⟨Za,Za⟩)).setCell (p:=⟨w.heap.size,0,none⟩) Zc (.int .i64 0)).putObj (r:=L+2) (by show ¬ L+2<w.heap.size;omega) (.deferred none)
   exact HW6.out.trans (h1.below_of (fun _ h=>h) Za)
  refine⟨.int .i64 0,by simp[results,Tryz.f80,go_sem,hc5],0,rfl,.inl ⟨?_,rfl⟩,HB9.out⟩
  have hsm:∀ i,i<bs.length->Zw 18 (bAt bs i).1=true/\Zw 18 (bAt bs i).2=true:=fun i hi=>by
   have:=HS0.out i (by rw[<- HI.out.len];exact hi)
   unfold ZaX at this
   simpa using this
  have hl:=HI.out.len
  have htw:=HI.out.two
  exact HPh.out.curve hl ⟨Za,Za⟩ HI.out.first hsm HX.out
 case stop=>
  rintro cd k W hk ⟨rfl,HN,hE2,HK⟩ hdef
  have HE2:=Zpe hE2
  have HKh:=Zpe HK
  clear HK hE2
  gi_wp2
  unfold Calm bodyPostM
  have hc5:(W.putObj (L+2) (.deferred none)).cell? ⟨w.heap.size,0,none⟩=some (.int .i64 2):=(ZoI (ZoJ (by show w.heap.size≠L+2;omega))).trans (Zn HE2.out 0 rfl)
  refine⟨Zc,.inl ⟨_,_,rfl,run_takeDeferred hdef,?_⟩⟩
  have HB9:Hid (Below w.heap.size w (W.putObj (L+2) (.deferred none))):=by
   have h1:=(HKh.out.mono (S':=fun x=>x<w.heap.size) (fun x _ hx=>⟨Za,Za,Za⟩)).putObj (r:=L+2) (by show ¬ L+2<w.heap.size;omega) (.deferred none)
   exact HW6.out.trans (h1.below_of (fun _ h=>h) Za)
  exact⟨.int .i64 2,by simp[results,Tryz.f80,go_sem,hc5],2,rfl,.inr ⟨HN,rfl⟩,HB9.out⟩
theorem Zle {v:Value} {bs:List BB} {w:World} {p:Option Addr} {n c:Nat} (hv:BL w v bs) (hpv:v=.slice p n c) (hn:bs.length=n) (h2:2<=n) (h64:n<=64) (hf:bAt bs 0=Zcc)
  (hz:∀ x ∈ bs,(x.1.1.size<=1000000/\x.1.2.size<=1000000)/\(x.2.1.size<=1000000/\x.2.2.size<=1000000)) (hD:DetV w) (hT:Tabs w):∃ b off,p=some ⟨b,off,none⟩/\CurveIn b off (n-1) c bs w:=by
 subst hpv
 obtain⟨b,off,rfl,hb,hat⟩:=hv.at hn Za
 obtain⟨_,hc,hnc⟩:=hv.len
 refine⟨b,off,rfl,Za,Za,Za,⟨Za,hc⟩,hf,hz,hb,fun W hW k hk=>hat W hW k Za,hD,hT⟩
theorem Zea {v:Value} {bs:List BB} {w:World} (hv:BL w v bs) (hz:∀ x ∈ bs,(x.1.1.size<=1000000/\x.1.2.size<=1000000)/\(x.2.1.size<=1000000/\x.2.2.size<=1000000)) (hD:DetV w) (hT:Tabs w) :
  Calls Tryz.prog 80 #[v] w (Zct bs w):=by
 obtain⟨n,hn⟩:=Zpg bs.length
 obtain⟨p,c,rfl⟩:∃ p c,v=.slice p n c:=by obtain⟨p,c,h,_⟩:=id hv;exact⟨_,_,by rw[<- hn];exact h⟩
 obtain⟨_,hc,hnc⟩:=hv.len
 by_cases h:2<=n/\n<=64
 ·obtain⟨h2,h64⟩:=h
  by_cases hf:bAt bs 0=Zcc
  ·obtain⟨b,off,rfl,hI⟩:=Zle hv rfl hn h2 h64 hf hz hD hT
   obtain⟨r,rfl⟩:∃ r,n=r+1:=⟨n-1,Za⟩
   rw[ZoT] at hI
   by_cases hs:∃ k,k<r+1/\ZaX bs k=true
   ·exact ZjN hI hs
   ·have hs2:∀ k,k<r+1->ZaX bs k=false:=fun k hk=>by
     cases h:ZaX bs k with
     | false=>rfl
     | true=>exact Zo4 ⟨k,hk,h⟩ hs
    by_cases hx:hR bs r<=1
    ·exact ZkT hI hs2 hx
    ·exact Zmt hI hs2 Zk
  ·obtain⟨b,off,rfl,hb,hat⟩:=hv.at hn Za
   obtain⟨⟨⟨s,t⟩,u,v⟩,hq⟩:∃ q,bAt bs 0=q:=⟨_,rfl⟩
   refine ZjE hn h2 h64 hq ?_ hf fun W hW=>?_
   ·intro a1 a2 a3 a4
    refine hf ?_
    rw[hq]
    rw[ZoN] at a1 a2 a3 a4
    have e1:s=⟨#[48]⟩:=by rw[<- ZaZ s,a1];rfl
    have e2:t=⟨#[49]⟩:=by rw[<- ZaZ t,a2];rfl
    have e3:u=⟨#[48]⟩:=by rw[<- ZaZ u,a3];rfl
    have e4:v=⟨#[49]⟩:=by rw[<- ZaZ v,a4];rfl
    rw[e1,e2,e3,e4]
   ·have h1:=hat W hW 0 Za
    rw[hq,Nat.zero_mul,Nat.add_zero] at h1
    have hd:=hD.below hW Zpf
    exact⟨h1,hd.z0,hd.z1⟩
 ·refine Zmf hn Za ?_
  rw[Bool.and_eq_false_iff,decide_eq_false_iff_not,decide_eq_false_iff_not]
  omega
end Go.Proofs.YtmpaflidennnoaaGreatDoor
