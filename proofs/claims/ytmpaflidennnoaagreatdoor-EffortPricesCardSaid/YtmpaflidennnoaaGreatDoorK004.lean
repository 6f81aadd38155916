/- The parts EGreatN, EffBd, EffHrs, EffD, EffFit, EffImp, EffPri, EPrices, EPricesW, EPricesX. -/
import Derived.Test.YtmpaflidennnoaaGreatDoorK003
set_option maxRecDepth 100000
set_option maxHeartbeats 8000000
set_option linter.unusedVariables false
set_option linter.unusedSimpArgs false
namespace Go.Proofs.YtmpaflidennnoaaGreatDoor
open Go.RowKit Go.Shelf
attribute [local go_sem ↓] Go.wp_at_zero Go.wp_at_succ
attribute [local go_sem] Oper.semAt_some
abbrev niO (a:Int):Obj:=.cells #[.int .i64 a] 3
def numE (e:Nat->Int):Option Nat->Value
 | none=>.int .i64 0
 | some k=>.int .i64 (e k)
def numO (e:Nat->Int):Option Nat->Obj
 | none=>niO 0
 | some k=>niO (e k)
def BoxI (e:Nat->Int) (B:Nat) (a1:Nat->Nat->Act) (k:Nat) (a':Act) (W:World):Prop:=
 ∃ A,B<=A/\a'=a1 k A/\W=W
theorem Zif {e:Nat->Int} {g:Nat->Rat} {N:Nat} {Sx:Nat->Prop} {J:Nat->World->Prop} {gf of:Nat} {lb caps:Array Value} {w:World}
  (hgf:∀ args w,(callFunc gf args).run Tryz.prog w=.ok (.enter gf args) w) (hof:∀ args w,(callFunc of args).run Tryz.prog w=.ok (.enter of args) w)
  (hup:∀ b,w.heap.size<=b->Sx b) (hJ:∀ k W1 W2,J k W1->Keeps (fun b=>b<w.heap.size) W1 W2->J k W2) (h0:J 0 w) (hz:∀ V,Keeps Sx w V->EffZ V)
  (hit:∀ V,Keeps Sx w V->Iter Tryz.prog gf lb (fun k=>#[.int .i64 (e k)]) N (fun b=>b<w.heap.size/\Sx b) (fun _=>True) V)
  (hc:∀ k,k<N->∀ V,Keeps Sx w V->J k V->Calls Tryz.prog of (#[.int .i64 (e k)]++caps) V (fun e' V'=>∃ x y,e'=.returned (pV x y)/\IsP (g k) x y/\Keeps Sx V V'/\J (k+1) V')) :
  Calls Tryz.prog 135 #[.func (.func gf) #[] lb,.func (.func of) #[] caps] w (ZdS Sx (numE e) g N J w):=by
 have HUP:=Zpp hup
 have HJ:=Zpp hJ
 have HIT:=Zpp hit
 have HC:=Zpp hc
 have HZ:=Zpp hz
 have HJ0:=Zpp h0
 have HGF:=Zpp hgf
 clear hup hJ hit hc hz h0 hgf
 obtain⟨w4,hw4⟩:=Zpr ((((w.alloc (.cells #[.func (.func of) #[] caps] 116)).alloc (niO 0)).alloc (pObj Zpm Zpm)).alloc (flO false))
 obtain⟨P,hP⟩:=Zpr w.heap.size
 have HX:Zw P [.cells #[.func (.func of) #[] caps] 116,niO 0,pObj Zpm Zpm,flO false] w4:=by rw[<- hw4,<- hP];exact Zw.four w _ _ _ _
 have hk4:Keeps Sx w w4:=by rw[<- hw4];exact((((Keeps.refl Sx w).alloc _).alloc _).alloc _).alloc _
 have HK5:Hid (∀ V:World,Keeps (fun b=>b<w.heap.size) w V->J 0 V):=fun V hV=>HJ.out _ _ _ HJ0.out hV
 have hs4:w4.heap.size=P+4:=by rw[<- hw4,<- hP];simp
 have z:=HZ.out _ hk4
 have z0:=z.z0
 have z1:=z.z1
 have c0:=HX.cell 2 0 (b:=P+1+1) (v:=.string Zpm) rfl rfl rfl
 have c1:=HX.cell 2 1 (b:=P+1+1) (v:=.string Zpm) rfl rfl rfl
 have f0:=HX.free 2 0 (b:=P+1+1) rfl rfl
 have f1:=HX.free 2 1 (b:=P+1+1) rfl rfl
 have HPP:=Zpp hP
 clear z
 refine ZcL Tryz.func135 rfl ?_
 simp only[Tryz.ntmps135,List.size_toArray,List.length_cons,List.length_nil,Nat.reduceAdd,Nat.reduceSub,Array.replicate_succ,Array.replicate_zero,List.push_toArray,List.append_toArray,List.nil_append,List.cons_append]
 go_wp2_with fail
 obtain⟨w5,hw5⟩:=Zpr ((w4.setCell ⟨P+1+1,0,none⟩ (.string ⟨#[48]⟩)).setCell ⟨P+1+1,1,none⟩ (.string ⟨#[49]⟩))
 have o5:∀ k,k≠P+1+1->w5.heap[k]?=w4.heap[k]?:=fun k hk=>by rw[<- hw5];exact(ZoO _ _ _ _ hk).trans (ZoO _ _ _ _ hk)
 have hk5:Keeps Sx w w5:=by
  refine hk4.via (S':=fun b=>b≠P+1+1) ?_ fun b hb _=>by show b≠P+1+1;omega
  rw[<- hw5]
  exact((Keeps.refl _ w4).setCell Zc _).setCell Zc _
 have HG5:Hid (GreatI Sx w P (.cells #[.func (.func of) #[] caps] 116) (niO 0) ⟨#[48]⟩ ⟨#[49]⟩ false w5):=
  ⟨hk5,(o5 P Za).trans (HX.block 0 rfl rfl),(o5 _ Za).trans (HX.block 1 rfl rfl),by rw[<- hw5];exact Zaf (HX.block 2 (b:=P+1+1) rfl rfl) _ _,(o5 _ Za).trans (HX.block 3 (b:=P+1+1+1) rfl rfl)⟩
 have hkB:Keeps (fun b=>b<w.heap.size) w w5:=by
  rw[<- hw5,<- hw4]
  exact((((((Keeps.refl _ w).alloc _).alloc _).alloc _).alloc _).setCell (by show ¬ P+1+1<w.heap.size;omega) _).setCell (by show ¬ P+1+1<w.heap.size;omega) _
 have hD:w5.heap.size=P+4:=by rw[<- hw5];simp[hs4]
 rw[hw5]
 clear hw5 o5 z0 z1 c0 c1 f0 f1 HX hk4 hs4 hw4
 refine(wpIn_wide (n:=9)).1 ?_
 refine Zc8 (P+4) hD (gf:=gf) (lb:=lb) (f:=fun k=>#[.int .i64 (e k)]) (N:=N) (S:=fun x=>x<P/\Sx x) (T:=fun _=>True)
  rfl HGF.out (fun _=>rfl) ?iter (fun _ h=>Za) ⟨trivial,trivial⟩
  (Zit Sx w P (.cells #[.func (.func of) #[] caps] 116) (numO e) g J) (fun _ _ _=>False) ?ci ?cx ?start
  (BoxI e (P+6) ?a1) ?cb ?assign ?body ?done ?stop
 case iter=>
  have:=HIT.out _ hk5
  rwa [hP] at this
 case ci=>
  rintro k W1 W2 ⟨r,m,x,y,h1,h2,h3,h4⟩ hk
  exact⟨r,m,x,y,h1,h2,h3.keep hP.symm hk (fun b hb _=>⟨trivial,Za,Za⟩) ⟨⟨trivial,Za,Za⟩,⟨trivial,Za,Za⟩,⟨trivial,Za,Za⟩,⟨trivial,Za,Za⟩⟩,
   HJ.out _ _ _ h4 (hk.mono fun b _ hb=>⟨trivial,Za,Za⟩)⟩
 case cx=>exact fun _ _ _ _ h _=>h
 case start=>
  exact⟨none,0,_,_,Best.zero g,Z1,HG5.out,HK5.out _ hkB⟩
 case cb=>
  rintro k a' W1 W2 ⟨A,h1,h2,h3⟩ hk
  exact⟨A,h1,h2,rfl⟩
 case assign=>
  intro l k W hk hW
  gi_wp2
  obtain⟨A,hA⟩:=Zpr (P+6)
  refine⟨Keeps.refl _ W,A,Za,?_,rfl⟩
  clear hW hA
  exact rfl
 case body=>
  have hfn:∀ k,Fence.wide.fn k:=fun _=>trivial
  rintro l k a' W hk ⟨r,m,x,y,hB,hI,hG,hJk⟩ ⟨A,hA,rfl,_⟩ hW
  have hcall:=HC.out k hk W hG.base hJk
  obtain⟨s,hst⟩:=Zpr (e k)
  have HST:=Zpp hst
  rw[hst] at hcall
  dsimp only
  rw[hst]
  have HB:=Zpp hB
  have HI:=Zpp hI
  have HG:=Zpp hG
  have HCL:=Zpp hcall
  have p0:W.cell? ⟨P,0,none⟩=some (.func (.func of) #[] caps):=Zn hG.b0 0 rfl
  clear hB hI hG hJk hcall hst
  gi_wp2_with fail
  refine(CallsIn.inRound l (Zpg.2 HCL.out)).mono ?_
  rintro e' V ⟨x2,y2,rfl,hx2,hkV,hJV⟩
  have HX2:=Zpp hx2
  have HJV:=Zpp hJV
  have HKV:=Zpp hkV
  have HGV:=Zpp (HG.out.keep hP.symm hkV (fun b _ hs=>hs) ⟨HUP.out _ Za,HUP.out _ Za,HUP.out _ Za,HUP.out _ Za⟩)
  clear hx2 hJV hkV p0
  have c0:(V.alloc (pObj x2 y2)).cell? ⟨V.heap.size,0,none⟩=some (.string x2):=ZG _ _ _ 0 rfl
  have c1:(V.alloc (pObj x2 y2)).cell? ⟨V.heap.size,1,none⟩=some (.string y2):=ZG _ _ _ 1 rfl
  have HG1:Hid (GreatI Sx w P (.cells #[.func (.func of) #[] caps] 116) (numO e r) x y r.isSome (V.alloc (pObj x2 y2))):=HGV.out.keep (S:=fun _=>True) hP.symm ((Keeps.refl _ V).alloc _) (fun _ _ _=>trivial) ⟨trivial,trivial,trivial,trivial⟩
  have d0:=Zn HG1.out.b2 0 (v:=.string x) rfl
  have d1:=Zn HG1.out.b2 1 (v:=.string y) rfl
  obtain⟨n,hn⟩:=Zpr (sgnR (g k) m)
  gi_wp2_with fail
  refine(CallsIn.inRound l (Zpg.2 (Zby HX2.out HI.out hn _))).mono ?_
  rintro e' V2 ⟨rfl,hb⟩
  obtain⟨g8,hg8⟩:=Zpr V.heap.size
  have h8:V2.heap[g8]?=some (pObj x2 y2):=by
   rw[<- hg8]
   exact(hb.block _ Zc).trans (ZoP V _)
  have hkA:Keeps Sx V (V.alloc (pObj x2 y2)):=(Keeps.refl _ V).alloc _
  have hkJ:Keeps (fun b=>b<w.heap.size) V V2:=((Keeps.refl _ V).alloc _).trans (hb.keepsS _)
  have HK2:=Zpp (HKV.out.trans (hkA.trans (hb.keepsS Sx)))
  have HG2:=Zpp (HG1.out.keep hP.symm (hb.keepsS (fun _=>True)) (fun _ _ _=>trivial) ⟨trivial,trivial,trivial,trivial⟩)
  have HJ2:=Zpp (HJ.out _ _ _ HJV.out hkJ)
  have H8:=Zpp h8
  have HRE:Hid (∀ b,((b<P/\Sx b)\/b=P+4\/b=P+4+1)->Sx b):=fun b hs=>by
   rcases hs with ⟨_,h⟩ | h | h
   ·exact h
   ·exact HUP.out _ Za
   ·exact HUP.out _ Za
  have hPg:P+6<=g8:=by
   rw[<- hg8]
   exact ZoV hW HKV.out.size
  clear c0 c1 d0 d1 hb hkA hkJ h8 HG1 HGV HJV
  by_cases hlt:m<g k
  ·have hge:(0:Int)<n:=by rw[<- hn];exact Za6 (Rat.not_le.2 hlt)
   have HBU:=Zpp (HB.out.up hlt)
   clear hn hlt
   gi_wp2
   obtain⟨sa,hab⟩:∃ a,numO e r=niO a:=by cases r<;>exact⟨_,rfl⟩
   refine Za8 [(true,0),(true,1),(false,2),(false,3),(false,4)] (fun W'=>W'.heap[g8]?=some (pObj x2 y2)) (fun _=>false)
    Zb Zb (fun _ _=>rfl) Zi (fun _ _ h=>h) H8.out ?_
   have b1:V2.drew.heap[P+1]?=some (niO sa):=by rw[<- hab];exact HG2.out.b1
   have b2:V2.drew.heap[P+1+1]?=some (pObj x y):=HG2.out.b2
   have b3:V2.drew.heap[P+1+1+1]?=some (flO r.isSome):=HG2.out.b3
   have b0:V2.drew.heap[P]?=some (.cells #[.func (.func of) #[] caps] 116):=HG2.out.b0
   have b8:V2.drew.heap[g8]?=some (pObj x2 y2):=H8.out
   have HKD:Hid (Keeps Sx W V2.drew):=HK2.out.drew
   have HKW:Hid (Keeps Sx w V2.drew):=HG2.out.base.drew
   have HJD:Hid (J (k+1) V2.drew):=HJ.out _ _ _ HJ2.out (Keeps.refl _ V2).drew
   obtain⟨V3,hV3⟩:=Zpr V2.drew
   rw[hV3] at b0 b1 b2 b3 b8 HKD HKW HJD ⊢
   clear hV3 HK2 HG2 HJ2 hab
   iterate 2
    refine Zr _ rfl rfl (fun w' hS=>by have h2:=hS;have e0:=Zn h2 0 (v:=.string x2) rfl;have e1:=Zn h2 1 (v:=.string y2) rfl;exact Zf) ?_
    simp only[Act.put,Zl]
   have c0:=Zn b1 0 (v:=.int .i64 sa) rfl
   have f0:=Zo b1 0
   refine Zu rfl rfl fun K hK=>?_
   go_simp
   obtain⟨V4,hV4⟩:=Zpr (V3.setCell ⟨P+1,0,none⟩ (.int .i64 s))
   have o4:∀ j,j≠P+1->V4.heap[j]?=V3.heap[j]?:=fun j hj=>by rw[<- hV4];exact ZoO _ _ _ _ hj
   have d1:V4.heap[P+1]?=some (niO s):=by rw[<- hV4];exact ZoR b1 _
   have k4:Keeps (fun b=>b≠P+1) V3 V4:=by rw[<- hV4];exact(Keeps.refl _ V3).setCell Zc _
   rw[hV4]
   refine hK _ _ (.inr ((o4 _ Za).trans b8)) ?_
   clear hK K hV4 c0 f0 b1
   have b0:=(o4 _ Za).trans b0
   have b2:=(o4 _ Za).trans b2
   have b3:=(o4 _ Za).trans b3
   have b8:=(o4 _ Za).trans b8
   have c0:=Zn b2 0 (v:=.string x) rfl
   have c1:=Zn b2 1 (v:=.string y) rfl
   have f0:=Zo b2 0
   have f1:=Zo b2 1
   refine Zu rfl rfl fun K hK=>?_
   go_simp
   obtain⟨V5,hV5⟩:=Zpr ((V4.setCell ⟨P+1+1,0,none⟩ (.string x2)).setCell ⟨P+1+1,1,none⟩ (.string y2))
   have o5:∀ j,j≠P+1+1->V5.heap[j]?=V4.heap[j]?:=fun j hj=>by rw[<- hV5];exact(ZoO _ _ _ _ hj).trans (ZoO _ _ _ _ hj)
   have d2:V5.heap[P+1+1]?=some (pObj x2 y2):=by rw[<- hV5];exact Zaf b2 _ _
   have k5:Keeps (fun b=>b≠P+1+1) V4 V5:=by rw[<- hV5];exact((Keeps.refl _ V4).setCell Zc _).setCell Zc _
   rw[hV5]
   refine hK _ _ (.inr ((o5 _ Za).trans b8)) ?_
   clear hK K hV5 c0 c1 f0 f1 b2
   have b0:=(o5 _ Za).trans b0
   have d1:=(o5 _ Za).trans d1
   have b3:=(o5 _ Za).trans b3
   have b8:=(o5 _ Za).trans b8
   have c0:=Zn b3 0 (v:=.bool r.isSome) rfl
   have f0:=Zo b3 0
   refine Zu rfl rfl fun K hK=>?_
   go_simp
   obtain⟨V6,hV6⟩:=Zpr (V5.setCell ⟨P+1+1+1,0,none⟩ (.bool true))
   have o6:∀ j,j≠P+1+1+1->V6.heap[j]?=V5.heap[j]?:=fun j hj=>by rw[<- hV6];exact ZoO _ _ _ _ hj
   have d3:V6.heap[P+1+1+1]?=some (flO true):=by rw[<- hV6];exact ZoR b3 _
   have k6:Keeps (fun b=>b≠P+1+1+1) V5 V6:=by rw[<- hV6];exact(Keeps.refl _ V5).setCell Zc _
   rw[hV6]
   refine hK _ _ (.inr ((o6 _ Za).trans b8)) ?_
   clear hK K hV6 c0 f0 b3
   have HKK:Hid (∀ (S:Nat->Prop),¬ S (P+1)->¬ S (P+1+1)->¬ S (P+1+1+1)->Keeps S V3 V6):=fun S h1 h2 h3=>
    (((k4.mono fun b _ hb e=>h1 (e ▸ hb)).trans (k5.mono fun b _ hb e=>h2 (e ▸ hb))).trans (k6.mono fun b _ hb e=>h3 (e ▸ hb)))
   have HG6:Hid (GreatI Sx w P (.cells #[.func (.func of) #[] caps] 116) (numO e (some k)) x2 y2 true V6):=
    ⟨HKW.out.via (HKK.out (fun b=>b<P) Za Za Za) (fun b hb _=>Za),(o6 _ Za).trans b0,by show V6.heap[P+1]?=some (niO (e k));rw[HST.out];exact(o6 _ Za).trans d1,(o6 _ Za).trans d2,d3⟩
   have HJ6:Hid (J (k+1) V6):=HJ.out _ _ _ HJD.out (HKK.out _ Za Za Za)
   have HKE:Hid (Keeps (fun b=>(b<P/\Sx b)\/b=P+4\/b=P+4+1) W V6):=(HKD.out.mono fun b _ hs=>HRE.out b hs).trans (HKK.out _ Za Za Za)
   clear o4 o5 o6 k4 k5 k6 d1 d2 d3 b0 b8
   refine ZJ ?_
   gi_wp2
   exact⟨HKE.out,some k,g k,x2,y2,HBU.out,HX2.out,HG6.out,HJ6.out⟩
  ·have hge:¬ (0:Int)<n:=by rw[<- hn];exact Za5 (Rat.not_lt.1 hlt)
   have HBU:=Zpp (HB.out.keep (Rat.not_lt.1 hlt))
   clear hn hlt
   gi_wp2
   exact⟨HK2.out.mono fun b _ hs=>HRE.out b hs,r,m,x,y,HBU.out,HI.out,HG2.out,HJ2.out⟩
 case done=>
  rintro W ⟨r,m,x,y,hB,hI,hG,hJk⟩ hdef
  obtain⟨sa,hab,hae⟩:∃ a,numO e r=niO a/\numE e r=.int .i64 a:=by cases r<;>exact⟨_,rfl,rfl⟩
  obtain⟨ok,hok⟩:=Zpr r.isSome
  rw[hab,hok] at hG
  have HB:=Zpp hB
  have HI:=Zpp hI
  have HJN:=Zpp hJk
  have HAE:=Zpp hae
  have HOK:=Zpp hok
  clear hB hI hJk hab hae hok
  go_wp2
  refine Zah [(true,0),(true,1),(true,2),(false,3),(false,4),(false,5)] (fun W'=>W'.heap[P+1]?=some (niO sa)/\W'.heap[P+1+1]?=some (pObj x y)/\W'.heap[P+1+1+1]?=some (flO ok)) (fun _=>false)
   Zb Zb (fun _ _=>rfl) Zi ⟨hG.b1,hG.b2,hG.b3⟩ ?_
  have b1:W.drew.heap[P+1]?=some (niO sa):=hG.b1
  have b2:W.drew.heap[P+1+1]?=some (pObj x y):=hG.b2
  have b3:W.drew.heap[P+1+1+1]?=some (flO ok):=hG.b3
  have bd:W.drew.heap[P+4]?=some (.deferred (some [])):=hdef
  have HKW:Hid (Keeps Sx w W.drew):=hG.base.drew
  have HJD:Hid (J N W.drew):=HJ.out _ _ _ HJN.out (Keeps.refl _ W).drew
  obtain⟨V3,hV3⟩:=Zpr W.drew
  rw[hV3] at b1 b2 b3 bd HKW HJD ⊢
  clear hV3 hG hdef HJN
  iterate 3
   refine Zr _ rfl rfl (fun w' hS=>by obtain⟨h1,h2,h3⟩:=hS;have a0:=Zn h1 0 (v:=.int .i64 sa) rfl;have e0:=Zn h2 0 (v:=.string x) rfl;have e1:=Zn h2 1 (v:=.string y) rfl;have e2:=Zn h3 0 (v:=.bool ok) rfl;exact Zf) ?_
   simp only[Act.put,Zl]
  have c0:=Zn b1 0 (v:=.int .i64 sa) rfl
  have f0:=Zo b1 0
  refine Zu rfl rfl fun K hK=>?_
  go_simp
  obtain⟨V4,hV4⟩:=Zpr (V3.setCell ⟨P+1,0,none⟩ (.int .i64 sa))
  have o4:∀ j,j≠P+1->V4.heap[j]?=V3.heap[j]?:=fun j hj=>by rw[<- hV4];exact ZoO _ _ _ _ hj
  have d1:V4.heap[P+1]?=some (niO sa):=by rw[<- hV4];exact ZoR b1 _
  have k4:Keeps (fun b=>b≠P+1) V3 V4:=by rw[<- hV4];exact(Keeps.refl _ V3).setCell Zc _
  rw[hV4]
  have b2:=(o4 _ Za).trans b2
  have b3:=(o4 _ Za).trans b3
  refine hK _ _ (.inr ⟨d1,b2,b3⟩) ?_
  clear hK K hV4 c0 f0 b1
  have bd:=(o4 _ Za).trans bd
  have c0:=Zn b2 0 (v:=.string x) rfl
  have c1:=Zn b2 1 (v:=.string y) rfl
  have f0:=Zo b2 0
  have f1:=Zo b2 1
  refine Zu rfl rfl fun K hK=>?_
  go_simp
  obtain⟨V5,hV5⟩:=Zpr ((V4.setCell ⟨P+1+1,0,none⟩ (.string x)).setCell ⟨P+1+1,1,none⟩ (.string y))
  have o5:∀ j,j≠P+1+1->V5.heap[j]?=V4.heap[j]?:=fun j hj=>by rw[<- hV5];exact(ZoO _ _ _ _ hj).trans (ZoO _ _ _ _ hj)
  have d2:V5.heap[P+1+1]?=some (pObj x y):=by rw[<- hV5];exact Zaf b2 _ _
  have k5:Keeps (fun b=>b≠P+1+1) V4 V5:=by rw[<- hV5];exact((Keeps.refl _ V4).setCell Zc _).setCell Zc _
  rw[hV5]
  have d1:=(o5 _ Za).trans d1
  have b3:=(o5 _ Za).trans b3
  refine hK _ _ (.inr ⟨d1,d2,b3⟩) ?_
  clear hK K hV5 c0 c1 f0 f1 b2
  have bd:=(o5 _ Za).trans bd
  have c0:=Zn b3 0 (v:=.bool ok) rfl
  have f0:=Zo b3 0
  refine Zu rfl rfl fun K hK=>?_
  go_simp
  obtain⟨V6,hV6⟩:=Zpr (V5.setCell ⟨P+1+1+1,0,none⟩ (.bool ok))
  have o6:∀ j,j≠P+1+1+1->V6.heap[j]?=V5.heap[j]?:=fun j hj=>by rw[<- hV6];exact ZoO _ _ _ _ hj
  have d3:V6.heap[P+1+1+1]?=some (flO ok):=by rw[<- hV6];exact ZoR b3 _
  have k6:Keeps (fun b=>b≠P+1+1+1) V5 V6:=by rw[<- hV6];exact(Keeps.refl _ V5).setCell Zc _
  rw[hV6]
  have d1:=(o6 _ Za).trans d1
  have d2:=(o6 _ Za).trans d2
  refine hK _ _ (.inr ⟨d1,d2,d3⟩) ?_
  clear hK K hV6 c0 f0 b3
  have bd:=(o6 _ Za).trans bd
  have k9:Keeps (fun b=>b<P) V3 (V6.putObj (P+4) (.deferred none)):=
   (((k4.mono fun b _ (hb:b<P)=>Za).trans (k5.mono fun b _ (hb:b<P)=>Za)).trans (k6.mono fun b _ (hb:b<P)=>Za)).putObj (by show ¬ P+4<P;omega) _
  have HKE:Hid (Keeps Sx w (V6.putObj (P+4) (.deferred none))):=HKW.out.via k9 fun b hb _=>Za
  have HJE:Hid (J N (V6.putObj (P+4) (.deferred none))):=HJ.out _ _ _ HJD.out (by rw[HPP.out];exact k9)
  have k4':∀ {g:Nat} {o:Obj},g≠P+4->V6.heap[g]?=some o->(V6.putObj (P+4) (.deferred none)).heap[g]?=some o:=fun hg h=>(Zo5 hg).trans h
  have g1:=k4' Za d1
  have g2:=k4' Za d2
  have g3:=k4' Za d3
  clear o4 o5 o6 k4 k5 k6 k9 d1 d2 d3 k4'
  refine ZJ ?_
  go_wp2
  unfold Calm bodyPostM
  refine⟨Zc,.inl ⟨_,_,rfl,run_takeDeferred bd,?_⟩⟩
  have c0:=Zn g1 0 (v:=.int .i64 sa) rfl
  have d0:=Zn g2 0 (v:=.string x) rfl
  have d1:=Zn g2 1 (v:=.string y) rfl
  have f0:=Zn g3 0 (v:=.bool ok) rfl
  refine⟨.tuple #[.int .i64 sa,pV x y,.bool ok],?_,r,m,x,y,by rw[HAE.out,HOK.out],HB.out,HI.out,HKE.out,HJE.out⟩
  simp[results,Tryz.f135,go_sem,c0,d0,d1,f0]
 case stop=>exact fun _ _ _ _ h _=>h.elim
end Go.Proofs.YtmpaflidennnoaaGreatDoor
namespace Go.Proofs.YtmpaflidennnoaaGreatDoor
open Go.RowKit Go.Shelf
attribute [local go_sem ↓] Go.wp_at_zero Go.wp_at_succ
theorem LeastQ.ex (q:Nat->Rat) (ok:Nat->Prop):∀ n,∃ r,LeastQ q ok n r
 | 0=>⟨none,LeastQ.zero q ok⟩
 | n+1=>by
  obtain⟨r,h⟩:=LeastQ.ex q ok n
  by_cases hk:ok n
  ·cases r with
   | none=>exact⟨_,h.take hk (fun c hc=>by cases hc)⟩
   | some c=>
    by_cases hl:q n<c
    ·exact⟨_,h.take hk (fun d hd=>by obtain rfl:=ZoQ hd;exact hl)⟩
    ·exact⟨_,h.keep (Rat.not_lt.1 hl)⟩
  ·exact⟨_,h.skip hk⟩
theorem Best.ex (g:Nat->Rat):∀ n,∃ r m,Best g n r m
 | 0=>⟨none,0,Best.zero g⟩
 | n+1=>by
  obtain⟨r,m,h⟩:=Best.ex g n
  by_cases hl:m<g n
  ·exact⟨_,_,h.up hl⟩
  ·exact⟨_,_,h.keep (Rat.not_lt.1 hl)⟩
theorem SurR.ex (t:TaskP) (qs:List PP) (i:Nat):∃ s,SurR t qs i s:=by
 obtain⟨r,h⟩:=LeastQ.ex (fun u=>prR qs u/rR t u i) (fun u=>rR t u i≠0) t.hours.length
 cases r with
 | none=>exact⟨0,none,h,.inl ⟨rfl,rfl⟩⟩
 | some c=>
  obtain⟨b,m,hb⟩:=Best.ex (fun k=>posR (wR t i*hR (eS t i).curve k-c*cR (eS t i).curve k)) (eS t i).curve.length
  exact⟨m,some c,h,.inr ⟨c,rfl,b,hb⟩⟩
theorem Zd8 (q:Rat):q*((q.den:Nat):Rat)=((q.num:Int):Rat):=by
 have h1:(q.num:Rat)/((q.den:Nat):Rat)=q:=by rw[<- Rat.mkRat_eq_div,Rat.mkRat_self]
 have h2:((q.den:Nat):Rat)≠0:=by
  have:=Rat.natCast_pos.2 q.den_pos
  grind
 have h3:=Rat.div_mul_cancel (a:=(q.num:Rat)) h2
 rw[h1] at h3
 exact h3
def Den (D:Nat) (q:Rat):Prop:=0<D/\∃ z:Int,q*((D:Nat):Rat)=((z:Int):Rat)
theorem Den.own (q:Rat):Den q.den q:=⟨q.den_pos,q.num,Zd8 q⟩
theorem Den.one {n:Int} : Den 1 ((n:Int):Rat):=⟨Zd,n,by
 have e:((1:Nat):Rat)=1:=rfl
 rw[e,Rat.mul_one]⟩
theorem Den.mul {D E:Nat} {a b:Rat} (h:Den D a) (g:Den E b):Den (D*E) (a*b):=by
 obtain⟨d0,x,hx⟩:=h
 obtain⟨e0,y,hy⟩:=g
 refine⟨Nat.mul_pos d0 e0,x*y,?_⟩
 rw[Rat.natCast_mul,Rat.intCast_mul,<- hx,<- hy]
 grind
theorem Den.add {D E:Nat} {a b:Rat} (h:Den D a) (g:Den E b):Den (D*E) (a+b):=by
 obtain⟨d0,x,hx⟩:=h
 obtain⟨e0,y,hy⟩:=g
 refine⟨Nat.mul_pos d0 e0,x*E+y*D,?_⟩
 rw[Rat.natCast_mul,Rat.intCast_add,Rat.intCast_mul,Rat.intCast_mul,<- hx,<- hy,Rat.intCast_natCast,Rat.intCast_natCast]
 grind
theorem Den.le {D:Nat} {q:Rat} (h:Den D q):q.den<=D:=by
 obtain⟨d0,z,hz⟩:=h
 have h1:q.num*D=z*q.den:=by
  have h2:=Zd8 q
  have h3:((q.num*(D:Nat):Int):Rat)=((z*(q.den:Nat):Int):Rat):=by
   rw[Rat.intCast_mul,Rat.intCast_mul,<- h2,<- hz,Rat.intCast_natCast,Rat.intCast_natCast]
   grind
  exact Rat.intCast_inj.1 h3
 have h2:(q.den:Int) ∣ q.num*D:=⟨z,by rw[h1,Int.mul_comm]⟩
 have h3:q.den ∣ q.num.natAbs*D:=by
  have:=Int.natAbs_dvd_natAbs.2 h2
  rwa [Int.natAbs_mul,Int.natAbs_natCast,Int.natAbs_natCast] at this
 have h4:q.den ∣ D:=Nat.Coprime.dvd_of_dvd_mul_left (Nat.Coprime.symm q.reduced) h3
 exact Nat.le_of_dvd d0 h4
theorem Den.sz {D k M:Nat} {q:Rat} (h:Den D q) (h0:0<=q) (hD:D<10 ^ k) (hM:q<=((M:Nat):Rat)):q.den<10 ^ k/\q.num.toNat<=M*q.den:=by
 refine⟨Nat.lt_of_le_of_lt h.le hD,?_⟩
 have h2:=Zd8 q
 have h3:=Zae h0
 have hd:(0:Rat)<=((q.den:Nat):Rat):=Rat.le_of_lt (Rat.natCast_pos.2 q.den_pos)
 have h4:=Rat.mul_le_mul_of_nonneg_right hM hd
 rw[h2] at h4
 have h5:((q.num:Int):Rat)<=(((M*q.den:Nat):Int):Rat):=by
  rw[Rat.intCast_natCast,Rat.natCast_mul]
  exact h4
 have h6:=Rat.intCast_le_intCast.1 h5
 omega
def DE (e:Nat) (q:Rat):Prop:=∃ D,Den D q/\D<=10 ^ e
theorem DE.mul {e f:Nat} {a b:Rat} (h:DE e a) (g:DE f b):DE (e+f) (a*b):=by
 obtain⟨D,h1,h2⟩:=h
 obtain⟨E,g1,g2⟩:=g
 exact⟨D*E,h1.mul g1,by rw[Nat.pow_add];exact Nat.mul_le_mul h2 g2⟩
theorem DE.add {e f:Nat} {a b:Rat} (h:DE e a) (g:DE f b):DE (e+f) (a+b):=by
 obtain⟨D,h1,h2⟩:=h
 obtain⟨E,g1,g2⟩:=g
 exact⟨D*E,h1.add g1,by rw[Nat.pow_add];exact Nat.mul_le_mul h2 g2⟩
theorem DE.mono {e f:Nat} {a:Rat} (h:DE e a) (hf:e<=f):DE f a:=by
 obtain⟨D,h1,h2⟩:=h
 exact⟨D,h1,ZoV h2 (ZoX Zd hf)⟩
theorem DE.sz {k:Nat} {q:Rat} (h:Sz k q):DE k q:=⟨q.den,Den.own q,Zpi h.2⟩
theorem DE.int (n:Int):DE 0 ((n:Int):Rat):=⟨1,Den.one,Nat.le_refl _⟩
theorem DE.zero:DE 0 (0:Rat):=DE.int 0
theorem DE.fits {e m:Nat} {q:Rat} (h:DE e q) (h0:0<=q) (hM:q<=((10 ^ m:Nat):Rat)):Sz (m+e+1) q:=by
 obtain⟨D,hD,hle⟩:=h
 have hD2:D<10 ^ (e+1):=Nat.lt_of_le_of_lt hle (Nat.pow_lt_pow_right Zd (Nat.lt_succ_self e))
 obtain⟨z1,z2⟩:=hD.sz h0 hD2 hM
 refine⟨?_,ZoT z1 (ZoX Zd Za)⟩
 refine Nat.lt_of_le_of_lt z2 ?_
 have h3:10 ^ m*q.den<10 ^ m*10 ^ (e+1):=Nat.mul_lt_mul_of_pos_left z1 (Nat.pow_pos Zd)
 rw[<- Nat.pow_add] at h3
 exact h3
noncomputable def valR (t:TaskP) (p:List (List Int)):Rat:=sumF (valF t p) t.sites.length
def mvU (t:TaskP) (j:Nat):Nat:=j/t.sites.length/t.sites.length
def mvI (t:TaskP) (j:Nat):Nat:=j/t.sites.length % t.sites.length
def mvK (t:TaskP) (j:Nat):Nat:=j % t.sites.length
def mvB (t:TaskP) (p:List (List Int)) (j:Nat):Bool:=decide (0<pN p (mvU t j) (mvI t j)) && (decide (mvI t j≠mvK t j) && decide (rR t (mvU t j) (mvK t j)≠0))
def Zdx (t:TaskP) (p:List (List Int)) (j:Nat):List (List Int):=bump (bump p (mvU t j) (mvI t j) (-1)) (mvU t j) (mvK t j) 1
def mvN (t:TaskP):Nat:=t.hours.length*t.sites.length*t.sites.length
inductive MoveR (t:TaskP) (p:List (List Int)):Option (List (List Int))->Prop
 | no (h:∀ j,j<mvN t->mvB t p j=true->valR t (Zdx t p j)<=valR t p):MoveR t p none
 | yes (j:Nat) (hj:j<mvN t) (hm:mvB t p j=true) (hv:valR t p<valR t (Zdx t p j)) (hf:∀ i,i<j->mvB t p i=true->valR t (Zdx t p i)<=valR t p):MoveR t p (some (Zdx t p j))
theorem MoveR.det {t:TaskP} {p:List (List Int)} {r s:Option (List (List Int))} (h:MoveR t p r) (g:MoveR t p s):r=s:=by
 cases h with
 | no h=>
  cases g with
  | no _=>rfl
  | yes j hj hm hv _=>exact absurd hv (Rat.not_lt.2 (h j hj hm))
 | yes j hj hm hv hf=>
  cases g with
  | no g=>exact absurd hv (Rat.not_lt.2 (g j hj hm))
  | yes i hi gm gv gf=>
   rcases Nat.lt_trichotomy i j with h | rfl | h
   ·exact absurd gv (Rat.not_lt.2 (hf i h gm))
   ·rfl
   ·exact absurd hv (Rat.not_lt.2 (gf j h hm))
inductive ImproveR (t:TaskP):Nat->List (List Int)->List (List Int)->Nat->Prop
 | stop (p:List (List Int)):ImproveR t 0 p p 0
 | rest {n:Nat} {p:List (List Int)} (h:MoveR t p none):ImproveR t (n+1) p p 0
 | more {n k:Nat} {p q r:List (List Int)} (h:MoveR t p (some q)) (g:ImproveR t n q r k):ImproveR t (n+1) p r (k+1)
theorem ImproveR.det {t:TaskP} {n k l:Nat} {p q r:List (List Int)} (h:ImproveR t n p q k) (g:ImproveR t n p r l):q=r/\k=l:=by
 induction h generalizing r l with
 | stop _=>cases g;exact⟨rfl,rfl⟩
 | rest h=>
  cases g with
  | rest _=>exact⟨rfl,rfl⟩
  | more g _=>cases h.det g
 | more h _ ih=>
  cases g with
  | rest g=>cases h.det g
  | more g1 g2=>
   obtain rfl:=ZoQ (h.det g1)
   obtain⟨e1,e2⟩:=ih g2
   exact⟨e1,by rw[e2]⟩
theorem ZnK {t:TaskP} {j:Nat} (h:j<mvN t):mvU t j<t.hours.length/\mvI t j<t.sites.length/\mvK t j<t.sites.length:=by
 have h0:0<t.sites.length:=by
  refine Nat.pos_of_ne_zero fun e=>?_
  unfold mvN at h
  rw[e,Nat.mul_zero] at h
  exact absurd h (Zpc _)
 unfold mvN at h
 exact⟨Nat.div_lt_of_lt_mul (Nat.div_lt_of_lt_mul (by rw[Zo8] at h;rwa [Zo8 t.sites.length t.hours.length])),Nat.mod_lt _ h0,Nat.mod_lt _ h0⟩
section
variable {t:TaskP} {p:List (List Int)}
theorem ZcO (j:Nat):(Zdx t p j).length=p.length:=by unfold Zdx;rw[Zat,Zat]
theorem Zc4 {u i:Nat} {d:Int} {v N:Nat} (hv:v<p.length) (h:p[v].length=N):∃ h2:v<(bump p u i d).length,(bump p u i d)[v].length=N:=by
 have h2:v<(bump p u i d).length:=by rw[Zat];exact hv
 exact⟨h2,by rw[ZfY h2];exact h⟩
theorem ZhL (ok:PlanOk t p) {j:Nat} (hj:j<mvN t) (v:Nat):Z3 (Zdx t p j) v t.sites.length=Z3 p v t.sites.length:=by
 obtain⟨h1,h2,h3⟩:=ZnK hj
 have hu:mvU t j<p.length:=by rw[ok.teams];exact h1
 have hr:=ok.row _ hu
 obtain⟨hu2,hr2⟩:=Zc4 (u:=mvU t j) (i:=mvI t j) (d:=-1) hu hr
 unfold Zdx
 rw[ZcN 1 hu2 (by rw[hr2];exact h3),ZcN (-1) hu (by rw[hr];exact h2)]
 by_cases e:v=mvU t j
 ·rw[if_pos ⟨e,h2⟩,if_pos ⟨e,h3⟩]
  omega
 ·rw[if_neg (fun h=>e h.1),if_neg (fun h=>e h.1)]
  omega
theorem PlanOk.moved (ok:PlanOk t p) {j:Nat} (hj:j<mvN t) (hm:mvB t p j=true):PlanOk t (Zdx t p j):=by
 obtain⟨h1,h2,h3⟩:=ZnK hj
 have hu:mvU t j<p.length:=by rw[ok.teams];exact h1
 have hr:=ok.row _ hu
 obtain⟨hu2,hr2⟩:=Zc4 (u:=mvU t j) (i:=mvI t j) (d:=-1) hu hr
 have hs:=ZhL ok hj
 have h48:∀ v,v<p.length->eH t v<=48:=fun v hv=>(ok.task.team v (by rw[ok.task.rates,<- ok.teams];exact hv)).1.2
 unfold mvB at hm
 simp only[Bool.and_eq_true,decide_eq_true_eq] at hm
 obtain⟨m1,m2,m3⟩:=hm
 have hval:∀ v i,pN (Go.Proofs.YtmpaflidennnoaaGreatDoor.Zdx t p j) v i=if v=mvU t j/\i=mvK t j then pN p v i+1 else if v=mvU t j/\i=mvI t j then pN p v i-1 else pN p v i:=fun v i=>by
  unfold Go.Proofs.YtmpaflidennnoaaGreatDoor.Zdx
  by_cases e:v=mvU t j/\i=mvK t j
  ·obtain⟨rfl,rfl⟩:=e
   rw[if_pos ⟨rfl,rfl⟩,Zd1 hu2 (by rw[hr2];exact h3),Zb7 (.inr fun e=>m2 e.symm)]
  ·rw[if_neg e,Zb7 (by by_cases h:v=mvU t j;exact .inr fun h2=>e ⟨h,h2⟩;exact .inl h)]
   by_cases e2:v=mvU t j/\i=mvI t j
   ·obtain⟨rfl,rfl⟩:=e2
    rw[if_pos ⟨rfl,rfl⟩,Zd1 hu (by rw[hr];exact h2)]
    omega
   ·rw[if_neg e2,Zb7 (by by_cases h:v=mvU t j;exact .inr fun h2=>e2 ⟨h,h2⟩;exact .inl h)]
 have hnn:∀ v i,v<p.length->i<t.sites.length->0<=pN (Go.Proofs.YtmpaflidennnoaaGreatDoor.Zdx t p j) v i:=fun v i hv hi=>by
  have:=(ok.hour v i hv hi).1.1
  rw[hval]
  split
  ·omega
  ·split
   ·rename_i h
    obtain⟨rfl,rfl⟩:=h
    omega
   ·exact this
 refine⟨ok.task,by rw[ZcO];exact ok.teams,fun v hv=>?_,fun v i hv hi=>?_,fun v hv=>?_⟩
 ·rw[ZcO] at hv
  obtain⟨g1,g2⟩:=Zc4 (u:=mvU t j) (i:=mvI t j) (d:=-1) hv (ok.row v hv)
  obtain⟨_,g3⟩:=Zc4 (u:=mvU t j) (i:=mvK t j) (d:=1) g1 g2
  exact g3
 ·rw[ZcO] at hv
  have h0:=ok.hour v i hv hi
  have hle:=(ZeA (p:=Go.Proofs.YtmpaflidennnoaaGreatDoor.Zdx t p j) (u:=v) (n:=t.sites.length) fun k hk=>hnn v k hv hk).2 i hi
  rw[hs v] at hle
  have:=ok.sum v hv
  have:=h48 v hv
  refine⟨⟨hnn v i hv hi,Za⟩,fun hp=>?_⟩
  rw[hval] at hp
  split at hp
  ·rename_i h
   obtain⟨rfl,rfl⟩:=h
   exact m3
  ·split at hp
   ·exact h0.2 Za
   ·exact h0.2 hp
 ·rw[ZcO] at hv
  rw[hs v]
  exact ok.sum v hv
theorem MoveR.plan {q:List (List Int)} (h:MoveR t p (some q)) (ok:PlanOk t p):PlanOk t q/\valR t p<valR t q/\∀ v,Z3 q v t.sites.length=Z3 p v t.sites.length:=by
 cases h with
 | yes j hj hm hv hf=>exact⟨ok.moved hj hm,hv,ZhL ok hj⟩
theorem ImproveR.law {n k:Nat} {q:List (List Int)} (h:ImproveR t n p q k) (ok:PlanOk t p) :
  PlanOk t q/\k<=n/\valR t p<=valR t q/\(valR t p<valR t q<->0<k)/\(∀ v,Z3 q v t.sites.length=Z3 p v t.sites.length)/\(k<n->MoveR t q none):=by
 induction h with
 | stop p=>exact⟨ok,Nat.le_refl _,Rat.le_refl,⟨fun h=>absurd h Rat.lt_irrefl,fun h=>absurd h (Nat.lt_irrefl _)⟩,fun _=>rfl,fun h=>absurd h (Nat.lt_irrefl _)⟩
 | rest h=>exact⟨ok,ZoZ _,Rat.le_refl,⟨fun h=>absurd h Rat.lt_irrefl,fun h=>absurd h (Nat.lt_irrefl _)⟩,fun _=>rfl,fun _=>h⟩
 | @more n k p q1 q h _ ih=>
  obtain⟨m1,m2,m3⟩:=h.plan ok
  obtain⟨i1,i2,i3,i4,i5,i6⟩:=ih m1
  have hlt:valR t p<valR t q:=Zk
  exact⟨i1,Za,Rat.le_of_lt hlt,⟨fun _=>Za,fun _=>hlt⟩,fun v=>by rw[i5,m3],fun hk=>i6 Za⟩
end
open Classical in
noncomputable def slF (bs:List BB) (q:Rat):Rat:=if h:∃ r,Zb0 bs.length (cR bs) (hR bs) q r then Classical.choose h else 0
theorem ZiW {bs:List BB} (h:CurveP bs) (q:Rat):Zb0 bs.length (cR bs) (hR bs) q (slF bs q):=by
 obtain⟨r,_,_,hr,_⟩:=ZiL (q:=q) h
 have hex:∃ r,Zb0 bs.length (cR bs) (hR bs) q r:=⟨r,hr⟩
 unfold slF
 rw[dif_pos hex]
 exact Classical.choose_spec hex
theorem Zf8 {bs:List BB} (h:CurveP bs) (q:Rat):(∃ x y,IsP (slF bs q) x y)/\Sz 72 (slF bs q)/\0<=slF bs q:=by
 obtain⟨r,x,y,hr,hx,hz,h0⟩:=ZiL (q:=q) h
 obtain rfl:=(ZiW h q).unique hr
 exact⟨⟨x,y,hx⟩,hz,h0⟩
noncomputable def wsF (t:TaskP) (p:List (List Int)) (i:Nat):Rat:=wR t i*slF (eS t i).curve (covR t p i)
noncomputable def priF (t:TaskP) (p:List (List Int)) (u i:Nat):Rat:=wsF t p i*rR t u i
theorem Zes {t:TaskP} {p:List (List Int)} (ok:TaskOk t) {u i:Nat} (hu:u<t.rates.length) (hi:i<t.sites.length) :
  ((∃ x y,IsP (wsF t p i) x y)/\∃ x y,IsP (priF t p u i) x y)/\Sz 90 (priF t p u i)/\0<=priF t p u i:=by
 obtain⟨w1,w2⟩:=Zd0 ok hi
 obtain⟨r1,r2⟩:=ZcP ok hu hi
 obtain⟨_,s2,s3⟩:=Zf8 (ok.site i hi).2 (covR t p i)
 have a0:=Rat.mul_nonneg w1.nn s3
 have az:=Sz.mul w1.nn s3 w2 s2
 have b0:=Rat.mul_nonneg a0 r1.nn
 have bz:=Sz.mul a0 r1.nn az r2
 exact⟨⟨ZW a0 az Zd Zd,ZW b0 bz Zd Zd⟩,bz,b0⟩
def ZbB (t:TaskP) (p:List (List Int)) (qs:List PP):Prop:=qs.length=t.hours.length/\∀ u,u<t.hours.length->∃ r m,Best (priF t p u) t.sites.length r m/\IsP m (qs.getD u (Zpm,Zpm)).1 (qs.getD u (Zpm,Zpm)).2
theorem ZbB.det {t:TaskP} {p:List (List Int)} {qs rs:List PP} (h:ZbB t p qs) (g:ZbB t p rs):qs=rs:=by
 refine List.ext_getElem (h.1.trans g.1.symm) fun u h1 h2=>?_
 obtain⟨r,m,b1,b2⟩:=h.2 u (by rw[<- h.1];exact h1)
 obtain⟨s,l,c1,c2⟩:=g.2 u (by rw[<- h.1];exact h1)
 obtain⟨e1,e2⟩:=Zbb b2 c2 (b1.det c1).2
 have e3:qs.getD u (Zpm,Zpm)=qs[u]:=by simp[List.getD,h1]
 have e4:rs.getD u (Zpm,Zpm)=rs[u]:=by simp[List.getD,h2]
 rw[e3,e4] at e1 e2
 exact Prod.ext e1 e2
theorem ZnU {t:TaskP} {p:List (List Int)} (ok:TaskOk t) {u:Nat} (hu:u<t.rates.length) {r:Option Nat} {m:Rat} (h:Best (priF t p u) t.sites.length r m):Sz 90 m:=by
 cases r with
 | none=>
  rw[(h.no rfl).1]
  exact⟨by decide +kernel,by decide +kernel⟩
 | some j=>
  obtain⟨hj,e,_⟩:=h.yes j rfl
  rw[e]
  exact(Zes ok hu hj).2.1
theorem ZbB.ok {t:TaskP} {p:List (List Int)} {qs:List PP} (ok:TaskOk t) (h:ZbB t p qs):PricesOk t qs:=⟨h.1,fun u hu=>by
 obtain⟨r,m,b1,b2⟩:=h.2 u (by rw[<- h.1];exact hu)
 have hz:=(ZnU ok (by rw[ok.rates,<- h.1];exact hu) b1).mono (l:=300) Zd
 exact Zdr b2 hz Zd⟩
theorem ZjE {t:TaskP} {p:List (List Int)} {b m Gw Gu:Nat} {sv hv rv pv:Value} {pb po pc:Nat} {gq gp gc:Nat->Nat} {w:World} (h:WorkW t b m sv hv rv pv w) (hP:PlanW p t.sites.length m pv pb po pc gq gp gc w) (ok:TaskOk t) (inn:ZbA t p)
  {u i:Nat} (hu:u<t.rates.length) (hi:i<t.sites.length) (h1:w.heap[Gw]?=some (wkO b)) (h2:w.heap[Gu]?=some (iO u)) :
  Calls Tryz.prog 136 #[.int .i64 i,.pointer (some ⟨Gw,0,none⟩),.pointer (some ⟨Gu,0,none⟩)] w (fun e w'=>∃ x y,e=.returned (pV x y)/\IsP (priF t p u i) x y/\Below w.heap.size w w'):=by
 obtain⟨sb,so,sc,hb,ho,hc,rb,ro,rk,cv,rq,rp,rc,k1,k2,k3,hA⟩:=h.open ok
 obtain⟨N,hN⟩:=Zpr t.sites.length
 obtain⟨T,hT⟩:=Zpr t.rates.length
 obtain⟨cp,cl,cc,hcv⟩:∃ cp cl cc,cv i=.slice cp cl cc:=by
  obtain⟨_,_,_,p,c,h,_⟩:=(hA w (Keeps.refl _ _)).at'.site i hi
  exact⟨_,_,_,h⟩
 have HS:Hid (∀ V,Below w.heap.size w V->(V.cell? ⟨Gw,0,none⟩=some (.pointer (some ⟨b,0,none⟩))/\V.cell? ⟨Gu,0,none⟩=some (.int .i64 u))/\(V.cell? ⟨b,0,none⟩=some (.slice (some ⟨sb,so,none⟩) N sc)/\V.cell? ⟨sb,so+i*3,none⟩=some (.string (eS t i).weight.1)/\V.cell? ⟨sb,so+i*3+1,none⟩=some (.string (eS t i).weight.2)/\V.cell? ⟨sb,so+i*3+2,none⟩=some (.slice cp cl cc)/\BL V (.slice cp cl cc) (eS t i).curve)/\
   (V.cell? ⟨b,2,none⟩=some (.slice (some ⟨rb,ro,none⟩) T rk)/\V.cell? ⟨rb,ro+u,none⟩=some (.slice (some ⟨rq u,rp u,none⟩) N (rc u))/\V.cell? ⟨rq u,rp u+i*2,none⟩=some (.string (eR t u i).1)/\V.cell? ⟨rq u,rp u+i*2+1,none⟩=some (.string (eR t u i).2))/\DetV V/\Tabs V):=fun V hV=>by
  have A:=hA V (hV.keepsS _)
  obtain⟨a0,a1,a2,a3⟩:=A.at'.site i hi
  obtain⟨b0,_,_,b1⟩:=A.at'.rate u hu
  rw[hN] at b0
  rw[hcv] at a2 a3
  exact⟨⟨Zn ((hV.block _ (Zpl h1)).trans h1) 0 rfl,Zn ((hV.block _ (Zpl h2)).trans h2) 0 rfl⟩,⟨by rw[<- hN];exact A.w0,a0,a1,a2,a3⟩,⟨by rw[<- hT];exact A.w2,b0,b1 i hi⟩,A.at'.det,A.at'.tabs⟩
 have HCV:Hid (∀ V,Below w.heap.size w V->Calls Tryz.prog 71 #[.pointer (some ⟨b,0,none⟩),.int .i64 i] V (fun e w'=>∃ x y,e=.returned (pV x y)/\IsP (covR t p i) x y/\Below V.heap.size V w')):=fun V hV=>
  Ze5 (h.keep (hV.keepsS _)) (hP.keep (hV.keepsS _)) ok inn hi
 have hC:=(ok.site i hi).2
 have HC:=Zpp hC
 obtain⟨⟨xs,ys,hxs⟩,_,_⟩:=Zf8 hC (covR t p i)
 have HXS:=Zpp hxs
 have HSL:=Zpp (ZiW hC (covR t p i))
 obtain⟨⟨⟨xw,yw,hxw⟩,xp,yp,hxp⟩,_,_⟩:=Zes (p:=p) ok hu hi
 have HXW:=Zpp hxw
 have HXP:=Zpp hxp
 have HZC:Hid (Sz 300 (covR t p i)):=(ZcS ok inn hi Zpq).2.1.mono Zd
 have HWR:Hid (IsP (wR t i) (eS t i).weight.1 (eS t i).weight.2):=(Zd0 ok hi).1
 have HRR:Hid (IsP (rR t u i) (eR t u i).1 (eR t u i).2):=(ZcP ok hu hi).1
 have hsc:N<=sc/\sc<=9223372036854775807:=by rw[<- hN];exact k1
 have hrk:T<=rk/\rk<=9223372036854775807:=by rw[<- hT];exact k3
 obtain⟨_,hrc1,hrc2,_⟩:=(hA w (Keeps.refl _ _)).at'.rate u hu
 rw[hN] at hi hrc1
 rw[hT] at hu
 obtain⟨q1,hq1⟩:=Zpr (rq u)
 obtain⟨o1,ho1⟩:=Zpr (rp u)
 obtain⟨c1,hc1⟩:=Zpr (rc u)
 obtain⟨⟨s1,t1⟩,hs1⟩:∃ z,eR t u i=z:=⟨_,rfl⟩
 obtain⟨⟨s2,t2⟩,hs2⟩:∃ z,(eS t i).weight=z:=⟨_,rfl⟩
 rw[hq1,ho1,hc1,hs1,hs2] at HS
 rw[hc1] at hrc1 hrc2
 rw[hs1] at HRR
 rw[hs2] at HWR
 dsimp only at HS HRR HWR
 obtain⟨G,hG⟩:=Zpr w.heap.size
 obtain⟨w1,hw1⟩:=Zpr (w.alloc (pObj Zpm Zpm))
 have HE0:Hid (Env w.heap.size w [(G,pObj Zpm Zpm)] [] w1):=by rw[<- hw1];exact(Env.start w).push _ hG.symm
 clear h hP ok inn hA k1 k2 k3 hN hT hq1 ho1 hc1 hs1 hs2 h1 h2 hC hxs hxw hxp hcv
 have i0':(0:Int)<=(i:Int):=Za
 have i1':(i:Int)<(N:Int):=Za
 have u0':(0:Int)<=(u:Int):=Za
 have u1':(u:Int)<(T:Int):=Za
 go_enter Tryz.func136,Tryz.ntmps136
 go_wp2_with fail
 refine Zaq 16 5 [(0,17)] [(1,0),(1,1),(1,2),(1,3),(1,4),(1,5),(1,6),(1,7),(1,8),(1,9),(1,10),(0,11),(0,12),(1,13),(1,14),(0,15)] (fun _ g V=>Env w.heap.size w (ZbV (pObj Zpm Zpm) [(G,pObj Zpm Zpm)] g) [] V) (fun i=>i==17)
  Zb Zb (fun j hj=>by have h:18<=j:=hj;simp;omega) Zi rfl rfl (fun _=>rfl) (fun a V K hK=>by go_simp;exact hK) (fun j V h=>h.push _ rfl) HE0.out.drew ?_
 iterate 11
  refine ZO _ rfl (fun z=>rfl) (fun z j g w' hS=>by have hE:=hS.bareG;obtain⟨⟨e0,e1⟩,⟨a0,a1,a2,a3,_⟩,_⟩:=HS.out _ hE.base;exact Zg) ?_
  simp only[Act.put,Zl]
 refine ZM 71 _ rfl (fun z=>rfl) (fun z w'=>Zh) (fun g V hS=>?_)
 refine(HCV.out _ hS.bareG.base).mono ?_
 rintro e V' ⟨xc,yc,rfl,hxc,hb⟩
 have HXC:=Zpp hxc
 refine .inl ⟨_,rfl,hS.step hb,?_⟩
 clear hb hS hxc
 simp only[Act.put,Zl]
 refine ZM 137 _ rfl (fun z=>rfl) (fun z w'=>Zh) (fun g V hS=>?_)
 refine(Znq (HS.out _ hS.bareG.base).2.1.2.2.2.2 HC.out HC.out.limB HXC.out HZC.out HSL.out HXS.out (HS.out _ hS.bareG.base).2.2.2.1 (HS.out _ hS.bareG.base).2.2.2.2).mono ?_
 rintro e V' ⟨rfl,hb⟩
 refine .inl ⟨_,rfl,hS.step hb,?_⟩
 clear hb hS
 simp only[Act.put,Zl]
 iterate 2
  refine ZO _ rfl (fun z=>rfl) (fun z j g w' hS=>Zg) ?_
  simp only[Act.put,Zl]
 refine ZM 103 _ rfl (fun z=>rfl) (fun z w'=>Zh) (fun g V hS=>?_)
 refine(Zap xs ys _).mono ?_
 rintro e V' ⟨rfl,hb⟩
 refine .inl ⟨_,rfl,hS.step hb,?_⟩
 clear hb hS
 simp only[Act.put,Zl]
 refine ZaE fun g8 V hS=>?_
 simp only[Act.put,Zl]
 have HE8:Hid (Env w.heap.size w [(g8,pObj Zpm Zpm),(G,pObj Zpm Zpm)] [] V):=hS
 have r0:=HE8.out.cell 0 0 rfl rfl
 have r1:=HE8.out.cell 0 1 rfl rfl
 have f0:=HE8.out.free 0 0 rfl
 have f1:=HE8.out.free 0 1 rfl
 refine ZB rfl rfl fun K hK=>?_
 go_simp
 have HE9:=Zpp (HE8.out.fill (.string xs) (.string ys))
 refine hK _ _ (.inl rfl) ?_
 clear hK K r0 r1 f0 f1 HE8 HE0 hS
 refine ZD ?_
 obtain⟨Z,hZ⟩:=Zpr ((V.setCell ⟨g8,0,none⟩ (.string xs)).setCell ⟨g8,1,none⟩ (.string ys))
 rw[hZ] at HE9 ⊢
 clear hZ
 go_wp2_with fail
 refine ZV [(1,0),(1,1),(1,2),(1,3),(1,4),(1,5),(1,6),(1,7),(1,8),(1,9),(1,14),(1,15),(1,16),(1,17),(1,18),(1,19),(1,20),(1,21),(1,22),(1,23),(1,24),(0,10),(1,11),(1,12),(0,13),(0,25),(1,26),(1,27),(0,28),(0,29)] (Env w.heap.size w [(g8,pObj xs ys),(G,pObj Zpm Zpm)] []) (fun i=>i==29)
  Zb Zb (fun j hj=>by have h:30<=j:=hj;simp;omega) Zi HE9.out.drew ?_
 obtain⟨w5,hw5⟩:=Zpr Z.drew
 have HE5:Hid (Env w.heap.size w [(g8,pObj xs ys),(G,pObj Zpm Zpm)] [] w5):=by rw[<- hw5];exact HE9.out.drew
 rw[hw5]
 clear hw5 HE9
 iterate 21
  refine Zx _ rfl rfl (fun w' hS=>by obtain⟨⟨e0,e1⟩,⟨a0,a1,a2,a3,_⟩,⟨b0,b1,b2,b3⟩,_⟩:=HS.out _ hS.base;have c0:=hS.cell 0 0 (v:=.string xs) rfl rfl;have c1:=hS.cell 0 1 (v:=.string ys) rfl rfl;exact Ze) ?_
  simp only[Act.put,Zl]
 refine Zy 119 _ rfl rfl Zf ?_
 have HEC:=HE5
 refine(ZcK HWR.out HXS.out HXW.out rfl _ (HS.out _ HEC.out.base).2.2.2.2).mono ?_
 rintro e w6 ⟨rfl,hb⟩
 have HE6:=Zpp (HEC.out.step hb)
 refine .inl ⟨_,rfl,HE6.out,?_⟩
 clear hb HEC
 simp only[Act.put,Zl]
 iterate 2
  refine Zx _ rfl rfl (fun w' hS=>Ze) ?_
  simp only[Act.put,Zl]
 refine Zy 103 _ rfl rfl Zf ?_
 have HEC:=HE6
 refine(Zap xw yw _).mono ?_
 rintro e w7 ⟨rfl,hb⟩
 have HE7:=Zpp (HEC.out.step hb)
 refine .inl ⟨_,rfl,HE7.out,?_⟩
 clear hb HEC
 simp only[Act.put,Zl]
 refine Zy 119 _ rfl rfl Zf ?_
 have HEC:=HE7
 refine(ZcK HXW.out HRR.out HXP.out rfl _ (HS.out _ HEC.out.base).2.2.2.2).mono ?_
 rintro e w8 ⟨rfl,hb⟩
 have HE8:=Zpp (HEC.out.step hb)
 refine .inl ⟨_,rfl,HE8.out,?_⟩
 clear hb HEC
 simp only[Act.put,Zl]
 iterate 2
  refine Zx _ rfl rfl (fun w' hS=>Ze) ?_
  simp only[Act.put,Zl]
 refine Zy 103 _ rfl rfl Zf ?_
 have HEC:=HE8
 refine(Zap xp yp _).mono ?_
 rintro e w9 ⟨rfl,hb⟩
 have HE9:=Zpp (HEC.out.step hb)
 refine .inl ⟨_,rfl,HE9.out,?_⟩
 clear hb HEC
 simp only[Act.put,Zl]
 have r0:=HE9.out.cell 1 0 (v:=.string Zpm) rfl rfl
 have r1:=HE9.out.cell 1 1 (v:=.string Zpm) rfl rfl
 have f0:=HE9.out.free 1 0 rfl
 have f1:=HE9.out.free 1 1 rfl
 refine ZB rfl rfl fun K hK=>?_
 go_simp
 refine hK _ _ (.inl rfl) ?_
 clear hK K
 refine ZD ?_
 have hgb:=HE9.out.block 1 rfl
 have HBB:Hid (Below w.heap.size w ((w9.setCell ⟨G,0,none⟩ (.string xp)).setCell ⟨G,1,none⟩ (.string yp))):=Zs HE9.out.base Za _ _
 obtain⟨q0,q1'⟩:=Zt hgb (.string xp) (.string yp)
 clear r0 r1 f0 f1 hgb
 go_wp2
 exact ZoN (v:=pV xp yp) (by simp[results,Tryz.f136,go_sem,q0,q1']) rfl ⟨xp,yp,rfl,HXP.out,HBB.out⟩
end Go.Proofs.YtmpaflidennnoaaGreatDoor
namespace Go.Proofs.YtmpaflidennnoaaGreatDoor
open Go.RowKit Go.Shelf
attribute [local go_sem ↓] Go.wp_at_zero Go.wp_at_succ
attribute [local go_sem] Oper.semAt_some
theorem Ziw {N b Gw sc:Nat} {sp:Option Addr} {S:Nat->Prop} {w0:World} (hN24:N<=24)
  (hF:∀ V,Keeps S w0 V->V.cell? ⟨Gw,0,none⟩=some (.pointer (some ⟨b,0,none⟩))/\V.cell? ⟨b,0,none⟩=some (.slice sp N sc)) :
  Iter Tryz.prog 134 #[.pointer (some ⟨Gw,0,none⟩)] (fun k=>#[.int .i64 ((k:Nat):Int)]) N S (fun _=>True) w0:=by
 intro n l J Jx W hK hJ hJx hY h0
 have HFF:Hid (∀ V,Keeps S W V->V.cell? ⟨Gw,0,none⟩=some (.pointer (some ⟨b,0,none⟩))/\V.cell? ⟨b,0,none⟩=some (.slice sp N sc)):=fun V hV=>hF V (hK.trans hV)
 have HY:=Zpp hY
 have HJ:=Zpp hJ
 clear hF hY hJ hK
 obtain⟨a0,a1⟩:=HFF.out W (Keeps.refl _ _)
 refine callsIn_of_wp Tryz.func134 rfl trivial ?_ rfl
 simp only[Tryz.ntmps134,List.size_toArray,List.length_cons,List.length_nil,Nat.reduceAdd,Nat.reduceSub,Array.replicate_succ,Array.replicate_zero,List.push_toArray,List.append_toArray,List.nil_append,List.cons_append]
 gi_wp2
 clear a0 a1
 gi_loopw [10] (fun iv wr=>∃ i:Nat,iv=.int .i64 i/\i<=N/\J i wr/\Hid (Keeps S W wr)) (fun iv _=>N-(intOf iv).toNat)
 case atStart=>exact⟨0,rfl,ZoZ _,h0,Keeps.refl _ _⟩
 case round=>
  obtain⟨i,rfl,hi,hJs,HN⟩:=hrel
  by_cases hlt:i<N
  ·have HLT:=Zpp hlt
   have hy:=HY.out i wr hlt hJs
   obtain⟨fn,tmps,assign,body,hy,hRR⟩:=hy
   gi_wp2
   refine⟨(fun h=>by cases h),hRR.mono ?_⟩
   rintro e W3 (⟨rfl,hJ3,hk3⟩ | ⟨rfl,hJx3⟩)
   ·have HN3:=Zpp (HN.out.trans hk3)
    clear hk3 hy hRR
    gi_wp2
    go_roundw
    case rel=>exact⟨i+1,by go_num,Za,hJ3,HN3⟩
    case measure=>exact Zj
   ·clear hy hRR
    gi_wp2
    refine ZoN (results_none rfl _ _ _) rfl ?_
    exact⟨⟨_,rfl⟩,.inr ⟨_,HLT.out,hJx3⟩⟩
  ·obtain rfl:i=N:=Za
   gi_wp2
   go_end0
   exact⟨⟨_,rfl⟩,.inl hJs⟩
theorem Zg0:(Tryz.prog.info? 41).map (fun i=>(i.zero,i.size,i.bytes))=some (some (Zpn Zpm Zpm),2,32):=Zb
theorem ZhX {t:TaskP} {p:List (List Int)} {b m Gw Gu:Nat} {sv hv rv pv:Value} {pb po pc:Nat} {gq gp gc:Nat->Nat} {w:World} (h:WorkW t b m sv hv rv pv w) (hP:PlanW p t.sites.length m pv pb po pc gq gp gc w) (ok:TaskOk t) (inn:ZbA t p)
  {u:Nat} (hu:u<t.rates.length) (h1:w.heap[Gw]?=some (wkO b)) (h2:w.heap[Gu]?=some (iO u)) :
  Calls Tryz.prog 135 #[.func (.func 134) #[] #[.pointer (some ⟨Gw,0,none⟩)],.func (.func 136) #[] #[.pointer (some ⟨Gw,0,none⟩),.pointer (some ⟨Gu,0,none⟩)]] w
   (fun e w'=>∃ r mx x y,e=.returned (.tuple #[numE (fun k=>(k:Int)) r,pV x y,.bool r.isSome])/\Best (priF t p u) t.sites.length r mx/\IsP mx x y/\Below w.heap.size w w'):=by
 obtain⟨sb,so,sc,hb,ho,hc,rb,ro,rk,cv,rq,rp,rc,k1,k2,k3,hA⟩:=h.open ok
 have all:∀ {V V':World} {S:Nat->Prop},Keeps (fun _=>True) V V'->Keeps S V V':=fun hk=>hk.mono fun _ _ _=>trivial
 refine(Zif (e:=fun k=>(k:Int)) (g:=priF t p u) (N:=t.sites.length) (Sx:=fun _=>True) (J:=fun _ _=>True)
  (enters_of Tryz.func134 Zb rfl) (enters_of Tryz.func136 Zb rfl)
  (fun _ _=>trivial) (fun _ _ _ _ _=>trivial) trivial (fun V hV=>(hA V (all hV)).at'.eff) (fun V hV=>?_) (fun k hk V hV _=>?_)).mono ?_
 ·refine Ziw (b:=b) (sp:=some ⟨sb,so,none⟩) (sc:=sc) ok.sites.2 (fun V' hV'=>?_)
  have hk:Keeps (fun _=>True) w V':=hV.via hV' fun x hx hs=>⟨hx,hs⟩
  exact⟨Zn (hk.at h1 trivial) 0 rfl,(hA V' (all hk)).w0⟩
 ·refine(ZjE (h.keep (all hV)) (hP.keep (all hV)) ok inn hu hk (hV.at h1 trivial) (hV.at h2 trivial)).mono ?_
  rintro e w' ⟨x,y,he,hx,hb⟩
  exact⟨x,y,he,hx,hb.keepsS _,trivial⟩
 ·rintro e w' ⟨r,mx,x,y,he,hB,hx,hk,_⟩
  exact⟨r,mx,x,y,he,hB,hx,hk.below_of (fun _ _=>trivial) Zpq⟩
theorem Zj1 {t:TaskP} {p:List (List Int)} {b m:Nat} {sv hv rv pv:Value} {pb po pc:Nat} {gq gp gc:Nat->Nat} {w:World} (h:WorkW t b m sv hv rv pv w) (hP:PlanW p t.sites.length m pv pb po pc gq gp gc w) (ok:TaskOk t) (inn:ZbA t p) :
  Calls Tryz.prog 83 #[.pointer (some ⟨b,0,none⟩)] w (fun e w'=>∃ v qs,e=.returned v/\ZbB t p qs/\Own w' w.heap.size v qs/\Below w.heap.size w w'):=by
 obtain⟨sb,so,sc,hb,ho,hc,rb,ro,rk,cv,rq,rp,rc,k1,k2,k3,hA⟩:=h.open ok
 obtain⟨T,hT⟩:=Zpr t.hours.length
 have hT8:=ok.teams
 rw[hT] at hT8
 obtain⟨i0,hi,hz0,hz1,hz2⟩:=info_parts Zg0
 have hmf:∀ (fn:Fn) (first cap:Array Value) (w:World),(Instr.makeFunc fn first cap).run Tryz.prog w=.ok (.func fn first cap) w:=fun _ _ _ _=>rfl
 obtain⟨G,hG⟩:=Zpr w.heap.size
 have HG:=Zpp hG
 obtain⟨w1,hw1⟩:=Zpr (w.alloc (wkO b))
 have HE1:Hid (Env w.heap.size w [(G,wkO b)] [] w1):=by rw[<- hw1];exact(Env.start w).push _ hG.symm
 have HW:Hid (∀ V,Below w.heap.size w V->WorkW t b m sv hv rv pv V/\PlanW p t.sites.length m pv pb po pc gq gp gc V/\V.cell? ⟨b,1,none⟩=some (.slice (some ⟨hb,ho,none⟩) T hc)):=fun V hV=>
  ⟨h.keep (hV.keepsS _),hP.keep (hV.keepsS _),by rw[<- hT];exact(hA V (hV.keepsS _)).w1⟩
 have HOK:=Zpp (And.intro ok inn)
 have HTT:=Zpp hT
 clear h hP hA k1 k2 k3 ok inn hT
 go_enter Tryz.func83,Tryz.ntmps83
 have c0:=HE1.out.cell 0 0 (v:=.pointer (some ⟨b,0,none⟩)) rfl rfl
 have c1:=(HW.out _ HE1.out.base).2.2
 go_wp2_with fail
 clear c0 c1 hw1 hG
 obtain⟨B0,hB0⟩:=Zpr w1.heap.size
 have HB0:=Zpp hB0
 have hGB:w.heap.size<=B0:=by rw[<- hB0];exact HE1.out.base.size
 clear hB0
 go_loopw [3,15] (fun uv iv wr=>∃ (u:Nat) (qs:List PP),iv=.int .i64 u/\u<=T/\Hid (Own wr B0 uv qs)/\Hid (qs.length=u/\∀ j,j<u->∃ r m,Best (priF t p j) t.sites.length r m/\IsP m (qs.getD j (Zpm,Zpm)).1 (qs.getD j (Zpm,Zpm)).2)/\Hid (Below B0 w1 wr)) (fun _ iv _=>T-(intOf iv).toNat)
 case atStart=>exact⟨0,[],rfl,ZoZ _,Own.nil _ _,⟨rfl,fun j hj=>absurd hj (Zpc _)⟩,ZoM _ _⟩
 case round=>
  obtain⟨u,qs,rfl,hu,HO,HQ,HW1⟩:=hrel
  have HE:=Zpp (HE1.out.after HW1.out (by rw[HB0.out];exact Nat.le_refl _))
  have hBw:B0<=wr.heap.size:=by rw[<- HB0.out];exact HW1.out.size
  by_cases hlt:u<T
  ·obtain⟨Bu,hBu⟩:=Zpr wr.heap.size
   obtain⟨w2,hw2⟩:=Zpr (wr.alloc (iO u))
   have HE2:Hid (Env w.heap.size w [(Bu,iO u),(G,wkO b)] [] w2):=by rw[<- hw2];exact HE.out.push _ hBu.symm
   have HO2:Hid (Own w2 B0 u3 qs):=by rw[<- hw2];exact HO.out.alloc _
   have HW2:Hid (Below B0 w1 w2):=by rw[<- hw2];exact HW1.out.alloc hBw _
   go_wp2_with fail
   clear hw2 hBu
   refine(ZhX (HW.out _ HE2.out.base).1 (HW.out _ HE2.out.base).2.1 HOK.out.1 HOK.out.2 (u:=u) (by rw[HOK.out.1.rates,HTT.out];exact hlt) (HE2.out.block 1 rfl) (HE2.out.block 0 rfl)).mono ?_
   rintro e w3 ⟨r,mx,x,y,rfl,hB,hx,hb⟩
   have HB9:Hid (Best (priF t p u) t.sites.length r mx/\IsP mx x y):=⟨hB,hx⟩
   obtain⟨re,hre⟩:∃ z,numE (fun k=>(k:Int)) r=z:=⟨_,rfl⟩
   obtain⟨rbb,hrb⟩:=Zpr r.isSome
   rw[hre,hrb]
   obtain⟨C,hC⟩:=Zpr w3.heap.size
   obtain⟨V1,hV1⟩:=Zpr (w3.alloc (pObj x y))
   have HE3:Hid (Env w.heap.size w [(C,pObj x y),(Bu,iO u),(G,wkO b)] [] V1):=by rw[<- hV1];exact(HE2.out.step hb).push _ hC.symm
   have hs2:B0<=w2.heap.size:=by rw[<- HB0.out];exact HW2.out.size
   have HW3:Hid (Below B0 w1 V1):=by
    rw[<- hV1]
    exact(HW2.out.trans (hb.mono hs2)).alloc (ZoV hs2 hb.size) _
   have hsz1:B0+1<=V1.heap.size:=by have:=hb.size;rw[<- hV1];simp;omega
   have hown1:V1.ownsRow B0 41 2 u3 qs.length (Zbc qs):=by
    have h1:Own w3 B0 u3 qs:=HO2.out.after hb
    rw[<- hV1]
    exact h1.alloc _
   have hownA:(V1.alloc (pObj x y)).ownsRow B0 41 2 u3 qs.length (Zbc qs):=hown1.alloc _
   have d0:=HE3.out.cell 0 0 (v:=.string x) rfl rfl
   have d1:=HE3.out.cell 0 1 (v:=.string y) rfl rfl
   have hql:=HQ.out.1
   have hm1:qs.length+1<=maxLen:=by unfold maxLen;omega
   have hm2:(qs.length+1)*32<=140737488355328:=Za
   have hm3:B0<=(V1.alloc (pObj x y)).heap.size:=by simp;omega
   have hnews:∀ (j:Nat) (z:Value),([.string x,.string y]:List Value)[j]?=some z->(V1.alloc (pObj x y)).cell? ((⟨V1.heap.size,0,none⟩:Addr).add j)=some z:=World.news_of_block (ZoP V1 _)
   obtain⟨po9,no9,co9,rfl⟩:∃ p n c,u3=Value.slice p n c:=by
    obtain⟨p,c,h,_⟩:=HO.out.pl
    exact⟨_,_,_,h⟩
   have HQL:=Zpp hql
   clear hown1 hB hx hb hre hrb hql
   go_wp2_with (at_builtin;go_loud (refine Zph _ rfl (.tmp 26) (.tmp 28) 37 rfl B0 41 i0 (Zpn Zpm Zpm) 2 32 Tryz.underlying37 hi hz0 hz1 hz2 rfl Zd _ qs.length (Zbc qs) rfl hownA ⟨V1.heap.size,0,none⟩ 1 1 [.string x,.string y] rfl rfl hnews (by simp[Value.oneCell']) hm1 hm2 hm3 ?_);intro v' w4' hown4 hgrow4 _)
   have HO4:Hid (Own w4' B0 v' (qs++[(x,y)])):=by
    show w4'.ownsRow _ _ _ _ _ _
    rw[Zo3,ZeS]
    exact hown4
   have HW4:Hid (Below B0 w1 w4'):=(HW3.out.alloc Za (pObj x y)).grown hgrow4 hm3 (fun z hz=>(Zo0 hownA z hz).1)
   have HQ4:Hid ((qs++[(x,y)]).length=u+1/\∀ j,j<u+1->∃ r m,Best (priF t p j) t.sites.length r m/\IsP m ((qs++[(x,y)]).getD j (Zpm,Zpm)).1 ((qs++[(x,y)]).getD j (Zpm,Zpm)).2):=by
    refine⟨by rw[Zo3,HQL.out];rfl,fun j hj=>?_⟩
    rcases ZoS j u with h | h
    ·rw[show (qs++[(x,y)]).getD j (Zpm,Zpm)=qs.getD j (Zpm,Zpm) by simp only[List.getD];rw[List.getElem?_append_left (by rw[HQL.out];exact h)]]
     exact HQ.out.2 j h
    ·obtain rfl:j=u:=Za
     rw[show (qs++[(x,y)]).getD j (Zpm,Zpm)=(x,y) by simp only[List.getD];rw[List.getElem?_append_right (by rw[HQL.out];exact Nat.le_refl _),HQL.out,Nat.sub_self];rfl]
     exact⟨r,mx,HB9.out.1,HB9.out.2⟩
   clear hown4 hgrow4 hownA hnews hm1 hm2 hm3 d0 d1 hV1 hC HQ HB9 HW3 HE3
   go_roundw
   case rel=>exact⟨u+1,qs++[(x,y)],by go_num,Za,HO4,HQ4,HW4⟩
   case measure=>exact Zj
  ·obtain rfl:u=T:=Za
   obtain⟨po9,no9,co9,rfl⟩:∃ p n c,u3=Value.slice p n c:=by
    obtain⟨p,c,h,_⟩:=HO.out.pl
    exact⟨_,_,_,h⟩
   have HPR:Hid (ZbB t p qs):=⟨by rw[HQ.out.1,HTT.out],fun j hj=>HQ.out.2 j (by rw[<- HTT.out];exact hj)⟩
   clear HQ
   go_wp2
   exact ZoN (by simp[results,Tryz.f83,go_sem]) rfl ⟨_,qs,rfl,HPR.out,HO.out.mono hGB,HE.out.base⟩
end Go.Proofs.YtmpaflidennnoaaGreatDoor
namespace Go.Proofs.YtmpaflidennnoaaGreatDoor
open Go.RowKit Go.Shelf
attribute [local go_sem ↓] Go.wp_at_zero Go.wp_at_succ
abbrev prO (v:Value):Obj:=.cells #[v] 37
def Zdz (t:TaskP) (p:List (List Int)) (g B:Nat) (n:Int) (V:World):Prop:=n=0/\∃ v qs,V.heap[g]?=some (prO v)/\ZbB t p qs/\Own V B v qs
theorem Zdz.stay {t:TaskP} {p:List (List Int)} {g h B:Nat} (hne:g≠h) (hB:h<B) (n:Int) (W W':World) (q:Zdz t p g B n W) (hk:Keeps (fun b=>b≠h) W W'):Zdz t p g B n W':=by
 obtain⟨h0,v,qs,h1,h2,h3⟩:=q
 exact⟨h0,v,qs,hk.at h1 hne,h2,h3.kept fun x hx hv=>hk.block x (Zo0 h3 x hv).2 (by show x≠h;omega)⟩
theorem ZjU {t:TaskP} {p:List (List Int)} {Ge Gp Gr:Nat} {ps ph pr pp:Option Addr} {ns nh nr np cs ch cr cp:Nat} {W:World} (he:W.heap[Ge]?=some (efO (.slice ps ns cs) (.slice ph nh ch) (.slice pr nr cr))) (hp:W.heap[Gp]?=some (plO (.slice pp np cp))) (hr:W.heap[Gr]?=some (prO (.slice none 0 0)))
  (hT:TaskIn t (.slice ps ns cs) (.slice ph nh ch) (.slice pr nr cr) W) (hI:IIL W (.slice pp np cp) p) (ok:PlanOk t p) :
  Calls Tryz.prog 82 #[.pointer (some ⟨Ge,0,none⟩),.pointer (some ⟨Gp,0,none⟩),.pointer (some ⟨Gr,0,none⟩)] W (Zgx (Zdz t p Gr W.heap.size) (fun b=>b≠Gr) W):=by
 have e0:=Zn he 0 (v:=.slice ps ns cs) rfl
 have e1:=Zn he 1 (v:=.slice ph nh ch) rfl
 have e2:=Zn he 2 (v:=.slice pr nr cr) rfl
 have p0:=Zn hp 0 (v:=.slice pp np cp) rfl
 have HBG:=Zpp (Zd5 hT hI ok.len8.2 ok.task.sites (fun u h=>ok.row u h))
 have HR:=Zpp hr
 have HOK:=Zpp ok
 have hrl:=(Zpl hr)
 clear hT hI he hp hr ok
 go_enter Tryz.func82,Tryz.ntmps82
 go_wp2_with fail
 refine HBG.out.mono ?_
 rintro e w1 ⟨b,m,sv,hv,rv,pv,gq,gc,rfl,hW,hP,hM,hm,hb1,hb⟩
 obtain⟨pb,pc,_,hPW⟩:=hP.toW HOK.out.len8.1
 have HV:=Zpp (Zj1 hW hPW HOK.out.task HOK.out.inn)
 have HB1:=Zpp hb
 clear hW hP hM hPW hb HBG e0 e1 e2 p0 hm hb1
 go_wp2_with fail
 refine HV.out.mono ?_
 rintro e w2 ⟨v,qs,rfl,hS,hO,hk⟩
 have HB2:Zpk W w2:=HB1.out.trans (hk.mono HB1.out.size)
 have HR2:Hid (w2.heap[Gr]?=some (prO (.slice none 0 0))):=(HB2.out.block _ hrl).trans HR.out
 have HOW:Hid (Own w2 W.heap.size v qs):=hO.mono HB1.out.size
 have HSE:=Zpp hS
 obtain⟨po9,no9,co9,rfl⟩:∃ p n c,v=Value.slice p n c:=by
  obtain⟨p,c,h,_⟩:=hO.pl
  exact⟨_,_,_,h⟩
 clear hk hS hO HV
 have r0:=Zn HR2.out 0 (v:=.slice none 0 0) rfl
 have f0:=Zo HR2.out 0
 go_wp2
 refine ZoN (results_none rfl _ _ _) rfl ⟨0,.inl ⟨rfl,rfl⟩,⟨rfl,_,qs,ZoR HR2.out _,HSE.out,HOW.out.kept fun x hx _=>ZoO _ _ _ _ (by show x≠Gr;omega)⟩,?_⟩
 exact(HB2.out.keepsS (fun b=>b≠Gr)).setCell (p:=⟨Gr,0,none⟩) Zc _
def Zhg (t:TaskP) (p:List (List Int)) (w:World) (e:Ending) (w':World):Prop:=
 ((¬ PlanOk t p/\e=.returned (.tuple #[.slice none 0 0,.int .i64 2]))\/(PlanOk t p/\∃ qs v,ZbB t p qs/\Own w' w.heap.size v qs/\e=.returned (.tuple #[v,.int .i64 0])))/\Below w.heap.size w w'
theorem ZjI {t:TaskP} {p:List (List Int)} {sv hv rv pv:Value} {w:World} (hT:TaskIn t sv hv rv w) (hz:LimT t) (hI:IIL w pv p) :
  Calls Tryz.prog 36 #[.agg #[sv,hv,rv],pv] w (Zhg t p w):=by
 obtain⟨ps,cs,rfl,_⟩:=hT.sites.shape rfl
 obtain⟨ph,ch,rfl,_⟩:=hT.hours.shape rfl
 obtain⟨pr,cr,rfl,_⟩:=hT.rates.shape rfl
 obtain⟨pp,pc,rfl,_⟩:=hI.shape rfl
 obtain⟨ns,hns⟩:=Zpr t.sites.length
 obtain⟨nh,hnh⟩:=Zpr t.hours.length
 obtain⟨nr,hnr⟩:=Zpr t.rates.length
 obtain⟨np,hnp⟩:=Zpr p.length
 rw[hns,hnh,hnr] at hT ⊢
 rw[hnp] at hI ⊢
 have HT:=Zpp hT
 have HI:=Zpp hI
 have HZ:=Zpp hz
 have HE0:Hid (Env w.heap.size w [(w.heap.size+1+1,prO (.slice none 0 0)),(w.heap.size+1,plO (.slice pp np pc)),(w.heap.size,efO (.slice ps ns cs) (.slice ph nh ch) (.slice pr nr cr))] []
  (((w.alloc (efO (.slice ps ns cs) (.slice ph nh ch) (.slice pr nr cr))).alloc (plO (.slice pp np pc))).alloc (prO (.slice none 0 0)))):=(((Env.start w).push _ rfl).push _ Zc).push _ Zc
 have e0:=HE0.out.cell 2 0 (v:=.slice ps ns cs) rfl rfl
 have e1:=HE0.out.cell 2 1 (v:=.slice ph nh ch) rfl rfl
 have e2:=HE0.out.cell 2 2 (v:=.slice pr nr cr) rfl rfl
 have p0:=HE0.out.cell 1 0 (v:=.slice pp np pc) rfl rfl
 clear hT hI hz hns hnh hnr hnp
 go_enter Tryz.func36,Tryz.ntmps36
 go_wp2_with fail
 refine(Zee (HT.out.below HE0.out.base Zpq) HZ.out (IIL.stay2 HI.out HE0.out.base Zpq)).mono ?_
 rintro e w1 ⟨hE,hb⟩
 have HE1:=Zpp (HE0.out.step hb)
 clear hb HE0 e0 e1 e2 p0
 have r0:=HE1.out.cell 0 0 (v:=.slice none 0 0) rfl rfl
 have f0:=HE1.out.free 0 0 rfl
 rcases hE with ⟨hok,rfl⟩ | ⟨hok,rfl⟩
 rotate_left
 ·have HNO:=Zpp hok
  clear hok
  have HS9:=Zpp (HE1.out.store 0 0 (.slice none 0 0) rfl)
  go_wp2
  have q0:=HS9.out.cell 0 0 (v:=.slice none 0 0) rfl rfl
  exact ZoN (v:=.tuple #[.slice none 0 0,.int .i64 2]) (by simp[results,Tryz.f36,go_sem,q0]) rfl ⟨.inl ⟨HNO.out,rfl⟩,HS9.out.base⟩
 ·have HOK:=Zpp hok
  obtain⟨G,hG⟩:=Zpr w.heap.size
  have HGG:=Zpp hG
  have hGE:=HE1.out
  rw[hG] at hGE
  have hs1:G+3<=w1.heap.size:=by
   have:=hGE.lt 0 rfl
   omega
  have HTR:Hid (Calls Tryz.prog 50 #[.func (.func 82) #[] #[.pointer (some ⟨G,0,none⟩),.pointer (some ⟨G+1,0,none⟩),.pointer (some ⟨G+1+1,0,none⟩)]] w1 (Zei (Zdz t p (G+1+1) (w1.heap.size+1)) (fun b=>b≠G+1+1) w1)):=by
   have hal:Below w1.heap.size w1 (w1.alloc (erO 0)):=(ZoM _ w1).alloc Zpq _
   have hE2:=hGE.step hal
   refine Zet (enters_of Tryz.func82 Zb rfl) (fun b hb=>by show b≠G+1+1;omega) (fun n W W'=>Zdz.stay Za Za n W W') ?_
   have hbw:Below w.heap.size w (w1.alloc (erO 0)):=HE1.out.base.trans (hal.mono HE1.out.own)
   have:=ZjU (hE2.block 2 rfl) (hE2.block 1 rfl) (hE2.block 0 rfl) (HT.out.below hbw Zpq) (IIL.stay2 HI.out hbw Zpq) HOK.out
   rw[Zpb] at this
   exact this
  rw[hG] at r0 f0 ⊢
  clear hok hGE r0 f0 hG
  go_wp2_with fail
  refine HTR.out.mono ?_
  rintro e w2 ⟨n,rfl,⟨rfl,v,qs,hxy,hS,hO⟩,hk⟩
  have HSE:=Zpp hS
  have HXY:=Zpp hxy
  have HB2:Zpk w w2:=HE1.out.base.trans (hk.below_of (fun b hb=>by have:=HGG.out;show b≠G+1+1;omega) HE1.out.own)
  obtain⟨po9,no9,co9,rfl⟩:∃ p n c,v=Value.slice p n c:=by
   obtain⟨p,c,h,_⟩:=hO.pl
   exact⟨_,_,_,h⟩
  have HOW:=Zpp hO
  clear hS hk HTR hO
  have r0:=Zn HXY.out 0 (v:=.slice po9 no9 co9) rfl
  have f0:=Zo HXY.out 0
  clear hxy
  go_wp2
  have hb9:(w2.setCell ⟨G+1+1,0,none⟩ (.slice po9 no9 co9)).heap[G+1+1]?=some (prO (.slice po9 no9 co9)):=ZoR HXY.out _
  have q0:=Zn hb9 0 (v:=.slice po9 no9 co9) rfl
  refine ZoN (v:=.tuple #[.slice po9 no9 co9,.int .i64 0]) (by simp[results,Tryz.f36,go_sem,q0]) rfl ⟨.inr ⟨HOK.out,qs,_,HSE.out,(HOW.out.kept fun x hx _=>ZoO _ _ _ _ (by show x≠G+1+1;omega)).mono (by have:=HGG.out;omega),rfl⟩,HB2.out.setCell (p:=⟨G+1+1,0,none⟩) (by have:=HGG.out;show w.heap.size<=G+1+1;omega) _⟩
end Go.Proofs.YtmpaflidennnoaaGreatDoor
