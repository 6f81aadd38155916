/- The parts EGreatB. -/
import Derived.Test.YtmpaflidennnoaaGreatDoorH23
set_option maxRecDepth 100000
set_option maxHeartbeats 8000000
set_option linter.unusedVariables false
set_option linter.unusedSimpArgs false
namespace Go.Proofs.YtmpaflidennnoaaGreatDoor
open Go.RowKit Go.Shelf
attribute [local go_sem ↓] Go.wp_at_zero Go.wp_at_succ
attribute [local go_sem] Oper.semAt_some
def Zkv (e:Nat->BB):Option Nat->Value
 | none=>bV nob
 | some k=>bV (e k)
def Zgn (e:Nat->BB):Option Nat->Obj
 | none=>bObj nob
 | some k=>bObj (e k)
def BoxZ (e:Nat->BB) (B:Nat) (a1:Nat->Nat->Act) (k:Nat) (a':Act) (W:World):Prop:=
 ∃ A,B<=A/\a'=a1 k A/\W.heap[A]?=some (bObj (e k))
theorem ZhY {e:Nat->BB} {g:Nat->Rat} {N:Nat} {Sx:Nat->Prop} {J:Nat->World->Prop} {gf of:Nat} {lb caps:Array Value} {w:World}
  (hgf:∀ args w,(callFunc gf args).run Tryz.prog w=.ok (.enter gf args) w) (hof:∀ args w,(callFunc of args).run Tryz.prog w=.ok (.enter of args) w)
  (hup:∀ b,w.heap.size<=b->Sx b) (hJ:∀ k W1 W2,J k W1->Keeps (fun b=>b<w.heap.size) W1 W2->J k W2) (h0:J 0 w) (hz:∀ V,Keeps Sx w V->EffZ V)
  (hit:∀ V,Keeps Sx w V->Iter Tryz.prog gf lb (fun k=>#[bV (e k)]) N (fun b=>b<w.heap.size/\Sx b) (fun _=>True) V)
  (hc:∀ k,k<N->∀ V,Keeps Sx w V->J k V->Calls Tryz.prog of (#[bV (e k)]++caps) V (fun e' V'=>∃ x y,e'=.returned (pV x y)/\IsP (g k) x y/\Keeps Sx V V'/\J (k+1) V')) :
  Calls Tryz.prog 170 #[.func (.func gf) #[] lb,.func (.func of) #[] caps] w (Zfd Sx (Zkv e) g N J w):=by
 have HUP:=Zpe hup
 have HJ:=Zpe hJ
 have HIT:=Zpe hit
 have HC:=Zpe hc
 have HZ:=Zpe hz
 have HJ0:=Zpe h0
 have HGF:=Zpe hgf
 clear hup hJ hit hc hz h0 hgf
 obtain⟨w4,hw4⟩:=Zpg ((((w.alloc (.cells #[.func (.func of) #[] caps] 208)).alloc (bO Zpa Zpa Zpa Zpa)).alloc (pObj Zpa Zpa)).alloc (flO false))
 obtain⟨P,hP⟩:=Zpg w.heap.size
 have HX:Zv P [.cells #[.func (.func of) #[] caps] 208,bO Zpa Zpa Zpa Zpa,pObj Zpa Zpa,flO false] w4:=by rw[<- hw4,<- hP];exact Zv.four w _ _ _ _
 have hk4:Keeps Sx w w4:=by rw[<- hw4];exact((((Keeps.refl Sx w).alloc _).alloc _).alloc _).alloc _
 have HK5:Hid (∀ V:World,Keeps (fun b=>b<w.heap.size) w V->J 0 V):=fun V hV=>HJ.out _ _ _ HJ0.out hV
 have hs4:w4.heap.size=P+4:=by rw[<- hw4,<- hP];simp
 have z:=HZ.out _ hk4
 have z0:=z.z0
 have z1:=z.z1
 have c0:=HX.cell 2 0 (b:=P+1+1) (v:=.string Zpa) rfl rfl rfl
 have c1:=HX.cell 2 1 (b:=P+1+1) (v:=.string Zpa) rfl rfl rfl
 have f0:=HX.free 2 0 (b:=P+1+1) rfl rfl
 have f1:=HX.free 2 1 (b:=P+1+1) rfl rfl
 have HPP:=Zpe hP
 clear z
 refine Zdq Tryz.func170 rfl ?_
 simp only[Tryz.ntmps170,Nat.reduceAdd,Nat.reduceSub,Zpd]
 go_wp2_with fail
 obtain⟨w5,hw5⟩:=Zpg ((w4.setCell ⟨P+1+1,0,none⟩ (.string ⟨#[48]⟩)).setCell ⟨P+1+1,1,none⟩ (.string ⟨#[49]⟩))
 have o5:∀ k,k≠P+1+1->w5.heap[k]?=w4.heap[k]?:=fun k hk=>by rw[<- hw5];exact(Zos _ _ _ _ hk).trans (Zos _ _ _ _ hk)
 have hk5:Keeps Sx w w5:=by
  refine hk4.via (S':=fun b=>b≠P+1+1) ?_ fun b hb _=>by show b≠P+1+1;omega
  rw[<- hw5]
  exact((Keeps.refl _ w4).setCell Zc _).setCell Zc _
 have HG5:Hid (GreatI Sx w P (.cells #[.func (.func of) #[] caps] 208) (bO Zpa Zpa Zpa Zpa) ⟨#[48]⟩ ⟨#[49]⟩ false w5):=
  ⟨hk5,(o5 P Za).trans (HX.block 0 rfl rfl),(o5 _ Za).trans (HX.block 1 rfl rfl),by rw[<- hw5];exact Zah (HX.block 2 (b:=P+1+1) rfl rfl) _ _,(o5 _ Za).trans (HX.block 3 (b:=P+1+1+1) rfl rfl)⟩
 have hkB:Keeps (fun b=>b<w.heap.size) w w5:=by
  rw[<- hw5,<- hw4]
  exact((((((Keeps.refl _ w).alloc _).alloc _).alloc _).alloc _).setCell (by show ¬ P+1+1<w.heap.size;omega) _).setCell (by show ¬ P+1+1<w.heap.size;omega) _
 have hD:w5.heap.size=P+4:=by rw[<- hw5];simp[hs4]
 rw[hw5]
 clear hw5 o5 z0 z1 c0 c1 f0 f1 HX hk4 hs4 hw4
 refine(wpIn_wide (n:=9)).1 ?_
 refine ZdY (P+4) hD (gf:=gf) (lb:=lb) (f:=fun k=>#[bV (e k)]) (N:=N) (S:=fun x=>x<P/\Sx x) (T:=fun _=>True)
  rfl HGF.out (fun _=>rfl) ?iter (fun _ h=>Za) ⟨trivial,trivial⟩
  (ZlG Sx w P (.cells #[.func (.func of) #[] caps] 208) (Zgn e) g J) (fun _ _ _=>False) ?ci ?cx ?start
  (BoxZ e (P+6) ?a1) ?cb ?assign ?body ?done ?stop
 case iter=>
  have:=HIT.out _ hk5
  rwa [hP] at this
 case ci=>
  rintro k W1 W2 ⟨r,m,x,y,h1,h2,h3,h4⟩ hk
  exact⟨r,m,x,y,h1,h2,h3.keep hP.symm hk (fun b hb _=>⟨trivial,Za,Za⟩) ⟨⟨trivial,Za,Za⟩,⟨trivial,Za,Za⟩,⟨trivial,Za,Za⟩,⟨trivial,Za,Za⟩⟩,
   HJ.out _ _ _ h4 (hk.mono fun b _ hb=>⟨trivial,Za,Za⟩)⟩
 case cx=>exact fun _ _ _ _ h _=>h
 case start=>
  exact⟨none,0,_,_,Best.zero g,Zad,HG5.out,HK5.out _ hkB⟩
 case cb=>
  rintro k a' W1 W2 ⟨A,h1,h2,h3⟩ hk
  exact⟨A,h1,h2,hk.at h3 ⟨Za,Za⟩⟩
 case assign=>
  intro l k W hk hW
  gi_wp2
  have h1:(W.alloc (bObj (e k))).heap[W.heap.size]?=some (bObj (e k)):=Zot W _
  have hkk:Keeps (fun _=>True) W (W.alloc (bObj (e k))):=(Keeps.refl _ W).alloc _
  obtain⟨V,hV⟩:=Zpg (W.alloc (bObj (e k)))
  rw[hV] at h1 hkk
  obtain⟨A,hA⟩:=Zpg W.heap.size
  rw[hA] at h1
  simp only[hV,hA]
  refine⟨hkk,A,Za,?_,h1⟩
  clear hkk h1 hV hA hW
  exact rfl
 case body=>
  have hfn:∀ k,Fence.wide.fn k:=fun _=>trivial
  rintro l k a' W hk ⟨r,m,x,y,hB,hI,hG,hJk⟩ ⟨A,hA,rfl,hA0⟩ hW
  have hcall:=HC.out k hk W hG.base hJk
  obtain⟨⟨⟨s0,s1⟩,s2,s3⟩,hst⟩:∃ z,e k=z:=⟨_,rfl⟩
  have HST:=Zpe hst
  rw[hst] at hA0 hcall
  try dsimp only at hA0 hcall
  try rw[hst]
  try dsimp only
  have HB:=Zpe hB
  have HI:=Zpe hI
  have HG:=Zpe hG
  have HCL:=Zpe hcall
  have HA0:=Zpe hA0
  have a0:W.cell? ⟨A,0,none⟩=some (.string s0):=Zn hA0 0 rfl
  have a1:W.cell? ⟨A,1,none⟩=some (.string s1):=Zn hA0 1 rfl
  have a2:W.cell? ⟨A,2,none⟩=some (.string s2):=Zn hA0 2 rfl
  have a3:W.cell? ⟨A,3,none⟩=some (.string s3):=Zn hA0 3 rfl
  have p0:W.cell? ⟨P,0,none⟩=some (.func (.func of) #[] caps):=Zn hG.b0 0 rfl
  clear hB hI hG hJk hcall hA0 hst
  gi_wp2_with fail
  refine(CallsIn.inRound l (ZoU.2 HCL.out)).mono ?_
  rintro e' V ⟨x2,y2,rfl,hx2,hkV,hJV⟩
  have HX2:=Zpe hx2
  have HJV:=Zpe hJV
  have HKV:=Zpe hkV
  have HGV:=Zpe (HG.out.keep hP.symm hkV (fun b _ hs=>hs) ⟨HUP.out _ Za,HUP.out _ Za,HUP.out _ Za,HUP.out _ Za⟩)
  have HAV:=Zpe (hkV.at HA0.out (HUP.out _ Za))
  clear hx2 hJV hkV a0 a1 a2 a3 p0
  have c0:(V.alloc (pObj x2 y2)).cell? ⟨V.heap.size,0,none⟩=some (.string x2):=ZK _ _ _ 0 rfl
  have c1:(V.alloc (pObj x2 y2)).cell? ⟨V.heap.size,1,none⟩=some (.string y2):=ZK _ _ _ 1 rfl
  have HG1:Hid (GreatI Sx w P (.cells #[.func (.func of) #[] caps] 208) (Zgn e r) x y r.isSome (V.alloc (pObj x2 y2))):=HGV.out.keep (S:=fun _=>True) hP.symm ((Keeps.refl _ V).alloc _) (fun _ _ _=>trivial) ⟨trivial,trivial,trivial,trivial⟩
  have d0:=Zn HG1.out.b2 0 (v:=.string x) rfl
  have d1:=Zn HG1.out.b2 1 (v:=.string y) rfl
  obtain⟨n,hn⟩:=Zpg (sgnR (g k) m)
  gi_wp2_with fail
  refine(CallsIn.inRound l (ZoU.2 (ZbH HX2.out HI.out hn _))).mono ?_
  rintro e' V2 ⟨rfl,hb⟩
  obtain⟨g8,hg8⟩:=Zpg V.heap.size
  have h8:V2.heap[g8]?=some (pObj x2 y2):=by
   rw[<- hg8]
   exact(hb.block _ Zc).trans (Zot V _)
  have hkA:Keeps Sx V (V.alloc (pObj x2 y2)):=(Keeps.refl _ V).alloc _
  have hkJ:Keeps (fun b=>b<w.heap.size) V V2:=((Keeps.refl _ V).alloc _).trans (hb.keepsS _)
  have HK2:=Zpe (HKV.out.trans (hkA.trans (hb.keepsS Sx)))
  have HA2:=Zpe ((hkA.trans (hb.keepsS Sx)).at HAV.out (HUP.out _ Za))
  have HG2:=Zpe (HG1.out.keep hP.symm (hb.keepsS (fun _=>True)) (fun _ _ _=>trivial) ⟨trivial,trivial,trivial,trivial⟩)
  have HJ2:=Zpe (HJ.out _ _ _ HJV.out hkJ)
  have H8:=Zpe h8
  have HRE:Hid (∀ b,((b<P/\Sx b)\/b=P+4\/b=P+4+1)->Sx b):=fun b hs=>by
   rcases hs with ⟨_,h⟩ | h | h
   ·exact h
   ·exact HUP.out _ Za
   ·exact HUP.out _ Za
  have hPg:P+6<=g8:=by
   rw[<- hg8]
   exact Zoz hW HKV.out.size
  clear c0 c1 d0 d1 hb hkA hkJ h8 HG1 HGV HAV HJV
  by_cases hlt:m<g k
  ·have hge:(0:Int)<n:=by rw[<- hn];exact Zb2 (Rat.not_le.2 hlt)
   have HBU:=Zpe (HB.out.up hlt)
   clear hn hlt
   gi_wp2
   obtain⟨q0,q1,q2,q3,hab⟩:∃ a b c d,Zgn e r=bO a b c d:=by cases r<;>exact⟨_,_,_,_,rfl⟩
   refine Zbt [(true,0),(true,1),(false,2),(false,3),(false,4)] (fun W'=>W'.heap[A]?=some (bO s0 s1 s2 s3)/\W'.heap[g8]?=some (pObj x2 y2)) (fun _=>false)
    Zb Zb (fun _ _=>rfl) Zi (fun _ _ h=>h) ⟨HA2.out,H8.out⟩ ?_
   have b1:V2.drew.heap[P+1]?=some (bO q0 q1 q2 q3):=by rw[<- hab];exact HG2.out.b1
   have b2:V2.drew.heap[P+1+1]?=some (pObj x y):=HG2.out.b2
   have b3:V2.drew.heap[P+1+1+1]?=some (flO r.isSome):=HG2.out.b3
   have b0:V2.drew.heap[P]?=some (.cells #[.func (.func of) #[] caps] 208):=HG2.out.b0
   have bA:V2.drew.heap[A]?=some (bO s0 s1 s2 s3):=HA2.out
   have b8:V2.drew.heap[g8]?=some (pObj x2 y2):=H8.out
   have HKD:Hid (Keeps Sx W V2.drew):=HK2.out.drew
   have HKW:Hid (Keeps Sx w V2.drew):=HG2.out.base.drew
   have HJD:Hid (J (k+1) V2.drew):=HJ.out _ _ _ HJ2.out (Keeps.refl _ V2).drew
   obtain⟨V3,hV3⟩:=Zpg V2.drew
   rw[hV3] at b0 b1 b2 b3 bA b8 HKD HKW HJD ⊢
   clear hV3 HK2 HG2 HJ2 hab
   iterate 2
    refine Zr _ rfl rfl (fun w' hS=>by obtain⟨h1,h2⟩:=hS;have a0:=Zn h1 0 (v:=.string s0) rfl;have a1:=Zn h1 1 (v:=.string s1) rfl;have a2:=Zn h1 2 (v:=.string s2) rfl;have a3:=Zn h1 3 (v:=.string s3) rfl;have e0:=Zn h2 0 (v:=.string x2) rfl;have e1:=Zn h2 1 (v:=.string y2) rfl;exact Zf) ?_
    simp only[Act.put,Zl]
   have c0:=Zn b1 0 (v:=.string q0) rfl
   have c1:=Zn b1 1 (v:=.string q1) rfl
   have c2:=Zn b1 2 (v:=.string q2) rfl
   have c3:=Zn b1 3 (v:=.string q3) rfl
   have f0:=Zo b1 0
   have f1:=Zo b1 1
   have f2:=Zo b1 2
   have f3:=Zo b1 3
   refine Zt rfl rfl fun K hK=>?_
   go_simp
   obtain⟨V4,hV4⟩:=Zpg ((((V3.setCell ⟨P+1,0,none⟩ (.string s0)).setCell ⟨P+1,1,none⟩ (.string s1)).setCell ⟨P+1,2,none⟩ (.string s2)).setCell ⟨P+1,3,none⟩ (.string s3))
   have o4:∀ j,j≠P+1->V4.heap[j]?=V3.heap[j]?:=fun j hj=>by rw[<- hV4];exact(((Zos _ _ _ _ hj).trans (Zos _ _ _ _ hj)).trans (Zos _ _ _ _ hj)).trans (Zos _ _ _ _ hj)
   have d1:V4.heap[P+1]?=some (bO s0 s1 s2 s3):=by rw[<- hV4];exact Zov (Zov (Zov (Zov b1 _) _) _) _
   have k4:Keeps (fun b=>b≠P+1) V3 V4:=by rw[<- hV4];exact((((Keeps.refl _ V3).setCell Zc _).setCell Zc _).setCell Zc _).setCell Zc _
   rw[hV4]
   refine hK _ _ (.inr ⟨(o4 _ Za).trans bA,(o4 _ Za).trans b8⟩) ?_
   clear hK K hV4 c0 c1 c2 c3 f0 f1 f2 f3 b1
   have b0:=(o4 _ Za).trans b0
   have b2:=(o4 _ Za).trans b2
   have b3:=(o4 _ Za).trans b3
   have bA:=(o4 _ Za).trans bA
   have b8:=(o4 _ Za).trans b8
   have c0:=Zn b2 0 (v:=.string x) rfl
   have c1:=Zn b2 1 (v:=.string y) rfl
   have f0:=Zo b2 0
   have f1:=Zo b2 1
   refine Zt rfl rfl fun K hK=>?_
   go_simp
   obtain⟨V5,hV5⟩:=Zpg ((V4.setCell ⟨P+1+1,0,none⟩ (.string x2)).setCell ⟨P+1+1,1,none⟩ (.string y2))
   have o5:∀ j,j≠P+1+1->V5.heap[j]?=V4.heap[j]?:=fun j hj=>by rw[<- hV5];exact(Zos _ _ _ _ hj).trans (Zos _ _ _ _ hj)
   have d2:V5.heap[P+1+1]?=some (pObj x2 y2):=by rw[<- hV5];exact Zah b2 _ _
   have k5:Keeps (fun b=>b≠P+1+1) V4 V5:=by rw[<- hV5];exact((Keeps.refl _ V4).setCell Zc _).setCell Zc _
   rw[hV5]
   refine hK _ _ (.inr ⟨(o5 _ Za).trans bA,(o5 _ Za).trans b8⟩) ?_
   clear hK K hV5 c0 c1 f0 f1 b2
   have b0:=(o5 _ Za).trans b0
   have d1:=(o5 _ Za).trans d1
   have b3:=(o5 _ Za).trans b3
   have bA:=(o5 _ Za).trans bA
   have b8:=(o5 _ Za).trans b8
   have c0:=Zn b3 0 (v:=.bool r.isSome) rfl
   have f0:=Zo b3 0
   refine Zt rfl rfl fun K hK=>?_
   go_simp
   obtain⟨V6,hV6⟩:=Zpg (V5.setCell ⟨P+1+1+1,0,none⟩ (.bool true))
   have o6:∀ j,j≠P+1+1+1->V6.heap[j]?=V5.heap[j]?:=fun j hj=>by rw[<- hV6];exact Zos _ _ _ _ hj
   have d3:V6.heap[P+1+1+1]?=some (flO true):=by rw[<- hV6];exact Zov b3 _
   have k6:Keeps (fun b=>b≠P+1+1+1) V5 V6:=by rw[<- hV6];exact(Keeps.refl _ V5).setCell Zc _
   rw[hV6]
   refine hK _ _ (.inr ⟨(o6 _ Za).trans bA,(o6 _ Za).trans b8⟩) ?_
   clear hK K hV6 c0 f0 b3
   have HKK:Hid (∀ (S:Nat->Prop),¬ S (P+1)->¬ S (P+1+1)->¬ S (P+1+1+1)->Keeps S V3 V6):=fun S h1 h2 h3=>
    (((k4.mono fun b _ hb e=>h1 (e ▸ hb)).trans (k5.mono fun b _ hb e=>h2 (e ▸ hb))).trans (k6.mono fun b _ hb e=>h3 (e ▸ hb)))
   have HG6:Hid (GreatI Sx w P (.cells #[.func (.func of) #[] caps] 208) (Zgn e (some k)) x2 y2 true V6):=
    ⟨HKW.out.via (HKK.out (fun b=>b<P) Za Za Za) (fun b hb _=>Za),(o6 _ Za).trans b0,by show V6.heap[P+1]?=some (bObj (e k));rw[HST.out];exact(o6 _ Za).trans d1,(o6 _ Za).trans d2,d3⟩
   have HJ6:Hid (J (k+1) V6):=HJ.out _ _ _ HJD.out (HKK.out _ Za Za Za)
   have HKE:Hid (Keeps (fun b=>(b<P/\Sx b)\/b=P+4\/b=P+4+1) W V6):=(HKD.out.mono fun b _ hs=>HRE.out b hs).trans (HKK.out _ Za Za Za)
   clear o4 o5 o6 k4 k5 k6 d1 d2 d3 b0 bA b8
   refine ZJ ?_
   gi_wp2
   exact⟨HKE.out,some k,g k,x2,y2,HBU.out,HX2.out,HG6.out,HJ6.out⟩
  ·have hge:¬ (0:Int)<n:=by rw[<- hn];exact ZbZ (Rat.not_lt.1 hlt)
   have HBU:=Zpe (HB.out.keep (Rat.not_lt.1 hlt))
   clear hn hlt
   gi_wp2
   exact⟨HK2.out.mono fun b _ hs=>HRE.out b hs,r,m,x,y,HBU.out,HI.out,HG2.out,HJ2.out⟩
 case done=>
  rintro W ⟨r,m,x,y,hB,hI,hG,hJk⟩ hdef
  obtain⟨q0,q1,q2,q3,hab,hae⟩:∃ a b c d,Zgn e r=bO a b c d/\Zkv e r=.agg #[.string a,.string b,.string c,.string d]:=by cases r<;>exact⟨_,_,_,_,rfl,rfl⟩
  obtain⟨ok,hok⟩:=Zpg r.isSome
  rw[hab,hok] at hG
  have HB:=Zpe hB
  have HI:=Zpe hI
  have HJN:=Zpe hJk
  have HAE:=Zpe hae
  have HOK:=Zpe hok
  clear hB hI hJk hab hae hok
  go_wp2
  refine Zaf [(true,0),(true,1),(true,2),(false,3),(false,4),(false,5)] (fun W'=>W'.heap[P+1]?=some (bO q0 q1 q2 q3)/\W'.heap[P+1+1]?=some (pObj x y)/\W'.heap[P+1+1+1]?=some (flO ok)) (fun _=>false)
   Zb Zb (fun _ _=>rfl) Zi ⟨hG.b1,hG.b2,hG.b3⟩ ?_
  have b1:W.drew.heap[P+1]?=some (bO q0 q1 q2 q3):=hG.b1
  have b2:W.drew.heap[P+1+1]?=some (pObj x y):=hG.b2
  have b3:W.drew.heap[P+1+1+1]?=some (flO ok):=hG.b3
  have bd:W.drew.heap[P+4]?=some (.deferred (some [])):=hdef
  have HKW:Hid (Keeps Sx w W.drew):=hG.base.drew
  have HJD:Hid (J N W.drew):=HJ.out _ _ _ HJN.out (Keeps.refl _ W).drew
  obtain⟨V3,hV3⟩:=Zpg W.drew
  rw[hV3] at b1 b2 b3 bd HKW HJD ⊢
  clear hV3 hG hdef HJN
  iterate 3
   refine Zr _ rfl rfl (fun w' hS=>by obtain⟨h1,h2,h3⟩:=hS;have a0:=Zn h1 0 (v:=.string q0) rfl;have a1:=Zn h1 1 (v:=.string q1) rfl;have a2:=Zn h1 2 (v:=.string q2) rfl;have a3:=Zn h1 3 (v:=.string q3) rfl;have e0:=Zn h2 0 (v:=.string x) rfl;have e1:=Zn h2 1 (v:=.string y) rfl;have e2:=Zn h3 0 (v:=.bool ok) rfl;exact Zf) ?_
   simp only[Act.put,Zl]
  have c0:=Zn b1 0 (v:=.string q0) rfl
  have c1:=Zn b1 1 (v:=.string q1) rfl
  have c2:=Zn b1 2 (v:=.string q2) rfl
  have c3:=Zn b1 3 (v:=.string q3) rfl
  have f0:=Zo b1 0
  have f1:=Zo b1 1
  have f2:=Zo b1 2
  have f3:=Zo b1 3
  refine Zt rfl rfl fun K hK=>?_
  go_simp
  obtain⟨V4,hV4⟩:=Zpg ((((V3.setCell ⟨P+1,0,none⟩ (.string q0)).setCell ⟨P+1,1,none⟩ (.string q1)).setCell ⟨P+1,2,none⟩ (.string q2)).setCell ⟨P+1,3,none⟩ (.string q3))
  have o4:∀ j,j≠P+1->V4.heap[j]?=V3.heap[j]?:=fun j hj=>by rw[<- hV4];exact(((Zos _ _ _ _ hj).trans (Zos _ _ _ _ hj)).trans (Zos _ _ _ _ hj)).trans (Zos _ _ _ _ hj)
  have d1:V4.heap[P+1]?=some (bO q0 q1 q2 q3):=by rw[<- hV4];exact Zov (Zov (Zov (Zov b1 _) _) _) _
  have k4:Keeps (fun b=>b≠P+1) V3 V4:=by rw[<- hV4];exact((((Keeps.refl _ V3).setCell Zc _).setCell Zc _).setCell Zc _).setCell Zc _
  rw[hV4]
  have b2:=(o4 _ Za).trans b2
  have b3:=(o4 _ Za).trans b3
  refine hK _ _ (.inr ⟨d1,b2,b3⟩) ?_
  clear hK K hV4 c0 c1 c2 c3 f0 f1 f2 f3 b1
  have bd:=(o4 _ Za).trans bd
  have c0:=Zn b2 0 (v:=.string x) rfl
  have c1:=Zn b2 1 (v:=.string y) rfl
  have f0:=Zo b2 0
  have f1:=Zo b2 1
  refine Zt rfl rfl fun K hK=>?_
  go_simp
  obtain⟨V5,hV5⟩:=Zpg ((V4.setCell ⟨P+1+1,0,none⟩ (.string x)).setCell ⟨P+1+1,1,none⟩ (.string y))
  have o5:∀ j,j≠P+1+1->V5.heap[j]?=V4.heap[j]?:=fun j hj=>by rw[<- hV5];exact(Zos _ _ _ _ hj).trans (Zos _ _ _ _ hj)
  have d2:V5.heap[P+1+1]?=some (pObj x y):=by rw[<- hV5];exact Zah b2 _ _
  have k5:Keeps (fun b=>b≠P+1+1) V4 V5:=by rw[<- hV5];exact((Keeps.refl _ V4).setCell Zc _).setCell Zc _
  rw[hV5]
  have d1:=(o5 _ Za).trans d1
  have b3:=(o5 _ Za).trans b3
  refine hK _ _ (.inr ⟨d1,d2,b3⟩) ?_
  clear hK K hV5 c0 c1 f0 f1 b2
  have bd:=(o5 _ Za).trans bd
  have c0:=Zn b3 0 (v:=.bool ok) rfl
  have f0:=Zo b3 0
  refine Zt rfl rfl fun K hK=>?_
  go_simp
  obtain⟨V6,hV6⟩:=Zpg (V5.setCell ⟨P+1+1+1,0,none⟩ (.bool ok))
  have o6:∀ j,j≠P+1+1+1->V6.heap[j]?=V5.heap[j]?:=fun j hj=>by rw[<- hV6];exact Zos _ _ _ _ hj
  have d3:V6.heap[P+1+1+1]?=some (flO ok):=by rw[<- hV6];exact Zov b3 _
  have k6:Keeps (fun b=>b≠P+1+1+1) V5 V6:=by rw[<- hV6];exact(Keeps.refl _ V5).setCell Zc _
  rw[hV6]
  have d1:=(o6 _ Za).trans d1
  have d2:=(o6 _ Za).trans d2
  refine hK _ _ (.inr ⟨d1,d2,d3⟩) ?_
  clear hK K hV6 c0 f0 b3
  have bd:=(o6 _ Za).trans bd
  have k9:Keeps (fun b=>b<P) V3 (V6.putObj (P+4) (.deferred none)):=
   (((k4.mono fun b _ (hb:b<P)=>Za).trans (k5.mono fun b _ (hb:b<P)=>Za)).trans (k6.mono fun b _ (hb:b<P)=>Za)).putObj (by show ¬ P+4<P;omega) _
  have HKE:Hid (Keeps Sx w (V6.putObj (P+4) (.deferred none))):=HKW.out.via k9 fun b hb _=>Za
  have HJE:Hid (J N (V6.putObj (P+4) (.deferred none))):=HJ.out _ _ _ HJD.out (by rw[HPP.out];exact k9)
  have k4':∀ {g:Nat} {o:Obj},g≠P+4->V6.heap[g]?=some o->(V6.putObj (P+4) (.deferred none)).heap[g]?=some o:=fun hg h=>(ZoJ hg).trans h
  have g1:=k4' Za d1
  have g2:=k4' Za d2
  have g3:=k4' Za d3
  clear o4 o5 o6 k4 k5 k6 k9 d1 d2 d3 k4'
  refine ZJ ?_
  go_wp2
  unfold Calm bodyPostM
  refine⟨Zc,.inl ⟨_,_,rfl,run_takeDeferred bd,?_⟩⟩
  have c0:=Zn g1 0 (v:=.string q0) rfl
  have c1:=Zn g1 1 (v:=.string q1) rfl
  have c2:=Zn g1 2 (v:=.string q2) rfl
  have c3:=Zn g1 3 (v:=.string q3) rfl
  have d0:=Zn g2 0 (v:=.string x) rfl
  have d1:=Zn g2 1 (v:=.string y) rfl
  have f0:=Zn g3 0 (v:=.bool ok) rfl
  refine⟨.tuple #[.agg #[.string q0,.string q1,.string q2,.string q3],pV x y,.bool ok],?_,r,m,x,y,by rw[HAE.out,HOK.out],HB.out,HI.out,HKE.out,HJE.out⟩
  simp[results,Tryz.f170,go_sem,c0,c1,c2,c3,d0,d1,f0]
 case stop=>exact fun _ _ _ _ h _=>h.elim
end Go.Proofs.YtmpaflidennnoaaGreatDoor
