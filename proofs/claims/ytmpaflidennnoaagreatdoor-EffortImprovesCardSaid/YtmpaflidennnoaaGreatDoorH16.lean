/- The parts ESur, EBnd, EBound, BendL, DHalv, Sights, AliveM. -/
import Derived.Test.YtmpaflidennnoaaGreatDoorH15
set_option maxRecDepth 100000
set_option maxHeartbeats 8000000
set_option linter.unusedVariables false
set_option linter.unusedSimpArgs false
namespace Go.Proofs.YtmpaflidennnoaaGreatDoor
open Go.RowKit Go.Shelf
attribute [local go_sem ↓] Go.wp_at_zero Go.wp_at_succ
theorem Zjv {P:Program} {ops:Array Oper} {Q:Exit->Act->World->Prop} {S:Nat->Option Nat->Option Nat->World->Prop} {bar:Nat->Bool} {i d e j:Nat} {tl:List (Nat×Nat)} {o:Oper} {ks:List (Nat×Nat)} {a:Act} (v:Value) (ho:ops[i]?=some o) (hw:∀ z y,Region.wanted o (yielded ops (two d e a z y).tmps)=true) (hv:∀ z y w,(execOp (two d e a z y).eval o).run P w=.ok (.value v) w)
  (h:ZaC P ops Q S bar d e tl ks j (a.put o.dst v)):ZaC P ops Q S bar d e tl ((2,i)::ks) j a:=⟨o,v,ho,fun z y=>.inl ⟨hw z y,fun w _=>hv z y w⟩,h⟩
structure PricesOk (t:TaskP) (qs:List PP):Prop where
 len:qs.length=t.hours.length
 small:∀ u,u<qs.length->Zw 300 (qs.getD u (Zpv,Zpv))=true
def prR (qs:List PP) (u:Nat):Rat:=ratP (qs.getD u (Zpv,Zpv)).1 (qs.getD u (Zpv,Zpv)).2
theorem ZmE {t:TaskP} {qs:List PP} (h:PricesOk t qs) {u:Nat} (hu:u<qs.length):IsP (prR qs u) (qs.getD u (Zpv,Zpv)).1 (qs.getD u (Zpv,Zpv)).2/\Sz 300 (prR qs u):=by
 obtain⟨h1,h2,h3⟩:=Zaj.1 (h.small u hu)
 have:=Zav h3
 exact⟨this,this.sz h1 h2⟩
def SurR (t:TaskP) (qs:List PP) (i:Nat) (s:Rat):Prop:=
 ∃ r,LeastQ (fun u=>prR qs u/rR t u i) (fun u=>rR t u i≠0) t.hours.length r/\((r=none/\s=0)\/∃ c,r=some c/\∃ b,Best (fun k=>posR (wR t i*hR (eS t i).curve k-c*cR (eS t i).curve k)) (eS t i).curve.length b s)
theorem SurR.det {t:TaskP} {qs:List PP} {i:Nat} {s s':Rat} (h:SurR t qs i s) (g:SurR t qs i s'):s=s':=by
 obtain⟨r,h1,h2⟩:=h
 obtain⟨r',g1,g2⟩:=g
 obtain rfl:=h1.det g1
 rcases h2 with ⟨rfl,rfl⟩ | ⟨c,rfl,b,hb⟩
 ·rcases g2 with ⟨_,rfl⟩ | ⟨c,hc,_⟩
  ·rfl
  ·cases hc
 ·rcases g2 with ⟨hc,_⟩ | ⟨c',hc,b',hb'⟩
  ·cases hc
  ·obtain rfl:=ZoP hc
   exact(hb.det hb').2
abbrev iO (i:Int):Obj:=.cells #[.int .i64 i] 3
abbrev ptO (p:Option Addr):Obj:=.cells #[.pointer p] 167
def Zat (P:Nat) (r:Option Rat) (V:World):Prop:=
 match r with
 | none=>V.heap[P]?=some (ptO none)
 | some c=>∃ B c1 c2,V.heap[P]?=some (ptO (some ⟨B,0,none⟩))/\P<B/\V.heap[B]?=some (pObj c1 c2)/\IsP c c1 c2/\Sz 309 c
theorem Zat.step {P:Nat} {r:Option Rat} {V V':World} (h:Zat P r V) (hb:Below V.heap.size V V'):Zat P r V':=by
 cases r with
 | none=>exact(hb.block _ (Zpu h)).trans h
 | some c=>
  obtain⟨B,c1,c2,h1,h2,h3,h4,h5⟩:=h
  exact⟨B,c1,c2,(hb.block _ (Zpu h1)).trans h1,h2,(hb.block _ (Zpu h3)).trans h3,h4,h5⟩
set_option exponentiation.threshold 600 in
theorem ZjI {t:TaskP} {b m:Nat} {sv hv rv pv qv:Value} {qs:List PP} {i:Nat} {w:World} (h:WorkW t b m sv hv rv pv w) (ok:TaskOk t) (hq:PL w qv qs) (hp:PricesOk t qs) (hi:i<t.sites.length) :
  Calls Tryz.prog 122 #[.pointer (some ⟨b,0,none⟩),qv,.int .i64 i] w (fun e w'=>∃ x y s,e=.returned (pV x y)/\SurR t qs i s/\IsP s x y/\Below w.heap.size w w'):=by
 obtain⟨sb,so,sc,hb,ho,hc,rb,ro,rk,cv,rq,rp,rc,k1,k2,k3,hA⟩:=h.open ok
 obtain⟨qb,qo,qc,rfl,q1,q2,q3,q4⟩:=Zem hq (by rw[hp.len];exact ok.teams.1)
 obtain⟨N,hN⟩:=ZpB t.sites.length
 obtain⟨T,hT⟩:=ZpB t.hours.length
 have hTq:=hp.len
 have hTr:=ok.rates
 have hT8:=ok.teams
 have hN24:=ok.sites
 rw[hT] at hTq hTr hT8
 rw[hN] at hN24
 rw[hTq] at q1 ⊢
 have HFA:Hid (∀ V,Below w.heap.size w V->WorkA t b m sb so sc hb ho hc rb ro rk pv cv rq rp rc V):=fun V hV=>hA V (hV.keepsS _)
 have HQ:Hid (∀ V,Below w.heap.size w V->∀ u,u<T->V.cell? ⟨qb,qo+u*2,none⟩=some (.string (qs.getD u (Zpv,Zpv)).1)/\V.cell? ⟨qb,qo+u*2+1,none⟩=some (.string (qs.getD u (Zpv,Zpv)).2)):=fun V hV u hu=>by
  have hu':u<qs.length:=Za
  obtain⟨a1,a2⟩:=q4 u hu'
  rw[show qs.getD u (Zpv,Zpv)=qs[u] by simp[List.getD,hu']]
  exact⟨(hV.cell (p:=⟨qb,qo+u*2,none⟩) q3).trans a1,(hV.cell (p:=⟨qb,qo+u*2+1,none⟩) q3).trans a2⟩
 have HOK:=Zpz ok
 have HP:=Zpz hp
 have HTT:=Zpz hT
 have HNN:=Zpz hN
 have HTQ:=Zpz hTq
 have HTR:=Zpz hTr
 have HI:=Zpz hi
 have hiN:i<N:=Za
 obtain⟨G,hG⟩:=ZpB w.heap.size
 obtain⟨w1,hw1⟩:=ZpB ((((w.alloc (wkO b)).alloc (iO i)).alloc (pObj Zpv Zpv)).alloc (ptO none))
 have hb1:Below w.heap.size w w1:=by rw[<- hw1];exact((((ZoL _ w).alloc ZpA _).alloc Zc _).alloc (by simp<;>omega) _).alloc (by simp<;>omega) _
 have HX:Zv G [wkO b,iO i,pObj Zpv Zpv,ptO none] w1:=by rw[<- hw1,<- hG];exact Zv.four w _ _ _ _
 have g0:=HX.block 0 (b:=G) rfl rfl
 have g1:=HX.block 1 (b:=G+1) rfl rfl
 have g2:=HX.block 2 (b:=G+1+1) rfl rfl
 have g3:=HX.block 3 (b:=G+1+1+1) rfl rfl
 have HGG:=Zpz hG
 have HI1:Hid (Zat (G+1+1+1) none w1/\w1.heap[G]?=some (wkO b)/\w1.heap[G+1]?=some (iO i)/\w1.heap[G+1+1]?=some (pObj Zpv Zpv)/\Below w.heap.size w w1):=⟨g3,g0,g1,g2,hb1⟩
 clear h ok hq hp hA hb1 HX g0 g1 g2 g3 q4 hT hN hTq hTr hi
 go_enter Tryz.func122,Tryz.ntmps122
 go_wp2_with fail
 clear hw1
 go_loopw [17] (fun iv wr=>∃ (u:Nat) (r:Option Rat),iv=.int .i64 u/\u<=T/\Hid (LeastQ (fun u=>prR qs u/rR t u i) (fun u=>rR t u i≠0) u r)/\Hid (Zat (G+1+1+1) r wr/\wr.heap[G]?=some (wkO b)/\wr.heap[G+1]?=some (iO i)/\wr.heap[G+1+1]?=some (pObj Zpv Zpv)/\Below w.heap.size w wr)) (fun iv _=>T-(intOf iv).toNat)
 case atStart=>exact⟨0,none,rfl,ZoY _,LeastQ.zero _ _,HI1⟩
 case round=>
  clear HI1
  obtain⟨u,r,rfl,hu,HL,HR⟩:=hrel
  by_cases hlt:u<T
  ·obtain⟨e0,e1⟩:=HQ.out wr HR.out.2.2.2.2 u hlt
   have i0':(0:Int)<=(u:Int):=Za
   have i1':(u:Int)<(T:Int):=Za
   obtain⟨hpi,hpz⟩:=ZmE HP.out (u:=u) (by rw[HTQ.out];exact hlt)
   obtain⟨⟨p1,p2⟩,hpp⟩:∃ z,qs.getD u (Zpv,Zpv)=z:=⟨_,rfl⟩
   rw[hpp] at e0 e1 hpi
   dsimp only at e0 e1 hpi
   have HPI:=Zpz (Zpq hpi hpz)
   obtain⟨A,hA⟩:=ZpB wr.heap.size
   obtain⟨V1,hV1⟩:=ZpB (wr.alloc (pObj p1 p2))
   have hbV:Below wr.heap.size wr V1:=by rw[<- hV1];exact(ZoL _ wr).alloc ZpA _
   have hA1:V1.heap[A]?=some (pObj p1 p2):=by rw[<- hV1,<- hA];exact ZoO wr _
   have HS1:Hid (V1.heap[A]?=some (pObj p1 p2)/\Zat (G+1+1+1) r V1/\V1.heap[G]?=some (wkO b)/\V1.heap[G+1]?=some (iO i)/\V1.heap[G+1+1]?=some (pObj Zpv Zpv)/\Below w.heap.size w V1):=by
    obtain⟨r1,r2,r3,r4,r5⟩:=HR.out
    exact⟨hA1,r1.step hbV,(hbV.block _ (Zpu r2)).trans r2,(hbV.block _ (Zpu r3)).trans r3,(hbV.block _ (Zpu r4)).trans r4,r5.trans (hbV.mono r5.size)⟩
   have hGA:G+3<A:=by
    rw[<- hA]
    cases r with
    | none=>exact(Zpu HR.out.1)
    | some c=>
     obtain⟨_,_,_,h1,_⟩:=HR.out.1
     exact(Zpu h1)
   have HAA:=Zpz hA
   have hut:u<t.rates.length:=by rw[HTR.out];exact hlt
   obtain⟨_,hrc1,hrc2,_⟩:=(HFA.out w (ZoL _ _)).at'.rate u hut
   have HSR:Hid (∀ V,Below w.heap.size w V->V.cell? ⟨b,2,none⟩=some (.slice (some ⟨rb,ro,none⟩) T rk)/\V.cell? ⟨rb,ro+u,none⟩=some (.slice (some ⟨rq u,rp u,none⟩) N (rc u))/\V.cell? ⟨rq u,rp u+i*2,none⟩=some (.string (eR t u i).1)/\V.cell? ⟨rq u,rp u+i*2+1,none⟩=some (.string (eR t u i).2)/\Tabs V/\EffZ V):=fun V hV=>by
    have A':=HFA.out V hV
    obtain⟨b0,_,_,b1⟩:=A'.at'.rate u hut
    rw[HNN.out] at b0
    obtain⟨b2,b3⟩:=b1 i HI.out
    exact⟨by rw[<- HTR.out];exact A'.w2,b0,b2,b3,A'.at'.tabs,A'.at'.eff⟩
   rw[HNN.out] at hrc1
   have hrk:T<=rk/\rk<=9223372036854775807:=by rw[<- HTR.out];exact k3
   have hrz:=Ze0 HOK.out hut HI.out
   obtain⟨hri,hrs⟩:=Zd3 HOK.out hut HI.out
   obtain⟨q',hq'⟩:=ZpB (rq u)
   obtain⟨o',ho'⟩:=ZpB (rp u)
   obtain⟨c',hc'⟩:=ZpB (rc u)
   obtain⟨⟨r1,r2⟩,hrr⟩:∃ z,eR t u i=z:=⟨_,rfl⟩
   rw[hq',ho',hc',hrr] at HSR
   rw[hc'] at hrc1 hrc2
   rw[hrr] at hrz hri
   dsimp only at HSR hrz hri
   have HRI:=Zpz (Zpq hri hrs)
   have HRZ:=Zpz hrz
   have j0':(0:Int)<=(i:Int):=Za
   have j1':(i:Int)<(N:Int):=Za
   clear hpi hpz hpp hbV hA1 HR hA hri hrs hrz hq' ho' hc' hrr hut
   go_wp2_with fail
   try rw[hV1]
   refine ZP [(1,0),(1,1),(1,2),(1,3),(1,4),(1,5),(1,6),(1,7),(1,8),(1,9),(1,10),(0,11),(0,12)] (fun V=>V.heap[A]?=some (pObj p1 p2)/\Zat (G+1+1+1) r V/\V.heap[G]?=some (wkO b)/\V.heap[G+1]?=some (iO i)/\V.heap[G+1+1]?=some (pObj Zpv Zpv)/\Below w.heap.size w V) (fun i=>i==12)
    Zb Zb (fun j hj=>by have h:13<=j:=hj;simp;omega) Zi ⟨HS1.out.1,HS1.out.2.1.step (ZoL _ V1).drew,HS1.out.2.2.1,HS1.out.2.2.2.1,HS1.out.2.2.2.2.1,HS1.out.2.2.2.2.2.drew⟩ ?_
   have HS2:Hid (V1.drew.heap[A]?=some (pObj p1 p2)/\Zat (G+1+1+1) r V1.drew/\V1.drew.heap[G]?=some (wkO b)/\V1.drew.heap[G+1]?=some (iO i)/\V1.drew.heap[G+1+1]?=some (pObj Zpv Zpv)/\Below w.heap.size w V1.drew):=⟨HS1.out.1,HS1.out.2.1.step (ZoL _ V1).drew,HS1.out.2.2.1,HS1.out.2.2.2.1,HS1.out.2.2.2.2.1,HS1.out.2.2.2.2.2.drew⟩
   obtain⟨V,hV⟩:=ZpB V1.drew
   rw[hV] at HS2 ⊢
   clear hV HS1 hV1 e0 e1
   iterate 11
    refine Zx _ rfl rfl (fun w' hS=>by obtain⟨_,_,hg,hi',_,hB⟩:=hS;obtain⟨a0,a1,a2,a3,_⟩:=HSR.out _ hB;have b0:=Zn hg 0 (v:=.pointer (some ⟨b,0,none⟩)) rfl;have b1:=Zn hi' 0 (v:=.int .i64 i) rfl;exact Ze) ?_
    simp only[Act.put,Zl]
   refine ZB rfl rfl fun K hK=>?_
   go_simp
   obtain⟨B,hB⟩:=ZpB V.heap.size
   obtain⟨V2,hV2⟩:=ZpB (V.alloc (pObj Zpv Zpv))
   have hb2:Below V.heap.size V V2:=by rw[<- hV2];exact(ZoL _ V).alloc ZpA _
   have hB2:V2.heap[B]?=some (pObj Zpv Zpv):=by rw[<- hV2,<- hB];exact ZoO V _
   have step:∀ {V V':World},(V.heap[A]?=some (pObj p1 p2)/\Zat (G+1+1+1) r V/\V.heap[G]?=some (wkO b)/\V.heap[G+1]?=some (iO i)/\V.heap[G+1+1]?=some (pObj Zpv Zpv)/\Below w.heap.size w V)->Below V.heap.size V V'->
     (V'.heap[A]?=some (pObj p1 p2)/\Zat (G+1+1+1) r V'/\V'.heap[G]?=some (wkO b)/\V'.heap[G+1]?=some (iO i)/\V'.heap[G+1+1]?=some (pObj Zpv Zpv)/\Below w.heap.size w V'):=fun {V V'} h hb=>by
    obtain⟨r0,r1,r2,r3,r4,r5⟩:=h
    exact⟨(hb.block _ (Zpu r0)).trans r0,r1.step hb,(hb.block _ (Zpu r2)).trans r2,(hb.block _ (Zpu r3)).trans r3,(hb.block _ (Zpu r4)).trans r4,r5.trans (hb.mono r5.size)⟩
   have STEP:Hid (∀ (V V':World),(V.heap[A]?=some (pObj p1 p2)/\Zat (G+1+1+1) r V/\V.heap[G]?=some (wkO b)/\V.heap[G+1]?=some (iO i)/\V.heap[G+1+1]?=some (pObj Zpv Zpv)/\Below w.heap.size w V)->Below V.heap.size V V'->
     (V'.heap[A]?=some (pObj p1 p2)/\Zat (G+1+1+1) r V'/\V'.heap[G]?=some (wkO b)/\V'.heap[G+1]?=some (iO i)/\V'.heap[G+1+1]?=some (pObj Zpv Zpv)/\Below w.heap.size w V')):=fun V V' h hb=>step h hb
   have HS3:=Zpz (STEP.out _ _ HS2.out hb2)
   have HSZ:=Zpz hB
   have hAB:A<B:=by rw[<- hB];exact(Zpu HS2.out.1)
   try rw[hB]
   try rw[hV2]
   refine hK _ _ (.inr HS3.out) ?_
   clear hK K hV2 step
   have HB2':=Zpz hb2
   clear hb2
   have d0:=Zn hB2 0 (v:=.string Zpv) rfl
   have d1:=Zn hB2 1 (v:=.string Zpv) rfl
   have f0:=Zo hB2 0
   have f1:=Zo hB2 1
   refine ZB rfl rfl fun K hK=>?_
   go_simp
   obtain⟨V3,hV3⟩:=ZpB ((V2.setCell ⟨B,0,none⟩ (.string r1)).setCell ⟨B,1,none⟩ (.string r2))
   have hB3:V3.heap[B]?=some (pObj r1 r2):=by rw[<- hV3];exact Zan hB2 _ _
   have HS4:=Zpz (STEP.out V V3 HS2.out (by rw[<- hV3];exact Zs HB2'.out Za _ _))
   rw[hV3]
   refine hK _ _ (.inl rfl) ?_
   clear hK K hV3 d0 d1 f0 f1 hB2 HS3 hB HS2 HB2'
   have HB3:=Zpz hB3
   refine ZF ?_
   try rw[HAA.out]
   have HF4:=Zpz (HSR.out _ HS4.out.2.2.2.2.2)
   have b0:=Zn HB3.out 0 (v:=.string r1) rfl
   have b1:=Zn HB3.out 1 (v:=.string r2) rfl
   have z0:=HF4.out.2.2.2.2.2.z0
   have z1:=HF4.out.2.2.2.2.2.z1
   clear hB3
   rcases HRZ.out with ⟨hz1,hz2⟩ | ⟨hz1,hz2⟩
   ·have e1:r1=⟨#[48]⟩:=congrArg Prod.fst hz1
    have e2:r2=⟨#[49]⟩:=congrArg Prod.snd hz1
    subst e1
    subst e2
    have HLN:=Zpz (HL.out.skip (n:=u) (fun h=>h hz2))
    clear hz1 hz2
    go_wp2
    go_roundw
    case rel=>exact⟨u+1,r,by go_num,Za,HLN,HS4.out.2⟩
    case measure=>exact Zj
   ·have hzt:=Zfk hz1
    have hpos:0<rR t u i:=by
     have:=HRI.out.1.nn
     grind
    obtain⟨xs,ys,hxs⟩:=Zaa (Go.Proofs.YtmpaflidennnoaaGreatDoor.ZeP HPI.out.1.nn HRI.out.1.nn) (Sz.div HPI.out.1.nn hpos HPI.out.2 HRI.out.2) Zd Zd
    have HXS:=Zpz hxs
    have HXZ:Hid (Sz 309 (prR qs u/rR t u i)):=Sz.div HPI.out.1.nn hpos HPI.out.2 HRI.out.2
    have HPOS:=Zpz (Zpq hpos hz2)
    have a0:=Zn HS4.out.1 0 (v:=.string p1) rfl
    have a1:=Zn HS4.out.1 1 (v:=.string p2) rfl
    clear hz1 hz2 hpos hxs
    go_wp2_with fail
    refine(Zjn HPI.out.1 HRI.out.1 HXS.out HPOS.out.1 rfl _ HF4.out.2.2.2.2.1).mono ?_
    rintro e V4 ⟨rfl,hb4⟩
    have HS5:=Zpz (STEP.out _ _ HS4.out hb4)
    clear hb4 HS4 HF4 a0 a1 b0 b1 z0 z1 hzt HB3
    go_wp2_with fail
    refine(ZaH xs ys _).mono ?_
    rintro e V5 ⟨rfl,hb5⟩
    have HS6:=Zpz (STEP.out _ _ HS5.out hb5)
    clear hb5 HS5
    obtain⟨C,hC⟩:=ZpB V5.heap.size
    obtain⟨V6,hV6⟩:=ZpB (V5.alloc (pObj xs ys))
    have hb6:Below V5.heap.size V5 V6:=by rw[<- hV6];exact(ZoL _ V5).alloc ZpA _
    have hC6:V6.heap[C]?=some (pObj xs ys):=by rw[<- hV6,<- hC];exact ZoO V5 _
    have HS7:=Zpz (STEP.out _ _ HS6.out hb6)
    have HC6:=Zpz hC6
    have hAC:A<C:=by rw[<- hC];exact(Zpu HS6.out.1)
    clear hb6 hC6 HS6
    go_wp2_with fail
    try rw[hV6]
    try rw[hC]
    clear hV6 hC
    cases r with
    | none=>
     refine ZP [(1,0),(1,1),(1,2),(1,3),(1,4),(1,5),(1,6),(0,7),(1,8),(1,9)] (fun V=>V.heap[C]?=some (pObj xs ys)/\V.heap[A]?=some (pObj p1 p2)/\Zat (G+1+1+1) none V/\V.heap[G]?=some (wkO b)/\V.heap[G+1]?=some (iO i)/\V.heap[G+1+1]?=some (pObj Zpv Zpv)/\Below w.heap.size w V) (fun i=>false)
      Zb Zb (fun j hj=>rfl) Zi ⟨HC6.out,STEP.out _ _ HS7.out (ZoL _ V6).drew⟩ ?_
     have HT7:Hid (V6.drew.heap[C]?=some (pObj xs ys)/\V6.drew.heap[A]?=some (pObj p1 p2)/\Zat (G+1+1+1) none V6.drew/\V6.drew.heap[G]?=some (wkO b)/\V6.drew.heap[G+1]?=some (iO i)/\V6.drew.heap[G+1+1]?=some (pObj Zpv Zpv)/\Below w.heap.size w V6.drew):=⟨HC6.out,STEP.out _ _ HS7.out (ZoL _ V6).drew⟩
     obtain⟨V7,hV7⟩:=ZpB V6.drew
     rw[hV7] at HT7 ⊢
     clear hV7 HS7 HC6
     iterate 3
      refine Zx _ rfl rfl (fun w' hS=>by have d0:=Zn hS.2.2.1 0 (v:=.pointer none) rfl;exact Ze) ?_
      simp only[Act.put,Zl]
     iterate 4
      refine Zci rfl rfl ?_
      simp only[Act.put,Zl]
     refine ZiB rfl rfl (.inr HT7.out) ?_
     simp only[Act.put,Zl]
     refine Zci rfl rfl ?_
     simp only[Act.put,Zl]
     iterate 1
      refine Zx _ rfl rfl (fun w' hS=>Ze) ?_
      simp only[Act.put,Zl]
     refine ZF ?_
     have HLN:=Zpz (HL.out.take (n:=u) HPOS.out.2 (fun c hc=>by cases hc))
     have HT:=HT7
     have hcell:V7.heap[G+1+1+1]?=some (ptO none):=HT7.out.2.2.1
     have c3:=Zn hcell 0 (v:=.pointer (none)) rfl
     have f3:=Zo hcell 0
     have HCC:=Zpz hcell
     clear hcell
     go_wp2
     obtain⟨V8,hV8⟩:=ZpB (V7.setCell ⟨G+1+1+1,0,none⟩ (.pointer (some ⟨C,0,none⟩)))
     have o8:∀ x,x≠G+1+1+1->V8.heap[x]?=V7.heap[x]?:=fun x hx=>by rw[<- hV8];exact ZoN _ _ _ _ hx
     have HN8:Hid (Zat (G+1+1+1) (some (prR qs u/rR t u i)) V8/\V8.heap[G]?=some (wkO b)/\V8.heap[G+1]?=some (iO i)/\V8.heap[G+1+1]?=some (pObj Zpv Zpv)/\Below w.heap.size w V8):=by
      obtain⟨t1,_,_,t2,t3,t4,t5⟩:=HT.out
      refine⟨⟨C,xs,ys,by rw[<- hV8];exact ZoQ HCC.out _,Za,(o8 _ Za).trans t1,HXS.out,HXZ.out⟩,(o8 _ Za).trans t2,(o8 _ Za).trans t3,(o8 _ Za).trans t4,?_⟩
      rw[<- hV8]
      exact t5.setCell (p:=⟨G+1+1+1,0,none⟩) (by have:=HGG.out;show w.heap.size<=G+1+1+1;omega) _
     try rw[hV8]
     clear o8 c3 f3 hV8
     go_roundw
     case rel=>exact⟨u+1,_,by go_num,Za,HLN,HN8⟩
     case measure=>exact Zj
    | some c=>
     obtain⟨Bq,c1,c2,q5,q6,q7,q8,q9⟩:=HS7.out.2.1
     have HQ6:=Zpz (Zpq q5 q7)
     have HQI:=Zpz q8
     have HQZ:=Zpz q9
     clear q5 q7 q8 q9
     refine ZP [(1,0),(1,1),(1,2),(1,3),(1,4),(1,5),(1,6),(0,7),(1,8),(1,9)] (fun V=>(V.heap[G+1+1+1]?=some (ptO (some ⟨Bq,0,none⟩))/\V.heap[Bq]?=some (pObj c1 c2))/\V.heap[C]?=some (pObj xs ys)/\V.heap[A]?=some (pObj p1 p2)/\Zat (G+1+1+1) (some c) V/\V.heap[G]?=some (wkO b)/\V.heap[G+1]?=some (iO i)/\V.heap[G+1+1]?=some (pObj Zpv Zpv)/\Below w.heap.size w V) (fun i=>false)
      Zb Zb (fun j hj=>rfl) Zi ⟨HQ6.out,HC6.out,STEP.out _ _ HS7.out (ZoL _ V6).drew⟩ ?_
     have HT7:Hid ((V6.drew.heap[G+1+1+1]?=some (ptO (some ⟨Bq,0,none⟩))/\V6.drew.heap[Bq]?=some (pObj c1 c2))/\V6.drew.heap[C]?=some (pObj xs ys)/\V6.drew.heap[A]?=some (pObj p1 p2)/\Zat (G+1+1+1) (some c) V6.drew/\V6.drew.heap[G]?=some (wkO b)/\V6.drew.heap[G+1]?=some (iO i)/\V6.drew.heap[G+1+1]?=some (pObj Zpv Zpv)/\Below w.heap.size w V6.drew):=⟨HQ6.out,HC6.out,STEP.out _ _ HS7.out (ZoL _ V6).drew⟩
     obtain⟨V7,hV7⟩:=ZpB V6.drew
     rw[hV7] at HT7 ⊢
     clear hV7 HS7 HC6
     iterate 7
      refine Zx _ rfl rfl (fun w' hS=>by obtain⟨⟨hp',hq'⟩,hc',_⟩:=hS;have d0:=Zn hp' 0 (v:=.pointer (some ⟨Bq,0,none⟩)) rfl;have d1:=Zn hq' 0 (v:=.string c1) rfl;have d2:=Zn hq' 1 (v:=.string c2) rfl;have d3:=Zn hc' 0 (v:=.string xs) rfl;have d4:=Zn hc' 1 (v:=.string ys) rfl;exact Ze) ?_
      simp only[Act.put,Zl]
     obtain⟨n,hn⟩:=ZpB (sgnR (prR qs u/rR t u i) c)
     refine Zz 22 _ rfl rfl Zf ?_
     refine(ZbC HXS.out HQI.out hn _).mono ?_
     rintro e V9 ⟨rfl,hb⟩
     have HT9:Hid ((V9.heap[G+1+1+1]?=some (ptO (some ⟨Bq,0,none⟩))/\V9.heap[Bq]?=some (pObj c1 c2))/\V9.heap[C]?=some (pObj xs ys)/\V9.heap[A]?=some (pObj p1 p2)/\Zat (G+1+1+1) (some c) V9/\V9.heap[G]?=some (wkO b)/\V9.heap[G+1]?=some (iO i)/\V9.heap[G+1+1]?=some (pObj Zpv Zpv)/\Below w.heap.size w V9):=by
      obtain⟨⟨t1,t2⟩,t3,t4⟩:=HT7.out
      exact⟨⟨(hb.block _ (Zpu t1)).trans t1,(hb.block _ (Zpu t2)).trans t2⟩,(hb.block _ (Zpu t3)).trans t3,STEP.out _ _ t4 hb⟩
     refine .inl ⟨_,rfl,HT9.out,?_⟩
     clear hb HT7
     simp only[Act.put,Zl]
     by_cases hlt2:prR qs u/rR t u i<c
     ·have hge:n<0:=by
       rw[<- hn]
       unfold sgnR
       rw[if_pos hlt2]
       decide
      have HLN:=Zpz (HL.out.take (n:=u) HPOS.out.2 (fun d hd=>by obtain rfl:=ZoP hd;exact hlt2))
      clear hn hlt2
      iterate 1
       refine Zx _ rfl rfl (fun w' hS=>Ze) ?_
       simp only[Act.put,Zl]
      try rw[decide_eq_true hge]
      iterate 1
       refine Zx _ rfl rfl (fun w' hS=>Ze) ?_
       simp only[Act.put,Zl]
      refine ZF ?_
      obtain⟨V7,hV7⟩:=ZpB V9
      rw[hV7] at HT9 ⊢
      clear hV7 V9
      have HT:=Zpz HT9.out.2
      have hcell:V7.heap[G+1+1+1]?=some (ptO (some ⟨Bq,0,none⟩)):=HT9.out.1.1
      have c3:=Zn hcell 0 (v:=.pointer (some ⟨Bq,0,none⟩)) rfl
      have f3:=Zo hcell 0
      have HCC:=Zpz hcell
      clear hcell
      go_wp2
      obtain⟨V8,hV8⟩:=ZpB (V7.setCell ⟨G+1+1+1,0,none⟩ (.pointer (some ⟨C,0,none⟩)))
      have o8:∀ x,x≠G+1+1+1->V8.heap[x]?=V7.heap[x]?:=fun x hx=>by rw[<- hV8];exact ZoN _ _ _ _ hx
      have HN8:Hid (Zat (G+1+1+1) (some (prR qs u/rR t u i)) V8/\V8.heap[G]?=some (wkO b)/\V8.heap[G+1]?=some (iO i)/\V8.heap[G+1+1]?=some (pObj Zpv Zpv)/\Below w.heap.size w V8):=by
       obtain⟨t1,_,_,t2,t3,t4,t5⟩:=HT.out
       refine⟨⟨C,xs,ys,by rw[<- hV8];exact ZoQ HCC.out _,Za,(o8 _ Za).trans t1,HXS.out,HXZ.out⟩,(o8 _ Za).trans t2,(o8 _ Za).trans t3,(o8 _ Za).trans t4,?_⟩
       rw[<- hV8]
       exact t5.setCell (p:=⟨G+1+1+1,0,none⟩) (by have:=HGG.out;show w.heap.size<=G+1+1+1;omega) _
      try rw[hV8]
      clear o8 c3 f3 hV8
      go_roundw
      case rel=>exact⟨u+1,_,by go_num,Za,HLN,HN8⟩
      case measure=>exact Zj
     ·have hge:¬ n<0:=by
       rw[<- hn]
       unfold sgnR
       rw[if_neg hlt2]
       split<;>decide
      have HLN:=Zpz (HL.out.keep (n:=u) (Rat.not_lt.1 hlt2))
      clear hn hlt2
      iterate 1
       refine Zx _ rfl rfl (fun w' hS=>Ze) ?_
       simp only[Act.put,Zl]
      try rw[decide_eq_false hge]
      iterate 1
       refine Zx _ rfl rfl (fun w' hS=>Ze) ?_
       simp only[Act.put,Zl]
      refine ZF ?_
      go_wp2
      go_roundw
      case rel=>exact⟨u+1,_,by go_num,Za,HLN,HT9.out.2.2.2⟩
      case measure=>exact Zj
  ·obtain rfl:u=T:=Za
   have HA:=Zpz (HFA.out wr HR.out.2.2.2.2)
   obtain⟨HR1,HR2,HR3,HR4,HR5⟩:=HR.out
   have r0:=Zn HR4 0 (v:=.string Zpv) rfl
   have r1:=Zn HR4 1 (v:=.string Zpv) rfl
   have f0:=Zo HR4 0
   have f1:=Zo HR4 1
   have z0:=HA.out.at'.eff.z0
   have z1:=HA.out.at'.eff.z1
   have hGw:w.heap.size<=G+1+1:=Za
   cases r with
   | none=>
    have d0:=Zn HR1 0 (v:=.pointer none) rfl
    clear HR1 HR2 HR3 HR4 HR5
    go_wp2
    obtain⟨q5,q6⟩:=Zu HR.out.2.2.2.1 (.string ⟨#[48]⟩) (.string ⟨#[49]⟩)
    exact ZoM (v:=pV ⟨#[48]⟩ ⟨#[49]⟩) (by simp[results,Tryz.f122,go_sem,q5,q6]) rfl ⟨_,_,0,rfl,⟨none,by rw[HTT.out];exact HL.out,.inl ⟨rfl,rfl⟩⟩,Zaf,Zs HR.out.2.2.2.2 hGw _ _⟩
   | some c=>
    obtain⟨Bq,c1,c2,q5,q6,q7,q8,q9⟩:=HR1
    have d0:=Zn q5 0 (v:=.pointer (some ⟨Bq,0,none⟩)) rfl
    have HQ5:=Zpz q5
    have HQ7:=Zpz q7
    have HQ8:=Zpz (Zpq q8 q9)
    obtain⟨hw0,hw1',hw2',hbl⟩:=(HFA.out w (ZoL _ _)).at'.site i HI.out
    have hcl:=(HOK.out.site i HI.out).2.len
    obtain⟨pc',cc,hcv,hcc1,hcc2,_⟩:=id hbl
    rw[hcv] at hbl
    obtain⟨n,hn⟩:=ZpB ((eS t i).curve.length)
    obtain⟨cb,co,rfl,hcb,hat⟩:=hbl.at rfl Za
    rw[hn] at hcc1 hcv hat hcl
    have HCV:Hid (∀ V,Below w.heap.size w V->V.cell? ⟨sb,so+i*3,none⟩=some (.string (eS t i).weight.1)/\V.cell? ⟨sb,so+i*3+1,none⟩=some (.string (eS t i).weight.2)/\V.cell? ⟨sb,so+i*3+2,none⟩=some (.slice (some ⟨cb,co,none⟩) n cc)/\V.cell? ⟨b,0,none⟩=some (.slice (some ⟨sb,so,none⟩) N sc)):=fun V hV=>by
     have A':=HFA.out V hV
     obtain⟨a0,a1,a2,_⟩:=A'.at'.site i HI.out
     exact⟨a0,a1,by rw[<- hcv];exact a2,by rw[<- HNN.out];exact A'.w0⟩
    have HAT:Hid (∀ V,Below w.heap.size w V->∀ k,k<n->V.cell? ⟨cb,co+k*4,none⟩=some (.string (bAt (eS t i).curve k).1.1)/\V.cell? ⟨cb,co+k*4+1,none⟩=some (.string (bAt (eS t i).curve k).1.2)/\V.cell? ⟨cb,co+k*4+2,none⟩=some (.string (bAt (eS t i).curve k).2.1)/\V.cell? ⟨cb,co+k*4+3,none⟩=some (.string (bAt (eS t i).curve k).2.2)):=hat
    have HNL:=Zpz hn
    have hsc:N<=sc/\sc<=9223372036854775807:=by rw[<- HNN.out];exact k1
    have hcc:n<=cc/\cc<=9223372036854775807:=⟨hcc1,by unfold maxLen at hcc2;omega⟩
    have i0':(0:Int)<=(i:Int):=Za
    have i1':(i:Int)<(N:Int):=Za
    have hmf:∀ (fn:Fn) (first cap:Array Value) (w:World),(Instr.makeFunc fn first cap).run Tryz.prog w=.ok (.func fn first cap) w:=fun _ _ _ _=>rfl
    have hwr0:0<wr.heap.size:=Nat.lt_of_le_of_lt (ZoY _) (Zpu HR4)
    have HRD:Hid (∀ V,Below wr.heap.size wr V->V.heap[G]?=some (wkO b)/\V.heap[G+1]?=some (iO i)/\V.heap[G+1+1]?=some (pObj Zpv Zpv)/\V.heap[G+1+1+1]?=some (ptO (some ⟨Bq,0,none⟩))/\V.heap[Bq]?=some (pObj c1 c2)/\Below w.heap.size w V):=fun V hV=>
     ⟨(hV.block _ (Zpu HR.out.2.1)).trans HR.out.2.1,(hV.block _ (Zpu HR.out.2.2.1)).trans HR.out.2.2.1,(hV.block _ (Zpu HR.out.2.2.2.1)).trans HR.out.2.2.2.1,(hV.block _ (Zpu HQ5.out)).trans HQ5.out,(hV.block _ (Zpu HQ7.out)).trans HQ7.out,HR.out.2.2.2.2.trans (hV.mono HR.out.2.2.2.2.size)⟩
    clear HR2 HR3 HR4 HR5 q5 q7 q8 q9 hw0 hw1' hw2' hbl hat hcv hn hcc1 hcc2 z0 z1 r0 r1 f0 f1
    go_wp2_with fail
    clear d0
    refine ZfD 16 17 12 13 [(0,18),(0,19),(2,20)] [(1,0),(1,1),(1,2),(1,3),(1,4),(1,5),(1,6),(1,7),(1,8),(1,10),(0,9),(0,11),(1,12),(2,13),(2,14),(2,15)] (fun j g h V=>Laid2 wr (bO Zpv Zpv Zpv Zpv) (pObj Zpv Zpv) g h V/\(j≠0->V.heap[j]?=some (cuO (.slice (some ⟨cb,co,none⟩) n cc)))) (fun i=>i==13 || i==14 || i==15 || i==18 || i==19 || i==20)
     Zb Zb (fun j hj=>by have h:21<=j:=hj;simp;omega) Zi
     ⟨_,rfl,rfl,fun _=>rfl,fun a V K hK=>by go_simp;exact hK⟩ ⟨_,rfl,rfl,fun _=>rfl,fun a V K hK=>by go_simp;exact hK⟩
     (fun j h V L=>⟨L.1.lay1,fun hj=>(Zo1 _ _ _ (by have:=(Zpu (L.2 hj));omega)).trans (L.2 hj)⟩) (fun j g V L=>⟨L.1.lay2,fun hj=>(Zo1 _ _ _ (by have:=(Zpu (L.2 hj));omega)).trans (L.2 hj)⟩) ⟨Laid2.start _ _ _,fun h=>Zpp rfl h⟩ ?_
    iterate 10
     refine Zck _ rfl (fun z y=>rfl) (fun z y j g h w' hS=>by obtain⟨hg,hi',_,_,_,hB⟩:=HRD.out _ hS.1.base;obtain⟨_,_,e2,e3⟩:=HCV.out _ hB;have b0:=Zn hg 0 (v:=.pointer (some ⟨b,0,none⟩)) rfl;have b1:=Zn hi' 0 (v:=.int .i64 i) rfl;simp only[two,Act.put,Zm];exact Ze) ?_
     simp only[Act.put,Zl]
    refine Ze3 171 _ rfl (fun z y=>rfl) (fun z y w'=>by simp only[two,Act.put,Zm];exact Zf) (fun g h V hS=>?_)
    refine(ZkW _ _ _ V).mono ?_
    rintro e V' ⟨rfl,rfl⟩
    refine⟨_,V.heap.size,rfl,⟨hS.1.step ((ZoL _ V).alloc ZpA _),fun _=>ZoO V _⟩,?_⟩
    have hV0:V.heap.size≠0:=by have:=hS.1.base.size;omega
    clear hS
    generalize V.heap.size=Bv at hV0 ⊢
    clear V
    simp only[Act.put,Zl]
    refine Ze3 170 _ rfl (fun z y=>rfl) (fun z y w'=>by simp only[two,Act.put,Zm];exact Zf) (fun g h V hS=>?_)
    obtain⟨HB0,hBv⟩:=id hS
    have hbox:=hBv hV0
    have hcurve:=HOK.out.site i HI.out
    refine(Zia (e:=fun k=>bAt (eS t i).curve k) (g:=fun k=>posR (wR t i*hR (eS t i).curve k-c*cR (eS t i).curve k)) (N:=n) (Sx:=fun _=>True) (J:=fun _ _=>True)
     (enters_of Tryz.func206 Zb rfl) (enters_of Tryz.func172 Zb rfl)
     (fun _ _=>trivial) (fun _ _ _ _ _=>trivial) trivial (fun V' hV'=>?_) (fun V' hV'=>?_) (fun k hk V' hV' _=>?_)).mono ?_
    ·have hb:Below w.heap.size w V':=HR.out.2.2.2.2.trans ((HB0.base.trans ((hV'.below_of (fun _ _=>trivial) ZpA).mono HB0.base.size)).mono HR.out.2.2.2.2.size)
     exact(HFA.out _ hb).at'.eff
    ·refine ZjN (cb:=cb) (co:=co) (c:=cc) Za hcc fun V2 hV2=>?_
     have hk2:Keeps (fun _=>True) V V2:=hV'.via hV2 fun x hx _=>⟨hx,trivial⟩
     have hb:Below w.heap.size w V2:=HR.out.2.2.2.2.trans ((HB0.base.trans ((hk2.below_of (fun _ _=>trivial) ZpA).mono HB0.base.size)).mono HR.out.2.2.2.2.size)
     exact⟨Zn (hk2.at hbox trivial) 0 rfl,HAT.out _ hb⟩
    ·have hb0:Below wr.heap.size wr V':=HB0.base.trans ((hV'.below_of (fun _ _=>trivial) ZpA).mono HB0.base.size)
     have hk':k<(eS t i).curve.length:=by rw[HNL.out];exact hk
     have hsm:=hcurve.2.small k hk'
     obtain⟨s1,s2,s3⟩:=Zaj.1 hsm.1
     obtain⟨s4,s5,s6⟩:=Zaj.1 hsm.2
     obtain⟨wi,wz⟩:=Zdr HOK.out HI.out
     have ci:=Zav s3
     have hi2:=Zav s6
     refine(Zjh (b:=b) (Bw:=G) (Bi:=G+1) (Bc:=G+1+1+1) (Bq:=Bq) (i:=i) (sb:=sb) (so:=so) (N:=N) (sc:=sc) (bd:=bAt (eS t i).curve k) (fun V2 hV2=>?_) hiN hN24.2 hsc wi HQ8.out.1 hi2 ci wz HQ8.out.2 (hi2.sz s4 s5) (ci.sz s1 s2)).mono ?_
     ·obtain⟨h1,h2,h3,h4,h5,h6⟩:=HRD.out V2 (hb0.trans (hV2.mono hb0.size))
      obtain⟨h7,h8,h9,h10⟩:=HCV.out V2 h6
      have A':=HFA.out V2 h6
      exact⟨Zn h1 0 rfl,Zn h2 0 rfl,Zn h4 0 rfl,h10,h7,h8,Zn h5 0 rfl,Zn h5 1 rfl,A'.at'.tabs,A'.at'.eff⟩
     ·rintro e V2 ⟨x,y,he,hx,hb⟩
      exact⟨x,y,he,hx,hb.keepsS _,trivial⟩
    rintro e V2 ⟨r',mx,x,y,rfl,hBest,hx,hk2,_⟩
    have HBE:=Zpz hBest
    have HX:=Zpz hx
    have hb2:=(hk2.below_of (fun _ _=>trivial) ZpA)
    refine⟨_,Bv,rfl,⟨HB0.step hb2,fun h=>(hb2.block _ (Zpu (hBv h))).trans (hBv h)⟩,?_⟩
    obtain⟨m1,m2,m3,m4,hme⟩:∃ m1 m2 m3 m4,ZkN (fun k=>bAt (eS t i).curve k) r'=.agg #[.string m1,.string m2,.string m3,.string m4]:=by cases r'<;>exact⟨_,_,_,_,rfl⟩
    rw[hme]
    generalize r'.isSome=okb
    clear hS HB0 hBv hbox hk2 hb2 hBest hx hme hcurve
    simp only[Act.put,Zl]
    iterate 1
     refine Zck _ rfl (fun z y=>rfl) (fun z y j g h w' hS=>by skip;simp only[two,Act.put,Zm];exact Ze) ?_
     simp only[Act.put,Zl]
    iterate 3
     refine Zjv _ rfl (fun z y=>rfl) (fun z y w'=>by simp only[two,Act.put,Zm];exact Zf) ?_
     simp only[Act.put,Zl]
    refine ZgU fun ga gb V3 hS=>?_
    simp only[two]
    simp only[Act.put,Zl]
    obtain⟨hg1,hg2⟩:=hS.1.a _ rfl
    obtain⟨hh1,hh2⟩:=hS.1.b _ rfl
    have hne:=hS.1.ne _ _ rfl rfl
    have HLB:Zpt wr V3:=hS.1.base
    clear hS
    have c0:=Zn hg2 0 (v:=.string Zpv) rfl
    have c1':=Zn hg2 1 (v:=.string Zpv) rfl
    have c2':=Zn hg2 2 (v:=.string Zpv) rfl
    have c3':=Zn hg2 3 (v:=.string Zpv) rfl
    have f0:=Zo hg2 0
    have f1:=Zo hg2 1
    have f2:=Zo hg2 2
    have f3:=Zo hg2 3
    refine ZB rfl rfl fun K hK=>?_
    go_simp
    obtain⟨V4,hV4⟩:=ZpB ((((V3.setCell ⟨ga,0,none⟩ (.string m1)).setCell ⟨ga,1,none⟩ (.string m2)).setCell ⟨ga,2,none⟩ (.string m3)).setCell ⟨ga,3,none⟩ (.string m4))
    have hh3:V4.heap[gb]?=some (pObj Zpv Zpv):=by
     rw[<- hV4]
     have hx:gb≠ga:=fun e=>hne e.symm
     exact((((ZoN _ _ _ _ hx).trans (ZoN _ _ _ _ hx)).trans (ZoN _ _ _ _ hx)).trans (ZoN _ _ _ _ hx)).trans hh2
    have HLB1:Zpt wr V4:=by rw[<- hV4];exact(((HLB.out.setCell (p:=⟨ga,0,none⟩) hg1 _).setCell (p:=⟨ga,1,none⟩) hg1 _).setCell (p:=⟨ga,2,none⟩) hg1 _).setCell (p:=⟨ga,3,none⟩) hg1 _
    try rw[hV4]
    refine hK _ _ (.inl rfl) ?_
    clear hK K hV4 c0 c1' c2' c3' f0 f1 f2 f3 hg2 hh2 HLB
    have c0:=Zn hh3 0 (v:=.string Zpv) rfl
    have c1':=Zn hh3 1 (v:=.string Zpv) rfl
    have f0:=Zo hh3 0
    have f1:=Zo hh3 1
    refine ZB rfl rfl fun K hK=>?_
    go_simp
    obtain⟨V5,hV5⟩:=ZpB ((V4.setCell ⟨gb,0,none⟩ (.string x)).setCell ⟨gb,1,none⟩ (.string y))
    have hh4:V5.heap[gb]?=some (pObj x y):=by rw[<- hV5];exact Zan hh3 _ _
    have HLB2:Zpt wr V5:=by rw[<- hV5];exact Zs HLB1.out hh1 _ _
    try rw[hV5]
    refine hK _ _ (.inl rfl) ?_
    clear hK K hV5 c0 c1' f0 f1 hh3 HLB1
    refine Zc8 _ rfl rfl (fun w' _=>Zf) ?_
    simp only[Act.put,Zl]
    refine ZF ?_
    have a0:=Zn hh4 0 (v:=.string x) rfl
    have a1:=Zn hh4 1 (v:=.string y) rfl
    obtain⟨_,_,hr4,_,_,hB5⟩:=HRD.out _ HLB2.out
    have HR5:=Zpz hr4
    have HB5:=Zpz hB5
    have r0:=Zn hr4 0 (v:=.string Zpv) rfl
    have r1:=Zn hr4 1 (v:=.string Zpv) rfl
    have f0:=Zo hr4 0
    have f1:=Zo hr4 1
    clear hh4 hr4 hB5
    go_wp2
    obtain⟨q5,q6⟩:=Zu HR5.out (.string x) (.string y)
    refine ZoM (v:=pV x y) (by simp[results,Tryz.f122,go_sem,q5,q6]) rfl ⟨_,_,mx,rfl,⟨some c,by rw[HTT.out];exact HL.out,.inr ⟨c,rfl,r',by rw[HNL.out];exact HBE.out⟩⟩,HX.out,Zs HB5.out hGw _ _⟩
open Classical in
noncomputable def surF (t:TaskP) (qs:List PP) (i:Nat):Rat:=if h:∃ s,SurR t qs i s then Classical.choose h else 0
theorem Zhh {t:TaskP} {qs:List PP} {i:Nat} {s:Rat} (h:SurR t qs i s):surF t qs i=s:=by
 have hx:∃ s,SurR t qs i s:=⟨s,h⟩
 unfold surF
 rw[dif_pos hx]
 exact(Classical.choose_spec hx).det h
noncomputable def Z7 (t:TaskP) (qs:List PP) (k:Nat):Rat:=if k<t.hours.length then prR qs k*((eH t k:Int):Rat) else surF t qs (k-t.hours.length)
def Zod (t:TaskP) (qs:List PP) (w:World) (e:Ending) (w':World):Prop:=
 ∃ x y k,((k=0/\e=.returned (pV x y))\/(k≠0/\e=ZdO k))/\SumE (Z7 t qs) (t.hours.length+t.sites.length) x y k/\Below w.heap.size w w'
theorem ZkL {t:TaskP} {b m:Nat} {sv hv rv pv qv:Value} {qs:List PP} {w:World} (h:WorkW t b m sv hv rv pv w) (ok:TaskOk t) (hq:PL w qv qs) (hp:PricesOk t qs) :
  Calls Tryz.prog 65 #[.pointer (some ⟨b,0,none⟩),qv] w (Zod t qs w):=by
 have HSU:Hid (∀ V,Below w.heap.size w V->∀ i,i<t.sites.length->Calls Tryz.prog 122 #[.pointer (some ⟨b,0,none⟩),qv,.int .i64 i] V (fun e w'=>∃ x y s,e=.returned (pV x y)/\SurR t qs i s/\IsP s x y/\Below V.heap.size V w')):=fun V hV i hi=>
  ZjI (h.keep (hV.keepsS _)) ok (hq.after hV ZpA) hp hi
 obtain⟨sb,so,sc,hb,ho,hc,rb,ro,rk,cv,rq,rp,rc,k1,k2,k3,hA⟩:=h.open ok
 obtain⟨qb,qo,qc,rfl,q1,q2,q3,q4⟩:=Zem hq (by rw[hp.len];exact ok.teams.1)
 obtain⟨N,hN⟩:=ZpB t.sites.length
 obtain⟨T,hT⟩:=ZpB t.hours.length
 have hTq:=hp.len
 have hTr:=ok.rates
 have hT8:=ok.teams
 have hN24:=ok.sites
 rw[hT] at hTq hTr hT8
 rw[hN] at hN24 HSU
 rw[hTq] at q1 HSU ⊢
 have HFA:Hid (∀ V,Below w.heap.size w V->V.cell? ⟨b,0,none⟩=some (.slice (some ⟨sb,so,none⟩) N sc)/\V.cell? ⟨b,1,none⟩=some (.slice (some ⟨hb,ho,none⟩) T hc)/\(∀ u,u<T->V.cell? ⟨hb,ho+u,none⟩=some (.int .i64 (eH t u)))/\Tabs V/\EffZ V):=fun V hV=>by
  have A:=hA V (hV.keepsS _)
  exact⟨by rw[<- hN];exact A.w0,by rw[<- hT];exact A.w1,fun u hu=>A.at'.hour u (by rw[hT];exact hu),A.at'.tabs,A.at'.eff⟩
 have HQ:Hid (∀ V,Below w.heap.size w V->∀ u,u<T->V.cell? ⟨qb,qo+u*2,none⟩=some (.string (qs.getD u (Zpv,Zpv)).1)/\V.cell? ⟨qb,qo+u*2+1,none⟩=some (.string (qs.getD u (Zpv,Zpv)).2)):=fun V hV u hu=>by
  have hu':u<qs.length:=Za
  obtain⟨a1,a2⟩:=q4 u hu'
  rw[show qs.getD u (Zpv,Zpv)=qs[u] by simp[List.getD,hu']]
  exact⟨(hV.cell (p:=⟨qb,qo+u*2,none⟩) q3).trans a1,(hV.cell (p:=⟨qb,qo+u*2+1,none⟩) q3).trans a2⟩
 have HTM:Hid (∀ u,u<T->IsP (prR qs u) (qs.getD u (Zpv,Zpv)).1 (qs.getD u (Zpv,Zpv)).2/\(∃ x y,IsP ((eH t u:Int):Rat) x y)/\(∃ x y,IsP (prR qs u*((eH t u:Int):Rat)) x y)/\(0<=eH t u/\eH t u<=48)/\Z7 t qs u=prR qs u*((eH t u:Int):Rat)):=fun u hu=>by
  obtain⟨p1,p2⟩:=ZmE hp (u:=u) Za
  have h48:=(ok.team u (by rw[ok.rates,hT];exact hu)).1
  obtain⟨w1,w2,w3⟩:=Zd6 h48.1 h48.2
  exact⟨p1,w1,Zaa (Rat.mul_nonneg p1.nn w3) (Sz.mul p1.nn w3 p2 w2) Zd Zd,h48,by unfold Z7;rw[if_pos (by rw[hT];exact hu)]⟩
 have HSF:Hid (∀ i s,SurR t qs i s->Z7 t qs (T+i)=s):=fun i s hs=>by
  unfold Z7
  rw[hT,if_neg Za,show T+i-T=i by omega]
  exact Zhh hs
 have HN:=Zpz hN
 have HTT:=Zpz hT
 have hsc:N<=sc/\sc<=9223372036854775807:=by rw[<- hN];exact k1
 have hhc:T<=hc/\hc<=9223372036854775807:=by rw[<- hT];exact k2
 have HE0:Hid (Env w.heap.size w [(w.heap.size,pObj Zpv Zpv)] [] (w.alloc (pObj Zpv Zpv))):=(Env.start w).push _ rfl
 obtain⟨_,_,_,_,z⟩:=HFA.out _ HE0.out.base
 have z0:=z.z0
 have z1:=z.z1
 have HE1:Hid (Env w.heap.size w [(w.heap.size+1,pObj ⟨#[48]⟩ ⟨#[49]⟩),(w.heap.size,pObj Zpv Zpv)] [] ((w.alloc (pObj Zpv Zpv)).alloc (pObj ⟨#[48]⟩ ⟨#[49]⟩))):=HE0.out.push _ Zc
 clear h ok hq hp hA q4 hN hT hTq hTr z HE0 k1 k2 k3
 go_enter Tryz.func65,Tryz.ntmps65
 go_wp2_with fail
 clear z0 z1
 go_loopw [14] (fun v wr=>∃ (k:Nat) (x y:ByteArray),v=.int .i64 k/\k<=T/\Hid (IsP (sumF (Z7 t qs) k) x y)/\Hid (Zae (Z7 t qs) k)/\Hid (Env w.heap.size w [(w.heap.size+1,pObj x y),(w.heap.size,pObj Zpv Zpv)] [] wr)) (fun v _=>T-(intOf v).toNat)
 case atStart=>exact⟨0,_,_,rfl,ZoY _,Zaf,Zae.zero _,HE1⟩
 case round=>
  obtain⟨k,x,y,rfl,hk,HIA,HAF,HE⟩:=hrel
  clear HE1
  by_cases hlt:k<T
  ·obtain⟨hpi,⟨xh,yh,hxh⟩,⟨x8,y8,hx8⟩,h48,hfk⟩:=HTM.out k hlt
   obtain⟨e0,e1⟩:=HQ.out _ HE.out.base k hlt
   obtain⟨⟨p1,p2⟩,hpp⟩:∃ z,qs.getD k (Zpv,Zpv)=z:=⟨_,rfl⟩
   rw[hpp] at e0 e1 hpi
   dsimp only at e0 e1 hpi
   have HPI:=Zpz hpi
   have HXH:=Zpz hxh
   have HX8:=Zpz hx8
   have HFK:=Zpz hfk
   have H48:=Zpz h48
   have i0':(0:Int)<=(k:Int):=Za
   have i1':(k:Int)<(T:Int):=Za
   obtain⟨g,hg⟩:=ZpB wr.heap.size
   obtain⟨w2,hw2⟩:=ZpB (wr.alloc (pObj p1 p2))
   have HE2:Hid (Env w.heap.size w [(g,pObj p1 p2),(w.heap.size+1,pObj x y),(w.heap.size,pObj Zpv Zpv)] [] w2):=by rw[<- hw2];exact HE.out.push _ hg.symm
   obtain⟨a0,a1,a2,_⟩:=HFA.out _ HE2.out.base
   have a3:=a2 k hlt
   obtain⟨hh,hhh⟩:=ZpB (eH t k)
   have HHH:=Zpz hhh
   rw[hhh] at a3
   clear hpi hxh hx8 h48 hfk hpp HE a2 hhh
   go_wp2_with fail
   have hrt:=ZiN H48.out.1 H48.out.2 HXH.out w2 (HFA.out _ HE2.out.base).2.2.2.1
   rw[HHH.out] at hrt
   refine hrt.mono ?_
   rintro e w3 ⟨rfl,hb⟩
   have HE3:=Zpz (HE2.out.step hb)
   clear hb hrt a0 a1 a3 e0 e1 HE2 hw2
   try rw[hg]
   clear hg
   obtain⟨g2,hg2⟩:=ZpB w3.heap.size
   obtain⟨w4,hw4⟩:=ZpB (w3.alloc (pObj xh yh))
   have HE4:Hid (Env w.heap.size w [(g2,pObj xh yh),(g,pObj p1 p2),(w.heap.size+1,pObj x y),(w.heap.size,pObj Zpv Zpv)] [] w4):=by rw[<- hw4];exact HE3.out.push _ hg2.symm
   clear HE3
   go_wp2_with fail
   try rw[hg2]
   try rw[hw4]
   clear hg2 hw4
   refine ZP [(1,0),(1,1),(1,2),(0,3),(1,4),(1,5),(0,6),(0,7),(1,8),(1,9),(0,10),(0,11)] (Env w.heap.size w [(g2,pObj xh yh),(g,pObj p1 p2),(w.heap.size+1,pObj x y),(w.heap.size,pObj Zpv Zpv)] []) (fun i=>i==11)
    Zb Zb (fun j hj=>by have h:12<=j:=hj;simp;omega) Zi HE4.out.drew ?_
   obtain⟨w5,hw5⟩:=ZpB w4.drew
   have HE5:Hid (Env w.heap.size w [(g2,pObj xh yh),(g,pObj p1 p2),(w.heap.size+1,pObj x y),(w.heap.size,pObj Zpv Zpv)] [] w5):=by rw[<- hw5];exact HE4.out.drew
   rw[hw5]
   clear hw5 HE4
   iterate 3
    refine Zx _ rfl rfl (fun w' hS=>by have c0:=hS.cell 2 0 (v:=.string x) rfl rfl;have c1:=hS.cell 2 1 (v:=.string y) rfl rfl;have d0:=hS.cell 1 0 (v:=.string p1) rfl rfl;have d1:=hS.cell 1 1 (v:=.string p2) rfl rfl;have d2:=hS.cell 0 0 (v:=.string xh) rfl rfl;have d3:=hS.cell 0 1 (v:=.string yh) rfl rfl;exact Ze) ?_
    simp only[Act.put,Zl]
   refine Zz 119 _ rfl rfl Zf ?_
   have HEC:=HE5
   refine(ZdY HPI.out HXH.out HX8.out rfl _ (HFA.out _ HEC.out.base).2.2.2.1).mono ?_
   rintro e w6 ⟨rfl,hb⟩
   have HE6:=Zpz (HEC.out.step hb)
   refine .inl ⟨_,rfl,HE6.out,?_⟩
   clear hb HEC
   simp only[Act.put,Zl]
   iterate 2
    refine Zx _ rfl rfl (fun w' hS=>Ze) ?_
    simp only[Act.put,Zl]
   refine Zz 103 _ rfl rfl Zf ?_
   have HEC:=HE6
   refine(ZaH x8 y8 _).mono ?_
   rintro e w7 ⟨rfl,hb⟩
   have HE7:=Zpz (HEC.out.step hb)
   refine .inl ⟨_,rfl,HE7.out,?_⟩
   clear hb HEC
   simp only[Act.put,Zl]
   refine Zz 42 _ rfl rfl Zf ?_
   have HEC:=HE7
   refine(Zga HIA.out HX8.out _ (HFA.out _ HEC.out.base).2.2.2.1).mono ?_
   rintro e w9 ⟨x9,y9,n9,rfl,hA9,hb⟩
   have HE9:=Zpz (HEC.out.step hb)
   refine .inl ⟨_,rfl,HE9.out,?_⟩
   clear hb HEC
   simp only[Act.put,Zl]
   rw[<- HFK.out] at hA9
   have HA9:=Zpz hA9
   clear hA9 HE5 HE6 HE7
   iterate 2
    refine Zx _ rfl rfl (fun w' hS=>Ze) ?_
    simp only[Act.put,Zl]
   refine Zz 103 _ rfl rfl Zf ?_
   refine(ZdZ x9 y9 n9 _).mono ?_
   rintro e w10 ⟨hE,hb⟩
   have HE10:=Zpz (HE9.out.step hb)
   clear HE9 hb
   rcases hE with ⟨h0,rfl⟩ | ⟨h0,rfl⟩
   ·refine .inl ⟨_,rfl,HE10.out,?_⟩
    have HX9:Hid (IsP (sumF (Z7 t qs) (k+1)) x9 y9):=HA9.out.zero h0
    clear h0 HA9
    simp only[Act.put,Zl]
    have HE9:=Zpz (HE10.out.only [2,3] _ rfl Zd)
    have r0:=HE9.out.cell 0 0 rfl rfl
    have r1:=HE9.out.cell 0 1 rfl rfl
    have f0:=HE9.out.free 0 0 rfl
    have f1:=HE9.out.free 0 1 rfl
    refine ZB rfl rfl fun K hK=>?_
    go_simp
    have HE11:=Zpz (HE9.out.fill (.string x9) (.string y9))
    refine hK _ _ (.inl rfl) ?_
    clear hK K r0 r1 f0 f1 HE9 HE10
    refine ZF ?_
    go_wp2
    go_roundw
    case rel=>exact⟨k+1,x9,y9,by go_num,Za,HX9,HAF.out.step HX9.out.fits,HE11⟩
    case measure=>exact Zj
   ·refine .inr ⟨_,rfl,?_⟩
    rcases HA9.out with ⟨_,h1⟩ | ⟨h1,_,_,h2⟩
    ·exact Zpp h1 h0
    ·subst h2
     exact⟨rfl,Zpv,Zpv,4,.inr ⟨Zd,rfl⟩,.inr ⟨by rw[HTT.out,HN.out];exact Zae.not h1 Za,rfl,rfl,rfl⟩,HE10.out.base⟩
  ·obtain rfl:k=T:=Za
   obtain⟨a0,_⟩:=HFA.out _ HE.out.base
   go_wp2_with fail
   clear a0
   go_loopw [49] (fun v wr=>∃ (i:Nat) (x y:ByteArray),v=.int .i64 i/\i<=N/\Hid (IsP (sumF (Z7 t qs) (k+i)) x y)/\Hid (Zae (Z7 t qs) (k+i))/\Hid (Env w.heap.size w [(w.heap.size+1,pObj x y),(w.heap.size,pObj Zpv Zpv)] [] wr)) (fun v _=>N-(intOf v).toNat)
   case atStart=>exact⟨0,x,y,rfl,ZoY _,HIA,HAF,HE⟩
   case round=>
    clear HIA HAF HE
    obtain⟨i,x,y,rfl,hi,HIA,HAF,HE⟩:=hrel
    by_cases hlt2:i<N
    ·have i0':(0:Int)<=(i:Int):=Za
     have i1':(i:Int)<(N:Int):=Za
     go_wp2_with fail
     refine ZP [(1,0),(1,1),(1,2),(1,3),(0,4),(0,5),(1,6),(1,7),(0,8),(0,9)] (Env w.heap.size w [(w.heap.size+1,pObj x y),(w.heap.size,pObj Zpv Zpv)] []) (fun i=>i==9)
      Zb Zb (fun j hj=>by have h:10<=j:=hj;simp;omega) Zi HE.out.drew ?_
     obtain⟨w5,hw5⟩:=ZpB wr.drew
     have HE5:Hid (Env w.heap.size w [(w.heap.size+1,pObj x y),(w.heap.size,pObj Zpv Zpv)] [] w5):=by rw[<- hw5];exact HE.out.drew
     rw[hw5]
     clear hw5 HE
     iterate 4
      refine Zx _ rfl rfl (fun w' hS=>by have c0:=hS.cell 0 0 (v:=.string x) rfl rfl;have c1:=hS.cell 0 1 (v:=.string y) rfl rfl;exact Ze) ?_
      simp only[Act.put,Zl]
     refine Zz 122 _ rfl rfl Zf ?_
     refine(HSU.out _ HE5.out.base i hlt2).mono ?_
     rintro e w6 ⟨x8,y8,s,rfl,hs,hx8,hb⟩
     have HE6:=Zpz (HE5.out.step hb)
     have HX8:=Zpz hx8
     have HFK:=Zpz (HSF.out _ _ hs)
     refine .inl ⟨_,rfl,HE6.out,?_⟩
     clear hb hs hx8 HE5
     simp only[Act.put,Zl]
     refine Zz 42 _ rfl rfl Zf ?_
     have HEC:=HE6
     refine(Zga HIA.out HX8.out _ (HFA.out _ HEC.out.base).2.2.2.1).mono ?_
     rintro e w9 ⟨x9,y9,n9,rfl,hA9,hb⟩
     have HE9:=Zpz (HEC.out.step hb)
     refine .inl ⟨_,rfl,HE9.out,?_⟩
     clear hb HEC
     simp only[Act.put,Zl]
     rw[<- HFK.out] at hA9
     have HA9:=Zpz hA9
     clear hA9 HE6
     iterate 2
      refine Zx _ rfl rfl (fun w' hS=>Ze) ?_
      simp only[Act.put,Zl]
     refine Zz 103 _ rfl rfl Zf ?_
     refine(ZdZ x9 y9 n9 _).mono ?_
     rintro e w10 ⟨hE,hb⟩
     have HE10:=Zpz (HE9.out.step hb)
     clear HE9 hb
     rcases hE with ⟨h0,rfl⟩ | ⟨h0,rfl⟩
     ·refine .inl ⟨_,rfl,HE10.out,?_⟩
      have HX9:Hid (IsP (sumF (Z7 t qs) (k+i+1)) x9 y9):=HA9.out.zero h0
      clear h0 HA9
      simp only[Act.put,Zl]
      have r0:=HE10.out.cell 0 0 rfl rfl
      have r1:=HE10.out.cell 0 1 rfl rfl
      have f0:=HE10.out.free 0 0 rfl
      have f1:=HE10.out.free 0 1 rfl
      refine ZB rfl rfl fun K hK=>?_
      go_simp
      have HE11:=Zpz (HE10.out.fill (.string x9) (.string y9))
      refine hK _ _ (.inl rfl) ?_
      clear hK K r0 r1 f0 f1 HE10
      refine ZF ?_
      go_wp2
      go_roundw
      case rel=>exact⟨i+1,x9,y9,by go_num,Za,HX9,HAF.out.step HX9.out.fits,HE11⟩
      case measure=>exact Zj
     ·refine .inr ⟨_,rfl,?_⟩
      rcases HA9.out with ⟨_,h1⟩ | ⟨h1,_,_,h2⟩
      ·exact Zpp h1 h0
      ·subst h2
       exact⟨rfl,Zpv,Zpv,4,.inr ⟨Zd,rfl⟩,.inr ⟨by rw[HTT.out,HN.out];exact Zae.not h1 Za,rfl,rfl,rfl⟩,HE10.out.base⟩
    ·obtain rfl:i=N:=Za
     have c0:=HE.out.cell 0 0 (v:=.string x) rfl rfl
     have c1:=HE.out.cell 0 1 (v:=.string y) rfl rfl
     have HE1:=Zpz (HE.out.only [1,0] _ rfl Zd)
     have r0:=HE1.out.cell 0 0 rfl rfl
     have r1:=HE1.out.cell 0 1 rfl rfl
     have f0:=HE1.out.free 0 0 rfl
     have f1:=HE1.out.free 0 1 rfl
     go_wp2
     have HE9:=Zpz (HE1.out.fill (.string x) (.string y))
     have q0:=HE9.out.cell 0 0 (v:=.string x) rfl rfl
     have q1:=HE9.out.cell 0 1 (v:=.string y) rfl rfl
     exact ZoM (v:=Zpw x y) (by simp[results,Tryz.f65,go_sem,q0,q1]) rfl ⟨x,y,0,.inl ⟨rfl,rfl⟩,.inl ⟨by rw[HTT.out,HN.out];exact HAF.out,by rw[HTT.out,HN.out];exact HIA.out,rfl⟩,HE9.out.base⟩
abbrev paO (v:Value):Obj:=.cells #[v] 37
theorem ZkJ (s t:ByteArray) (hs:s.size<=1000000) (ht:t.size<=1000000) (w:World):Calls Tryz.prog 62 #[pV s t] w (Z5 w (!Zw 300 (s,t))):=by
 obtain⟨w1,hw1⟩:=ZpB (w.alloc (pObj s t))
 have hb1:Below w.heap.size w w1:=by rw[<- hw1];exact(ZoL _ w).alloc ZpA _
 have hn:w1.heap[w.heap.size]?=some (pObj s t):=by rw[<- hw1];exact ZoO w _
 obtain⟨G,hG⟩:=ZpB w.heap.size
 have HB1:=Zpz hb1
 rw[hG] at hn
 have c0:=Zn hn 0 (v:=.string s) rfl
 have c1:=Zn hn 1 (v:=.string t) rfl
 clear hb1 hn
 go_enter Tryz.func62,Tryz.ntmps62
 go_wp2_with fail
 refine(ZeN 300 s t hs ht _).mono ?_
 rintro e w2 ⟨rfl,hb⟩
 have HB2:Zpt w w2:=HB1.out.trans (hb.mono HB1.out.size)
 clear hb c0 c1
 go_wp2
 exact ZoM (by simp[results,Tryz.f62,go_sem]) rfl ⟨rfl,HB2.out⟩
theorem ZkP {t:TaskP} {qs:List PP} {Ge Gp Gr:Nat} {ps ph pr pp:Option Addr} {ns nh nr np cs ch cr cp:Nat} {W:World} (he:W.heap[Ge]?=some (efO (.slice ps ns cs) (.slice ph nh ch) (.slice pr nr cr))) (hp:W.heap[Gp]?=some (paO (.slice pp np cp))) (hr:W.heap[Gr]?=some (pObj Zpv Zpv))
  (hT:TaskIn t (.slice ps ns cs) (.slice ph nh ch) (.slice pr nr cr) W) (hq:PL W (.slice pp np cp) qs) (ok:TaskOk t) (okp:PricesOk t qs) :
  Calls Tryz.prog 64 #[.pointer (some ⟨Ge,0,none⟩),.pointer (some ⟨Gp,0,none⟩),.pointer (some ⟨Gr,0,none⟩)] W (ZgO (ResQ (SumE (Z7 t qs) (t.hours.length+t.sites.length)) Gr) (fun b=>b≠Gr) W):=by
 have HS0:Hid (∀ V,Below W.heap.size W V->V.heap[Ge]?=some (efO (.slice ps ns cs) (.slice ph nh ch) (.slice pr nr cr))/\V.heap[Gp]?=some (paO (.slice pp np cp))/\V.heap[Gr]?=some (pObj Zpv Zpv)/\TaskIn t (.slice ps ns cs) (.slice ph nh ch) (.slice pr nr cr) V/\PL V (.slice pp np cp) qs):=fun V hV=>
  ⟨(hV.block _ (Zpu he)).trans he,(hV.block _ (Zpu hp)).trans hp,(hV.block _ (Zpu hr)).trans hr,hT.below hV ZpA,hq.after hV ZpA⟩
 have HOK:=Zpz (Zpq ok okp)
 have hgr:=(Zpu hr)
 clear he hp hr hT hq ok okp
 go_enter Tryz.func64,Tryz.ntmps64
 go_wp2_with fail
 refine ZP [(1,0),(1,2),(0,1),(0,3),(0,4)] (fun V=>Below W.heap.size W V) (fun i=>i==4)
  Zb Zb (fun j hj=>by have h:5<=j:=hj;simp;omega) Zi (ZoL _ W).drew ?_
 have HB0:Hid (Below W.heap.size W W.drew):=(ZoL _ W).drew
 obtain⟨V,hV⟩:=ZpB W.drew
 rw[hV] at HB0 ⊢
 clear hV
 iterate 2
  refine Zx _ rfl rfl (fun w' hS=>by obtain⟨q1,q2,_⟩:=HS0.out _ hS;have e0:=Zn q1 0 (v:=.slice ps ns cs) rfl;have e1:=Zn q1 1 (v:=.slice ph nh ch) rfl;have e2:=Zn q1 2 (v:=.slice pr nr cr) rfl;have p0:=Zn q2 0 (v:=.slice pp np cp) rfl;exact Ze) ?_
  simp only[Act.put,Zl]
 refine Zz 48 _ rfl rfl Zf ?_
 refine(Zft (p:=[]) (N:=1) (HS0.out _ HB0.out).2.2.2.1 (⟨none,0,rfl,Nat.le_refl _,Zd,fun h=>Zpp rfl h⟩) Zd Zd (fun u h=>Zpp h (Zpb _))).mono ?_
 rintro e V1 ⟨b,m,sv,hv,rv,pv,gq,gc,rfl,hW,_,_,_,_,hb⟩
 have HB1:Zpt W V1:=HB0.out.trans (hb.mono HB0.out.size)
 have HW:=Zpz hW
 refine .inl ⟨_,rfl,HB1.out,?_⟩
 clear hb hW HB0
 simp only[Act.put,Zl]
 refine Zz 65 _ rfl rfl Zf ?_
 refine(ZkL HW.out HOK.out.1 (HS0.out _ HB1.out).2.2.2.2 HOK.out.2).mono ?_
 rintro e V2 ⟨x,y,n,hE,hS,hb⟩
 have HB2:Zpt W V2:=HB1.out.trans (hb.mono HB1.out.size)
 have HSE:=Zpz hS
 have HR:=Zpz (HS0.out _ HB2.out).2.2.1
 clear hb hS HB1 HW
 rcases hE with ⟨rfl,rfl⟩ | ⟨hn,rfl⟩
 ·refine .inl ⟨_,rfl,HB2.out,?_⟩
  simp only[Act.put,Zl]
  have r0:=Zn HR.out 0 (v:=.string Zpv) rfl
  have r1:=Zn HR.out 1 (v:=.string Zpv) rfl
  have f0:=Zo HR.out 0
  have f1:=Zo HR.out 1
  refine ZB rfl rfl fun K hK=>?_
  go_simp
  obtain⟨V3,hV3⟩:=ZpB ((V2.setCell ⟨Gr,0,none⟩ (.string x)).setCell ⟨Gr,1,none⟩ (.string y))
  have hR3:V3.heap[Gr]?=some (pObj x y):=by rw[<- hV3];exact Zan HR.out _ _
  have hK3:Keeps (fun b=>b≠Gr) W V3:=by rw[<- hV3];exact((HB2.out.keepsS (fun b=>b≠Gr)).setCell (p:=⟨Gr,0,none⟩) Zc _).setCell (p:=⟨Gr,1,none⟩) Zc _
  have HF3:=Zpz (Zpq hR3 hK3)
  rw[hV3]
  refine hK _ _ (.inl rfl) ?_
  clear hK K hV3 r0 r1 f0 f1 hR3 hK3
  refine ZF ?_
  go_wp2
  exact ZoM (results_none rfl _ _ _) rfl ⟨0,.inl ⟨rfl,rfl⟩,⟨x,y,HF3.out.1,HSE.out⟩,HF3.out.2⟩
 ·have hxy:x=Zpv/\y=Zpv:=by
   rcases HSE.out with ⟨_,_,h⟩ | ⟨_,h1,h2,_⟩
   ·exact Zpp h hn
   ·exact⟨h1,h2⟩
  obtain⟨rfl,rfl⟩:=hxy
  refine .inr ⟨_,rfl,?_⟩
  exact⟨rfl,n,.inr ⟨hn,rfl⟩,⟨_,_,HR.out,HSE.out⟩,HB2.out.keepsS _⟩
def Zfd (t:TaskP) (qs:List PP) (x y:ByteArray) (n:Int):Prop:=(¬ (TaskOk t/\PricesOk t qs)/\x=Zpv/\y=Zpv/\n=2)\/((TaskOk t/\PricesOk t qs)/\SumE (Z7 t qs) (t.hours.length+t.sites.length) x y n)
theorem ZkB {t:TaskP} {qs:List PP} {sv hv rv qv:Value} {w:World} (hT:TaskIn t sv hv rv w) (hz:LimT t) (hq:PL w qv qs) (hzq:LimP qs) :
  Calls Tryz.prog 21 #[.agg #[sv,hv,rv],qv] w (ZL (Zfd t qs) w):=by
 obtain⟨ps,cs,rfl,_⟩:=hT.sites.shape rfl
 obtain⟨ph,ch,rfl,_⟩:=hT.hours.shape rfl
 obtain⟨pr,cr,rfl,_⟩:=hT.rates.shape rfl
 obtain⟨ns,hns⟩:=ZpB t.sites.length
 obtain⟨nh,hnh⟩:=ZpB t.hours.length
 obtain⟨nr,hnr⟩:=ZpB t.rates.length
 obtain⟨np,hnp⟩:=ZpB qs.length
 obtain⟨pp,pc,rfl⟩:∃ p c,qv=.slice p np c:=by obtain⟨p,c,h,_⟩:=id hq;exact⟨_,_,by rw[<- hnp];exact h⟩
 rw[hns,hnh,hnr] at hT ⊢
 have HT:=Zpz hT
 have HQ:=Zpz hq
 have HZ:=Zpz hz
 have HZQ:=Zpz hzq
 have HNP:=Zpz hnp
 have HNH:=Zpz hnh
 have hmf:∀ (fn:Fn) (first cap:Array Value) (w:World),(Instr.makeFunc fn first cap).run Tryz.prog w=.ok (.func fn first cap) w:=fun _ _ _ _=>rfl
 have HE0:Hid (Env w.heap.size w [(w.heap.size+1+1,pObj Zpv Zpv),(w.heap.size+1,paO (.slice pp np pc)),(w.heap.size,efO (.slice ps ns cs) (.slice ph nh ch) (.slice pr nr cr))] []
  (((w.alloc (efO (.slice ps ns cs) (.slice ph nh ch) (.slice pr nr cr))).alloc (paO (.slice pp np pc))).alloc (pObj Zpv Zpv))):=(((Env.start w).push _ rfl).push _ Zc).push _ Zc
 have e0:=HE0.out.cell 2 0 (v:=.slice ps ns cs) rfl rfl
 have e1:=HE0.out.cell 2 1 (v:=.slice ph nh ch) rfl rfl
 have e2:=HE0.out.cell 2 2 (v:=.slice pr nr cr) rfl rfl
 have hfn:∀ k,Fence.wide.fn k:=fun _=>trivial
 clear hT hz hns hnh hnr hnp hq hzq
 go_enter Tryz.func21,Tryz.ntmps21
 go_wp2_with fail
 refine(ZeL (HT.out.below HE0.out.base ZpA) HZ.out).mono ?_
 rintro e w1 ⟨hE,hb⟩
 have HE1:=Zpz (HE0.out.step hb)
 clear hb HE0 e0 e1 e2
 have r0:=HE1.out.cell 0 0 (v:=.string Zpv) rfl rfl
 have r1:=HE1.out.cell 0 1 (v:=.string Zpv) rfl rfl
 have f0:=HE1.out.free 0 0 rfl
 have f1:=HE1.out.free 0 1 rfl
 have p0:=HE1.out.cell 1 0 (v:=.slice pp np pc) rfl rfl
 have h0:=HE1.out.cell 2 1 (v:=.slice ph nh ch) rfl rfl
 rcases hE with ⟨hok,rfl⟩ | ⟨hok,rfl⟩
 rotate_left
 ·have HA:Hid (Zfd t qs Zpv Zpv 2):=.inl ⟨fun h=>hok h.1,rfl,rfl,rfl⟩
  clear hok
  go_wp2
  have HE9:=Zpz (HE1.out.fill (.string Zpv) (.string Zpv))
  have q0:=HE9.out.cell 0 0 (v:=.string Zpv) rfl rfl
  have q1:=HE9.out.cell 0 1 (v:=.string Zpv) rfl rfl
  exact ZoM (v:=.tuple #[Zpw Zpv Zpv,.int .i64 2]) (by simp[results,Tryz.f21,go_sem,q0,q1]) rfl ⟨Zpv,Zpv,2,rfl,HA.out,HE9.out.base⟩
 ·have HOK:=Zpz hok
  clear hok
  by_cases hlen:np=nh
  ·subst hlen
   have HCO:Hid (Calls Tryz.prog 61 #[.slice pp np pc,.func (.func 62) #[] #[]] w1 (Zes w1 np (fun j=>!Zw 300 (qs.getD j (Zpv,Zpv))))):=by
    refine Zdo (enters_of Tryz.func62 Zb rfl) (HQ.out.after HE1.out.base ZpA) HNP.out fun j hj W hW=>?_
    obtain⟨z1,z2⟩:=HZQ.out _ (Zpc hj)
    have e:qs.getD j (Zpv,Zpv)=qs[j]:=by simp[List.getD,hj]
    rw[e]
    exact ZkJ _ _ z1 z2 W
   go_wp2_with fail
   refine HCO.out.mono ?_
   rintro e w2 ⟨bb,rfl,hbb,hb⟩
   have HE2:=Zpz (HE1.out.step hb)
   clear hb r0 r1 f0 f1 p0 h0 HCO
   have r0:=HE2.out.cell 0 0 (v:=.string Zpv) rfl rfl
   have r1:=HE2.out.cell 0 1 (v:=.string Zpv) rfl rfl
   have f0:=HE2.out.free 0 0 rfl
   have f1:=HE2.out.free 0 1 rfl
   rcases hbb with ⟨rfl,j,hj,hbad⟩ | ⟨rfl,hgood⟩
   ·have HA:Hid (Zfd t qs Zpv Zpv 2):=.inl ⟨fun h=>(by
     have h1:=h.2.small j (by rw[HNP.out];exact hj)
     have h2:(!Zw 300 (qs.getD j (Zpv,Zpv)))=true:=hbad
     rw[h1] at h2
     cases h2),rfl,rfl,rfl⟩
    clear hj hbad
    go_wp2
    have HE9:=Zpz (HE2.out.fill (.string Zpv) (.string Zpv))
    have q0:=HE9.out.cell 0 0 (v:=.string Zpv) rfl rfl
    have q1:=HE9.out.cell 0 1 (v:=.string Zpv) rfl rfl
    exact ZoM (v:=.tuple #[Zpw Zpv Zpv,.int .i64 2]) (by simp[results,Tryz.f21,go_sem,q0,q1]) rfl ⟨Zpv,Zpv,2,rfl,HA.out,HE9.out.base⟩
   ·have HPO:Hid (PricesOk t qs):=⟨by rw[HNP.out,HNH.out],fun u hu=>by
     have:=hgood u (by rw[<- HNP.out];exact hu)
     simpa using this⟩
    obtain⟨G,hG⟩:=ZpB w.heap.size
    have HGG:=Zpz hG
    have hGE:=HE2.out
    rw[hG] at hGE
    have hs1:G+3<=w2.heap.size:=by
     have:=hGE.lt 0 rfl
     omega
    have HTR:Hid (Calls Tryz.prog 50 #[.func (.func 64) #[] #[.pointer (some ⟨G,0,none⟩),.pointer (some ⟨G+1,0,none⟩),.pointer (some ⟨G+1+1,0,none⟩)]] w2 (Zej (ResQ (SumE (Z7 t qs) (t.hours.length+t.sites.length)) (G+1+1)) (fun b=>b≠G+1+1) w2)):=by
     have hal:Below w2.heap.size w2 (w2.alloc (erO 0)):=(ZoL _ w2).alloc ZpA _
     have hE2:=hGE.step hal
     refine ZeI (enters_of Tryz.func64 Zb rfl) (fun b hb=>by show b≠G+1+1;omega) (fun n W W'=>ResQ.stay Za n W W') ?_
     have hbw:Below w.heap.size w (w2.alloc (erO 0)):=HE2.out.base.trans (hal.mono HE2.out.own)
     exact ZkP (hE2.block 2 rfl) (hE2.block 1 rfl) (hE2.block 0 rfl) (HT.out.below hbw ZpA) (HQ.out.after hbw ZpA) HOK.out HPO.out
    rw[hG] at r0 r1 f0 f1 ⊢
    clear hgood hGE r0 r1 f0 f1 hG
    go_wp2_with fail
    refine HTR.out.mono ?_
    rintro e w3 ⟨n,rfl,⟨x,y,hxy,hS⟩,hk⟩
    have HA:Hid (Zfd t qs x y n):=.inr ⟨⟨HOK.out,HPO.out⟩,hS⟩
    have HXY:=Zpz hxy
    have HB2:Zpt w w3:=HE2.out.base.trans (hk.below_of (fun b hb=>by have:=HGG.out;show b≠G+1+1;omega) HE2.out.own)
    clear hS hk HTR
    have r0:=Zn HXY.out 0 (v:=.string x) rfl
    have r1:=Zn HXY.out 1 (v:=.string y) rfl
    have f0:=Zo HXY.out 0
    have f1:=Zo HXY.out 1
    clear hxy
    go_wp2
    obtain⟨q0,q1⟩:=Zu HXY.out (.string x) (.string y)
    exact ZoM (v:=.tuple #[Zpw x y,.int .i64 n]) (by simp[results,Tryz.f21,go_sem,q0,q1]) rfl ⟨x,y,n,rfl,HA.out,Zs HB2.out (by have:=HGG.out;omega) (.string x) (.string y)⟩
  ·have hli:¬ (np:Int)=(nh:Int):=Za
   have HA:Hid (Zfd t qs Zpv Zpv 2):=.inl ⟨fun h=>hlen (by rw[<- HNP.out,<- HNH.out];exact h.2.len),rfl,rfl,rfl⟩
   go_wp2
   all_goals try (refine⟨(fun _ h=>by cases h),?_⟩)
   all_goals try go_wp2
   have HE9:=Zpz (HE1.out.fill (.string Zpv) (.string Zpv))
   have q0:=HE9.out.cell 0 0 (v:=.string Zpv) rfl rfl
   have q1:=HE9.out.cell 0 1 (v:=.string Zpv) rfl rfl
   exact ZoM (v:=.tuple #[Zpw Zpv Zpv,.int .i64 2]) (by simp[results,Tryz.f21,go_sem,q0,q1]) rfl ⟨Zpv,Zpv,2,rfl,HA.out,HE9.out.base⟩
theorem ZlR:(Tryz.prog.info? 138).map (fun i=>(i.zero,i.size,i.bytes))=some (some (.agg #[.string Zpv,.string Zpv,.string Zpv,.string Zpv]),4,64):=Zb
def Zbn:List BB->List Value
 | []=>[]
 | b::l=>.string b.1.1::.string b.1.2::.string b.2.1::.string b.2.2::Zbn l
theorem Zh3 (a b:List BB):Zbn (a++b)=Zbn a++Zbn b:=by
 induction a with
 | nil=>rfl
 | cons s a ih=>simp[Zbn,ih]
theorem Zhz:∀ (l:List BB) (j:Nat),j<l.length->(Zbn l)[j*4]?=some (.string (bAt l j).1.1)/\(Zbn l)[j*4+1]?=some (.string (bAt l j).1.2)/\(Zbn l)[j*4+2]?=some (.string (bAt l j).2.1)/\
  (Zbn l)[j*4+3]?=some (.string (bAt l j).2.2)
 | s::l,0,_=>⟨rfl,rfl,rfl,rfl⟩
 | s::l,j+1,h=>by
  have ih:=Zhz l j (by simpa using h)
  have e:bAt (s::l) (j+1)=bAt l j:=by simp[bAt]
  rw[e]
  have e0:(j+1)*4=j*4+1+1+1+1:=Za
  simp only[Zbn,e0]
  exact ih
def OwnB (w:World) (base:Nat) (v:Value) (l:List BB):Prop:=w.ownsRow base 138 4 v l.length (Zbn l)
theorem OwnB.nil (w:World) (base:Nat):OwnB w base (.slice none 0 0) []:=World.ownsRow_nil w base _ 4
theorem OwnB.bl {w:World} {base:Nat} {v:Value} {l:List BB} (h:OwnB w base v l):BL w v l:=by
 have h0:=h
 rcases h.2 with ⟨rfl,h1⟩ | ⟨g,cap,cur,rfl,hb,hg,hle,hcap,hr⟩
 ·obtain rfl:l=[]:=ZoX h1
  exact BL.nil w
 ·refine⟨_,cap,rfl,hle,hcap,fun _=>⟨g,0,rfl,(Zpu hg),fun j hj=>?_⟩⟩
  have h2:=Zhz l j hj
  rw[ZdC hj] at h2
  have e1:=World.ownsRow.cellAt h0 (j*4) Za
  have e2:=World.ownsRow.cellAt h0 (j*4+1) Za
  have e3:=World.ownsRow.cellAt h0 (j*4+2) Za
  have e4:=World.ownsRow.cellAt h0 (j*4+3) Za
  rw[Nat.zero_add,e1,e2,e3,e4]
  exact h2
theorem OwnB.after {w w':World} {base:Nat} {v:Value} {l:List BB} (h:OwnB w base v l) (hb:Below w.heap.size w w'):OwnB w' base v l:=by
 obtain⟨h1,h2⟩:=h
 refine⟨h1,?_⟩
 rcases h2 with h2 | ⟨g,cap,cur,rfl,hbb,hg,hr⟩
 ·exact .inl h2
 ·exact .inr ⟨g,cap,cur,rfl,hbb,by rw[hb.block g (Zpu hg)];exact hg,hr⟩
theorem Zhv (k:Nat) (hk:k<=9223372036854775807) (w:World) (hT:Tabs w):Calls Tryz.prog 157 #[.int .i64 (k:Nat)] w (Z1 (.string (str (Lib.decDigits k))) w):=by
 refine(Tryz.strconv_Itoa (k:Nat) Za Za w hT).mono ?_
 rintro e w' ⟨rfl,n,os,rfl⟩
 refine⟨?_,Lib.below_grow _ _ ZpA _ _⟩
 rw[Lib.itoa_nonneg]
 rfl
def Znj (n:Int) (w:World) (e:Ending) (w':World):Prop:=
 ((¬ (1<=n/\n<=40)/\e=.returned (.tuple #[.slice none 0 0,.int .i64 2]))\/((1<=n/\n<=40)/\∃ v,e=.returned (.tuple #[v,.int .i64 0])/\OwnB w' w.heap.size v (Zal n.toNat)))/\Below w.heap.size w w'
theorem Zi3 {k:Nat} (hk:k<=40):IntKind.i64.wrap (2 ^ k:Int)=((2 ^ k:Nat):Int):=by
 have h:2 ^ k<=2 ^ 40:=ZoW Zd hk
 have e:(2:Int) ^ k=((2 ^ k:Nat):Int):=by rw[Int.natCast_pow];rfl
 rw[e]
 obtain⟨m,hm⟩:=ZpB (2 ^ k)
 rw[hm] at h ⊢
 exact Zpm _ Za
theorem ZmF {k:Nat} (hk:k<=40):IntKind.i64.wrap ((2 ^ k:Int)-1)=((2 ^ k-1:Nat):Int):=by
 have h:2 ^ k<=2 ^ 40:=ZoW Zd hk
 have h0:0<2 ^ k:=Nat.two_pow_pos k
 have e:(2:Int) ^ k=((2 ^ k:Nat):Int):=by rw[Int.natCast_pow];rfl
 rw[e]
 obtain⟨m,hm⟩:=ZpB (2 ^ k)
 rw[hm] at h h0 ⊢
 rw[Zpm _ Za]
 omega
theorem Zkl {k:Nat} (hk:k<=40):2 ^ k<=9223372036854775807:=ZoU (ZoW Zd hk) Zd
theorem OwnB.snoc {w:World} {base:Nat} {v:Value} {l:List BB} {s t x y:ByteArray} (h:w.ownsRow base 138 4 v (l.length+1) (Zbn l++[.string s,.string t,.string x,.string y])):OwnB w base v (l++[((s,t),(x,y))]):=by
 unfold OwnB
 rw[Zo2,Zh3]
 exact h
theorem ZjZ (n:Int) (w:World) (hD:DetV w) (hT:Tabs w):Calls Tryz.prog 106 #[.int .i64 n] w (Znj n w):=by
 have HD:=Zpz hD
 have HT:=Zpz hT
 clear hD hT
 by_cases hn:1<=n/\n<=40
 ·obtain⟨n,rfl⟩:∃ m:Nat,n=m:=⟨n.toNat,Za⟩
  have hn1:1<=n/\n<=40:=Za
  have HNN:Hid ((1:Int)<=(n:Int)/\(n:Int)<=40):=hn
  have hb:(decide ((1:Int)<=(n:Int)) && decide ((n:Int)<=40))=true:=by simp;omega
  have HBT:=Zpz hb
  clear hn hb
  obtain⟨i0,hi,hz0,hz1,hz2⟩:=info_parts ZlR
  go_enter Tryz.func106,Tryz.ntmps106
  go_wp2_with fail
  refine(ZbJ _ 1 40 _).mono ?_
  rintro e w2 ⟨rfl,hb⟩
  rw[HBT.out]
  have HB2:=Zpz hb
  have z0:=(HD.out.below hb ZpA).z0
  have z1:=(HD.out.below hb ZpA).z1
  clear hb
  go_wp2
  obtain⟨g,hg⟩:=ZpB w2.heap.size
  obtain⟨w3,hw3⟩:=ZpB (w2.alloc (bO ⟨#[48]⟩ ⟨#[49]⟩ ⟨#[48]⟩ ⟨#[49]⟩))
  have HB3:Zpt w w3:=by rw[<- hw3];exact HB2.out.alloc HB2.out.size _
  have HO3:Hid (OwnB w3 w.heap.size (.slice (some ⟨g,0,none⟩) 1 1) (Zal 0)):=by
   rw[<- hw3,<- hg]
   have h:=World.ownsRow_lit w2 (base:=w.heap.size) #[.string ⟨#[48]⟩,.string ⟨#[49]⟩,.string ⟨#[48]⟩,.string ⟨#[49]⟩] 1 HB2.out.size (by simp[maxLen]) (e:=138) (size:=4) rfl
   have e:Zal 0=[Zcf]:=by
    unfold Zal
    rw[<- ZkO]
    rfl
   rw[e]
   exact h
  rw[hg,hw3]
  clear hw3 hg z0 z1 HB2
  go_loopw [4,5] (fun vo i wr=>∃ (k:Nat),i=.int .i64 ((k+1:Nat):Int)/\k<=n/\Hid (OwnB wr w.heap.size vo (Zal k))/\Zpt w wr) (fun _ i _=>n+1-(intOf i).toNat)
  case atStart=>exact⟨0,rfl,ZoY _,HO3,HB3⟩
  case round=>
   obtain⟨k,rfl,hk,HO,HB⟩:=hrel
   by_cases hlt:k<n
   ·have h1:((k+1:Nat):Int)<=(n:Int):=Za
    have hk40:k+1<=40:=Za
    go_wp2_with fail
    refine ZY [(true,0),(true,1),(true,2),(true,4),(true,5),(false,3),(false,6),(false,7),(false,8)] (fun _=>True) (fun _=>false)
     Zb Zb Zb (fun _ _=>rfl) Zi trivial ?_
    refine Zr _ rfl rfl (fun w' hS=>Zf) ?_
    simp only[Act.put,Zl]
    refine Zr (.int .i64 ((2 ^ (k+1):Nat):Int)) rfl rfl (fun w' hS=>by go_simp;exact(Zi3 hk40).trans (by rw[Int.natCast_pow];rfl)) ?_
    simp only[Act.put,Zl]
    refine Zr (.int .i64 ((2 ^ (k+1)-1:Nat):Int)) rfl rfl (fun w' hS=>by go_simp;exact ZmF hk40) ?_
    simp only[Act.put,Zl]
    refine Zr _ rfl rfl (fun w' hS=>Zf) ?_
    simp only[Act.put,Zl]
    refine Zr (.int .i64 ((2 ^ (k+1):Nat):Int)) rfl rfl (fun w' hS=>by go_simp;exact(Zi3 hk40).trans (by rw[Int.natCast_pow];rfl)) ?_
    simp only[Act.put,Zl]
    have I1:=Zpz (fun W=>Zhv (2 ^ (k+1)-1) (ZoU (Nat.sub_le _ _) (Zkl hk40)) W)
    have I2:=Zpz (fun W=>Zhv (2 ^ (k+1)) (Zkl hk40) W)
    have I3:=Zpz (fun W=>Zhv (k+1) Za W)
    obtain⟨x,hx⟩:=ZpB (str (Lib.decDigits (2 ^ (k+1)-1)))
    obtain⟨y,hy⟩:=ZpB (str (Lib.decDigits (2 ^ (k+1))))
    obtain⟨s,hs⟩:=ZpB (str (Lib.decDigits (k+1)))
    have HXY:Hid (Zic (k+1)=((s,⟨#[49]⟩),(x,y))):=by rw[<- hx,<- hy,<- hs];exact rfl
    obtain⟨n1,hn1'⟩:=ZpB (2 ^ (k+1)-1)
    obtain⟨n2,hn2'⟩:=ZpB (2 ^ (k+1))
    rw[hx,hn1'] at I1
    rw[hy,hn2'] at I2
    rw[hs] at I3
    rw[hn1',hn2']
    clear hx hy hs hn1' hn2'
    refine Zt rfl rfl fun K hK=>?_
    go_simp
    go_at_call 157
    refine(I1.out _ (HT.out.below HB.out.drew ZpA)).mono ?_
    rintro e w4 ⟨rfl,hb⟩
    have HB4:Zpt w w4:=HB.out.drew.trans (hb.mono HB.out.size)
    have HO4:Hid (OwnB w4 w.heap.size u4 (Zal k)):=HO.out.after (((ZoL _ wr).drew).trans hb)
    refine hK _ _ (.inr trivial) ?_
    clear hK K hb
    refine Zt rfl rfl fun K hK=>?_
    go_simp
    go_at_call 157
    refine(I2.out _ (HT.out.below HB4.out ZpA)).mono ?_
    rintro e w5 ⟨rfl,hb⟩
    have HB5:Zpt w w5:=HB4.out.trans (hb.mono HB4.out.size)
    have HO5:Hid (OwnB w5 w.heap.size u4 (Zal k)):=HO4.out.after hb
    refine hK _ _ (.inr trivial) ?_
    clear hK K hb HB4 HO4
    refine Zt rfl rfl fun K hK=>?_
    go_simp
    refine hK _ _ (.inr trivial) ?_
    clear hK K
    refine Zt rfl rfl fun K hK=>?_
    go_simp
    refine hK _ _ (.inr trivial) ?_
    clear hK K
    refine ZI ?_
    obtain⟨po,no,co,rfl⟩:∃ p n c,u4=.slice p n c:=by
     rcases HO.out.2 with ⟨h,_⟩ | ⟨g,cap,cur,h,_⟩
     ·exact⟨_,_,_,h⟩
     ·exact⟨_,_,_,h⟩
    go_wp2_with fail
    refine(I3.out _ (HT.out.below HB5.out ZpA)).mono ?_
    rintro e w6 ⟨rfl,hb⟩
    have HB6:Zpt w w6:=HB5.out.trans (hb.mono HB5.out.size)
    have HO6:Hid (OwnB w6 w.heap.size (.slice po no co) (Zal k)):=HO5.out.after hb
    clear hb HB5 HO5
    have hlen:(Zal k).length=k+1:=Zb6 k
    have hownA:(w6.alloc (bO s ⟨#[49]⟩ x y)).ownsRow w.heap.size 138 4 (.slice po no co) (Zal k).length (Zbn (Zal k)):=HO6.out.alloc _
    have hm1:(Zal k).length+1<=maxLen:=by rw[hlen];unfold maxLen;omega
    have hm2:((Zal k).length+1)*64<=140737488355328:=by rw[hlen];omega
    have hm3:w.heap.size<=(w6.alloc (bO s ⟨#[49]⟩ x y)).heap.size:=by have:=HB6.out.size;simp;omega
    have hnews:∀ (j:Nat) (z:Value),([.string s,.string ⟨#[49]⟩,.string x,.string y]:List Value)[j]?=some z->(w6.alloc (bO s ⟨#[49]⟩ x y)).cell? ((⟨w6.heap.size,0,none⟩:Addr).add j)=some z:=World.news_of_block (ZoO w6 _)
    go_wp2_with (at_builtin;go_loud (refine Zpg _ rfl (.tmp 27) (.tmp 35) 72 rfl w.heap.size 138 i0 (.agg #[.string Zpv,.string Zpv,.string Zpv,.string Zpv]) 4 64 Tryz.underlying72 hi hz0 hz1 hz2 rfl Zd _ (Zal k).length (Zbn (Zal k)) rfl hownA ⟨w6.heap.size,0,none⟩ 1 1 [.string s,.string ⟨#[49]⟩,.string x,.string y] rfl rfl hnews (by simp[Value.oneCell']) hm1 hm2 hm3 ?_);intro v' w7 hown7 hgrow7 _)
    have HB7:Zpt w w7:=(HB6.out.alloc HB6.out.size _).grown hgrow7 hm3 (fun z hz=>(ZoZ hownA z hz).1)
    have HO7:Hid (OwnB w7 w.heap.size v' (Zal (k+1))):=by
     rw[ZkR,HXY.out]
     exact OwnB.snoc hown7
    clear hown7 hgrow7 hownA hnews hm1 hm2 hm3 hlen
    go_roundw
    case rel=>exact⟨k+1,by go_num,Za,HO7,HB7⟩
    case measure=>exact Zj
   ·obtain rfl:k=n:=Za
    have h1:¬ ((k+1:Nat):Int)<=(k:Int):=Za
    go_wp2
    exact ZoM (v:=.tuple #[u4,.int .i64 0]) (by simp[results,Tryz.f106,go_sem]) rfl ⟨.inr ⟨HNN.out,u4,rfl,by rw[Int.toNat_natCast];exact HO.out⟩,HB.out⟩
 ·have HNN:=Zpz hn
  have hb:(decide ((1:Int)<=n) && decide (n<=40))=false:=by rw[Bool.and_eq_false_iff,decide_eq_false_iff_not,decide_eq_false_iff_not];omega
  have HBT:=Zpz hb
  clear hn hb
  go_enter Tryz.func106,Tryz.ntmps106
  go_wp2_with fail
  refine(ZbJ _ 1 40 _).mono ?_
  rintro e w2 ⟨rfl,hb⟩
  rw[HBT.out]
  have HB2:=Zpz hb
  clear hb
  go_wp2
  exact ZoM (v:=.tuple #[.slice none 0 0,.int .i64 2]) (by simp[results,Tryz.f106,go_sem]) rfl ⟨.inl ⟨HNN.out,rfl⟩,HB2.out⟩
structure Sg where
 sn:Int
 ob:Int
 li:Int
 se:Int
 wi:Int
end Go.Proofs.YtmpaflidennnoaaGreatDoor
