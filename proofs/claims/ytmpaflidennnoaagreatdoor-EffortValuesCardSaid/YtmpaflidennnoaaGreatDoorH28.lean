/- The parts ESur. -/
import Derived.Test.YtmpaflidennnoaaGreatDoorH26
import Derived.Test.YtmpaflidennnoaaGreatDoorH27
set_option maxRecDepth 100000
set_option maxHeartbeats 8000000
set_option linter.unusedVariables false
set_option linter.unusedSimpArgs false
namespace Go.Proofs.YtmpaflidennnoaaGreatDoor
open Go.RowKit Go.Shelf
attribute [local go_sem ↓] Go.wp_at_zero Go.wp_at_succ
theorem ZjI {P:Program} {ops:Array Oper} {Q:Exit->Act->World->Prop} {S:Nat->Option Nat->Option Nat->World->Prop} {bar:Nat->Bool} {i d e j:Nat} {tl:List (Nat×Nat)} {o:Oper} {ks:List (Nat×Nat)} {a:Act} (v:Value) (ho:ops[i]?=some o) (hw:∀ z y,Region.wanted o (yielded ops (two d e a z y).tmps)=true) (hv:∀ z y w,(execOp (two d e a z y).eval o).run P w=.ok (.value v) w)
  (h:ZaD P ops Q S bar d e tl ks j (a.put o.dst v)):ZaD P ops Q S bar d e tl ((2,i)::ks) j a:=⟨o,v,ho,fun z y=>.inl ⟨hw z y,fun w _=>hv z y w⟩,h⟩
structure PricesOk (t:TaskP) (qs:List PP):Prop where
 len:qs.length=t.hours.length
 small:∀ u,u<qs.length->Zw 300 (qs.getD u (Zpa,Zpa))=true
def prR (qs:List PP) (u:Nat):Rat:=ratP (qs.getD u (Zpa,Zpa)).1 (qs.getD u (Zpa,Zpa)).2
theorem Zls {t:TaskP} {qs:List PP} (h:PricesOk t qs) {u:Nat} (hu:u<qs.length):IsP (prR qs u) (qs.getD u (Zpa,Zpa)).1 (qs.getD u (Zpa,Zpa)).2/\Sz 300 (prR qs u):=by
 obtain⟨h1,h2,h3⟩:=Zai.1 (h.small u hu)
 have:=Zav h3
 exact⟨this,this.sz h1 h2⟩
def SurR (t:TaskP) (qs:List PP) (i:Nat) (s:Rat):Prop:=
 ∃ r,LeastQ (fun u=>prR qs u/rR t u i) (fun u=>rR t u i≠0) t.hours.length r/\((r=none/\s=0)\/∃ c,r=some c/\∃ b,Best (fun k=>posR (wR t i*hR (eS t i).curve k-c*cR (eS t i).curve k)) (eS t i).curve.length b s)
theorem SurR.det {t:TaskP} {qs:List PP} {i:Nat} {s s':Rat} (h:SurR t qs i s) (g:SurR t qs i s'):s=s':=by
 obtain⟨r,h1,h2⟩:=h
 obtain⟨r',g1,g2⟩:=g
 obtain rfl:=h1.det g1
 rcases h2 with ⟨rfl,rfl⟩ | ⟨c,rfl,b,hb⟩
 ·rcases g2 with ⟨_,rfl⟩ | ⟨c,hc,_⟩
  ·rfl
  ·cases hc
 ·rcases g2 with ⟨hc,_⟩ | ⟨c',hc,b',hb'⟩
  ·cases hc
  ·obtain rfl:=Zou hc
   exact(hb.det hb').2
abbrev iO (i:Int):Obj:=.cells #[.int .i64 i] 3
abbrev ptO (p:Option Addr):Obj:=.cells #[.pointer p] 167
def Zas (P:Nat) (r:Option Rat) (V:World):Prop:=
 match r with
 | none=>V.heap[P]?=some (ptO none)
 | some c=>∃ B c1 c2,V.heap[P]?=some (ptO (some ⟨B,0,none⟩))/\P<B/\V.heap[B]?=some (pObj c1 c2)/\IsP c c1 c2/\Sz 309 c
theorem Zas.step {P:Nat} {r:Option Rat} {V V':World} (h:Zas P r V) (hb:Below V.heap.size V V'):Zas P r V':=by
 cases r with
 | none=>exact(hb.block _ (Zo9 h)).trans h
 | some c=>
  obtain⟨B,c1,c2,h1,h2,h3,h4,h5⟩:=h
  exact⟨B,c1,c2,(hb.block _ (Zo9 h1)).trans h1,h2,(hb.block _ (Zo9 h3)).trans h3,h4,h5⟩
set_option exponentiation.threshold 600 in
theorem ZjG {t:TaskP} {b m:Nat} {sv hv rv pv qv:Value} {qs:List PP} {i:Nat} {w:World} (h:WorkW t b m sv hv rv pv w) (ok:TaskOk t) (hq:PL w qv qs) (hp:PricesOk t qs) (hi:i<t.sites.length) :
  Calls Tryz.prog 122 #[.pointer (some ⟨b,0,none⟩),qv,.int .i64 i] w (fun e w'=>∃ x y s,e=.returned (pV x y)/\SurR t qs i s/\IsP s x y/\Below w.heap.size w w'):=by
 obtain⟨sb,so,sc,hb,ho,hc,rb,ro,rk,cv,rq,rp,rc,k1,k2,k3,hA⟩:=h.open ok
 obtain⟨qb,qo,qc,rfl,q1,q2,q3,q4⟩:=Zeb hq (by rw[hp.len];exact ok.teams.1)
 obtain⟨N,hN⟩:=Zpg t.sites.length
 obtain⟨T,hT⟩:=Zpg t.hours.length
 have hTq:=hp.len
 have hTr:=ok.rates
 have hT8:=ok.teams
 have hN24:=ok.sites
 rw[hT] at hTq hTr hT8
 rw[hN] at hN24
 rw[hTq] at q1 ⊢
 have HFA:Hid (∀ V,Below w.heap.size w V->WorkA t b m sb so sc hb ho hc rb ro rk pv cv rq rp rc V):=fun V hV=>hA V (hV.keepsS _)
 have HQ:Hid (∀ V,Below w.heap.size w V->∀ u,u<T->V.cell? ⟨qb,qo+u*2,none⟩=some (.string (qs.getD u (Zpa,Zpa)).1)/\V.cell? ⟨qb,qo+u*2+1,none⟩=some (.string (qs.getD u (Zpa,Zpa)).2)):=fun V hV u hu=>by
  have hu':u<qs.length:=Za
  obtain⟨a1,a2⟩:=q4 u hu'
  rw[show qs.getD u (Zpa,Zpa)=qs[u] by simp[List.getD,hu']]
  exact⟨(hV.cell (p:=⟨qb,qo+u*2,none⟩) q3).trans a1,(hV.cell (p:=⟨qb,qo+u*2+1,none⟩) q3).trans a2⟩
 have HOK:=Zpe ok
 have HP:=Zpe hp
 have HTT:=Zpe hT
 have HNN:=Zpe hN
 have HTQ:=Zpe hTq
 have HTR:=Zpe hTr
 have HI:=Zpe hi
 have hiN:i<N:=Za
 obtain⟨G,hG⟩:=Zpg w.heap.size
 obtain⟨w1,hw1⟩:=Zpg ((((w.alloc (wkO b)).alloc (iO i)).alloc (pObj Zpa Zpa)).alloc (ptO none))
 have hb1:Below w.heap.size w w1:=by rw[<- hw1];exact((((Zoq _ w).alloc Zpf _).alloc Zc _).alloc (by simp<;>omega) _).alloc (by simp<;>omega) _
 have HX:Zv G [wkO b,iO i,pObj Zpa Zpa,ptO none] w1:=by rw[<- hw1,<- hG];exact Zv.four w _ _ _ _
 have g0:=HX.block 0 (b:=G) rfl rfl
 have g1:=HX.block 1 (b:=G+1) rfl rfl
 have g2:=HX.block 2 (b:=G+1+1) rfl rfl
 have g3:=HX.block 3 (b:=G+1+1+1) rfl rfl
 have HGG:=Zpe hG
 have HI1:Hid (Zas (G+1+1+1) none w1/\w1.heap[G]?=some (wkO b)/\w1.heap[G+1]?=some (iO i)/\w1.heap[G+1+1]?=some (pObj Zpa Zpa)/\Below w.heap.size w w1):=⟨g3,g0,g1,g2,hb1⟩
 clear h ok hq hp hA hb1 HX g0 g1 g2 g3 q4 hT hN hTq hTr hi
 go_enter Tryz.func122,Tryz.ntmps122
 go_wp2_with fail
 clear hw1
 go_loopw [17] (fun iv wr=>∃ (u:Nat) (r:Option Rat),iv=.int .i64 u/\u<=T/\Hid (LeastQ (fun u=>prR qs u/rR t u i) (fun u=>rR t u i≠0) u r)/\Hid (Zas (G+1+1+1) r wr/\wr.heap[G]?=some (wkO b)/\wr.heap[G+1]?=some (iO i)/\wr.heap[G+1+1]?=some (pObj Zpa Zpa)/\Below w.heap.size w wr)) (fun iv _=>T-(intOf iv).toNat)
 case atStart=>exact⟨0,none,rfl,ZoD _,LeastQ.zero _ _,HI1⟩
 case round=>
  clear HI1
  obtain⟨u,r,rfl,hu,HL,HR⟩:=hrel
  by_cases hlt:u<T
  ·obtain⟨e0,e1⟩:=HQ.out wr HR.out.2.2.2.2 u hlt
   have i0':(0:Int)<=(u:Int):=Za
   have i1':(u:Int)<(T:Int):=Za
   obtain⟨hpi,hpz⟩:=Zls HP.out (u:=u) (by rw[HTQ.out];exact hlt)
   obtain⟨⟨p1,p2⟩,hpp⟩:∃ z,qs.getD u (Zpa,Zpa)=z:=⟨_,rfl⟩
   rw[hpp] at e0 e1 hpi
   dsimp only at e0 e1 hpi
   have HPI:=Zpe (Zo5 hpi hpz)
   obtain⟨A,hA⟩:=Zpg wr.heap.size
   obtain⟨V1,hV1⟩:=Zpg (wr.alloc (pObj p1 p2))
   have hbV:Below wr.heap.size wr V1:=by rw[<- hV1];exact(Zoq _ wr).alloc Zpf _
   have hA1:V1.heap[A]?=some (pObj p1 p2):=by rw[<- hV1,<- hA];exact Zot wr _
   have HS1:Hid (V1.heap[A]?=some (pObj p1 p2)/\Zas (G+1+1+1) r V1/\V1.heap[G]?=some (wkO b)/\V1.heap[G+1]?=some (iO i)/\V1.heap[G+1+1]?=some (pObj Zpa Zpa)/\Below w.heap.size w V1):=by
    obtain⟨r1,r2,r3,r4,r5⟩:=HR.out
    exact⟨hA1,r1.step hbV,(hbV.block _ (Zo9 r2)).trans r2,(hbV.block _ (Zo9 r3)).trans r3,(hbV.block _ (Zo9 r4)).trans r4,r5.trans (hbV.mono r5.size)⟩
   have hGA:G+3<A:=by
    rw[<- hA]
    cases r with
    | none=>exact(Zo9 HR.out.1)
    | some c=>
     obtain⟨_,_,_,h1,_⟩:=HR.out.1
     exact(Zo9 h1)
   have HAA:=Zpe hA
   have hut:u<t.rates.length:=by rw[HTR.out];exact hlt
   obtain⟨_,hrc1,hrc2,_⟩:=(HFA.out w (Zoq _ _)).at'.rate u hut
   have HSR:Hid (∀ V,Below w.heap.size w V->V.cell? ⟨b,2,none⟩=some (.slice (some ⟨rb,ro,none⟩) T rk)/\V.cell? ⟨rb,ro+u,none⟩=some (.slice (some ⟨rq u,rp u,none⟩) N (rc u))/\V.cell? ⟨rq u,rp u+i*2,none⟩=some (.string (eR t u i).1)/\V.cell? ⟨rq u,rp u+i*2+1,none⟩=some (.string (eR t u i).2)/\Tabs V/\EffZ V):=fun V hV=>by
    have A':=HFA.out V hV
    obtain⟨b0,_,_,b1⟩:=A'.at'.rate u hut
    rw[HNN.out] at b0
    obtain⟨b2,b3⟩:=b1 i HI.out
    exact⟨by rw[<- HTR.out];exact A'.w2,b0,b2,b3,A'.at'.tabs,A'.at'.eff⟩
   rw[HNN.out] at hrc1
   have hrk:T<=rk/\rk<=9223372036854775807:=by rw[<- HTR.out];exact k3
   have hrz:=ZhJ HOK.out hut HI.out
   obtain⟨hri,hrs⟩:=Zd6 HOK.out hut HI.out
   obtain⟨q',hq'⟩:=Zpg (rq u)
   obtain⟨o',ho'⟩:=Zpg (rp u)
   obtain⟨c',hc'⟩:=Zpg (rc u)
   obtain⟨⟨r1,r2⟩,hrr⟩:∃ z,eR t u i=z:=⟨_,rfl⟩
   rw[hq',ho',hc',hrr] at HSR
   rw[hc'] at hrc1 hrc2
   rw[hrr] at hrz hri
   dsimp only at HSR hrz hri
   have HRI:=Zpe (Zo5 hri hrs)
   have HRZ:=Zpe hrz
   have j0':(0:Int)<=(i:Int):=Za
   have j1':(i:Int)<(N:Int):=Za
   clear hpi hpz hpp hbV hA1 HR hA hri hrs hrz hq' ho' hc' hrr hut
   go_wp2_with fail
   try rw[hV1]
   refine ZP [(1,0),(1,1),(1,2),(1,3),(1,4),(1,5),(1,6),(1,7),(1,8),(1,9),(1,10),(0,11),(0,12)] (fun V=>V.heap[A]?=some (pObj p1 p2)/\Zas (G+1+1+1) r V/\V.heap[G]?=some (wkO b)/\V.heap[G+1]?=some (iO i)/\V.heap[G+1+1]?=some (pObj Zpa Zpa)/\Below w.heap.size w V) (fun i=>i==12)
    Zb Zb (fun j hj=>by have h:13<=j:=hj;simp;omega) Zi ⟨HS1.out.1,HS1.out.2.1.step (Zoq _ V1).drew,HS1.out.2.2.1,HS1.out.2.2.2.1,HS1.out.2.2.2.2.1,HS1.out.2.2.2.2.2.drew⟩ ?_
   have HS2:Hid (V1.drew.heap[A]?=some (pObj p1 p2)/\Zas (G+1+1+1) r V1.drew/\V1.drew.heap[G]?=some (wkO b)/\V1.drew.heap[G+1]?=some (iO i)/\V1.drew.heap[G+1+1]?=some (pObj Zpa Zpa)/\Below w.heap.size w V1.drew):=⟨HS1.out.1,HS1.out.2.1.step (Zoq _ V1).drew,HS1.out.2.2.1,HS1.out.2.2.2.1,HS1.out.2.2.2.2.1,HS1.out.2.2.2.2.2.drew⟩
   obtain⟨V,hV⟩:=Zpg V1.drew
   rw[hV] at HS2 ⊢
   clear hV HS1 hV1 e0 e1
   iterate 11
    refine Zx _ rfl rfl (fun w' hS=>by obtain⟨_,_,hg,hi',_,hB⟩:=hS;obtain⟨a0,a1,a2,a3,_⟩:=HSR.out _ hB;have b0:=Zn hg 0 (v:=.pointer (some ⟨b,0,none⟩)) rfl;have b1:=Zn hi' 0 (v:=.int .i64 i) rfl;exact Ze) ?_
    simp only[Act.put,Zl]
   refine ZB rfl rfl fun K hK=>?_
   go_simp
   obtain⟨B,hB⟩:=Zpg V.heap.size
   obtain⟨V2,hV2⟩:=Zpg (V.alloc (pObj Zpa Zpa))
   have hb2:Below V.heap.size V V2:=by rw[<- hV2];exact(Zoq _ V).alloc Zpf _
   have hB2:V2.heap[B]?=some (pObj Zpa Zpa):=by rw[<- hV2,<- hB];exact Zot V _
   have step:∀ {V V':World},(V.heap[A]?=some (pObj p1 p2)/\Zas (G+1+1+1) r V/\V.heap[G]?=some (wkO b)/\V.heap[G+1]?=some (iO i)/\V.heap[G+1+1]?=some (pObj Zpa Zpa)/\Below w.heap.size w V)->Below V.heap.size V V'->
     (V'.heap[A]?=some (pObj p1 p2)/\Zas (G+1+1+1) r V'/\V'.heap[G]?=some (wkO b)/\V'.heap[G+1]?=some (iO i)/\V'.heap[G+1+1]?=some (pObj Zpa Zpa)/\Below w.heap.size w V'):=fun {V V'} h hb=>by
    obtain⟨r0,r1,r2,r3,r4,r5⟩:=h
    exact⟨(hb.block _ (Zo9 r0)).trans r0,r1.step hb,(hb.block _ (Zo9 r2)).trans r2,(hb.block _ (Zo9 r3)).trans r3,(hb.block _ (Zo9 r4)).trans r4,r5.trans (hb.mono r5.size)⟩
   have STEP:Hid (∀ (V V':World),(V.heap[A]?=some (pObj p1 p2)/\Zas (G+1+1+1) r V/\V.heap[G]?=some (wkO b)/\V.heap[G+1]?=some (iO i)/\V.heap[G+1+1]?=some (pObj Zpa Zpa)/\Below w.heap.size w V)->Below V.heap.size V V'->
     (V'.heap[A]?=some (pObj p1 p2)/\Zas (G+1+1+1) r V'/\V'.heap[G]?=some (wkO b)/\V'.heap[G+1]?=some (iO i)/\V'.heap[G+1+1]?=some (pObj Zpa Zpa)/\Below w.heap.size w V')):=fun V V' h hb=>step h hb
   have HS3:=Zpe (STEP.out _ _ HS2.out hb2)
   have HSZ:=Zpe hB
   have hAB:A<B:=by rw[<- hB];exact(Zo9 HS2.out.1)
   try rw[hB]
   try rw[hV2]
   refine hK _ _ (.inr HS3.out) ?_
   clear hK K hV2 step
   have HB2':=Zpe hb2
   clear hb2
   have d0:=Zn hB2 0 (v:=.string Zpa) rfl
   have d1:=Zn hB2 1 (v:=.string Zpa) rfl
   have f0:=Zo hB2 0
   have f1:=Zo hB2 1
   refine ZB rfl rfl fun K hK=>?_
   go_simp
   obtain⟨V3,hV3⟩:=Zpg ((V2.setCell ⟨B,0,none⟩ (.string r1)).setCell ⟨B,1,none⟩ (.string r2))
   have hB3:V3.heap[B]?=some (pObj r1 r2):=by rw[<- hV3];exact Zah hB2 _ _
   have HS4:=Zpe (STEP.out V V3 HS2.out (by rw[<- hV3];exact Zs HB2'.out Za _ _))
   rw[hV3]
   refine hK _ _ (.inl rfl) ?_
   clear hK K hV3 d0 d1 f0 f1 hB2 HS3 hB HS2 HB2'
   have HB3:=Zpe hB3
   refine ZD ?_
   try rw[HAA.out]
   have HF4:=Zpe (HSR.out _ HS4.out.2.2.2.2.2)
   have b0:=Zn HB3.out 0 (v:=.string r1) rfl
   have b1:=Zn HB3.out 1 (v:=.string r2) rfl
   have z0:=HF4.out.2.2.2.2.2.z0
   have z1:=HF4.out.2.2.2.2.2.z1
   clear hB3
   rcases HRZ.out with ⟨hz1,hz2⟩ | ⟨hz1,hz2⟩
   ·have e1:r1=⟨#[48]⟩:=congrArg Prod.fst hz1
    have e2:r2=⟨#[49]⟩:=congrArg Prod.snd hz1
    subst e1
    subst e2
    have HLN:=Zpe (HL.out.skip (n:=u) (fun h=>h hz2))
    clear hz1 hz2
    go_wp2
    go_roundw
    case rel=>exact⟨u+1,r,by go_num,Za,HLN,HS4.out.2⟩
    case measure=>exact Zj
   ·have hzt:=ZhD hz1
    have hpos:0<rR t u i:=by
     have:=HRI.out.1.nn
     grind
    obtain⟨xs,ys,hxs⟩:=Zaa (Go.Proofs.YtmpaflidennnoaaGreatDoor.Zeo HPI.out.1.nn HRI.out.1.nn) (Sz.div HPI.out.1.nn hpos HPI.out.2 HRI.out.2) Zd Zd
    have HXS:=Zpe hxs
    have HXZ:Hid (Sz 309 (prR qs u/rR t u i)):=Sz.div HPI.out.1.nn hpos HPI.out.2 HRI.out.2
    have HPOS:=Zpe (Zo5 hpos hz2)
    have a0:=Zn HS4.out.1 0 (v:=.string p1) rfl
    have a1:=Zn HS4.out.1 1 (v:=.string p2) rfl
    clear hz1 hz2 hpos hxs
    go_wp2_with fail
    refine(ZiT HPI.out.1 HRI.out.1 HXS.out HPOS.out.1 rfl _ HF4.out.2.2.2.2.1).mono ?_
    rintro e V4 ⟨rfl,hb4⟩
    have HS5:=Zpe (STEP.out _ _ HS4.out hb4)
    clear hb4 HS4 HF4 a0 a1 b0 b1 z0 z1 hzt HB3
    go_wp2_with fail
    refine(ZaE xs ys _).mono ?_
    rintro e V5 ⟨rfl,hb5⟩
    have HS6:=Zpe (STEP.out _ _ HS5.out hb5)
    clear hb5 HS5
    obtain⟨C,hC⟩:=Zpg V5.heap.size
    obtain⟨V6,hV6⟩:=Zpg (V5.alloc (pObj xs ys))
    have hb6:Below V5.heap.size V5 V6:=by rw[<- hV6];exact(Zoq _ V5).alloc Zpf _
    have hC6:V6.heap[C]?=some (pObj xs ys):=by rw[<- hV6,<- hC];exact Zot V5 _
    have HS7:=Zpe (STEP.out _ _ HS6.out hb6)
    have HC6:=Zpe hC6
    have hAC:A<C:=by rw[<- hC];exact(Zo9 HS6.out.1)
    clear hb6 hC6 HS6
    go_wp2_with fail
    try rw[hV6]
    try rw[hC]
    clear hV6 hC
    cases r with
    | none=>
     refine ZP [(1,0),(1,1),(1,2),(1,3),(1,4),(1,5),(1,6),(0,7),(1,8),(1,9)] (fun V=>V.heap[C]?=some (pObj xs ys)/\V.heap[A]?=some (pObj p1 p2)/\Zas (G+1+1+1) none V/\V.heap[G]?=some (wkO b)/\V.heap[G+1]?=some (iO i)/\V.heap[G+1+1]?=some (pObj Zpa Zpa)/\Below w.heap.size w V) (fun i=>false)
      Zb Zb (fun j hj=>rfl) Zi ⟨HC6.out,STEP.out _ _ HS7.out (Zoq _ V6).drew⟩ ?_
     have HT7:Hid (V6.drew.heap[C]?=some (pObj xs ys)/\V6.drew.heap[A]?=some (pObj p1 p2)/\Zas (G+1+1+1) none V6.drew/\V6.drew.heap[G]?=some (wkO b)/\V6.drew.heap[G+1]?=some (iO i)/\V6.drew.heap[G+1+1]?=some (pObj Zpa Zpa)/\Below w.heap.size w V6.drew):=⟨HC6.out,STEP.out _ _ HS7.out (Zoq _ V6).drew⟩
     obtain⟨V7,hV7⟩:=Zpg V6.drew
     rw[hV7] at HT7 ⊢
     clear hV7 HS7 HC6
     iterate 3
      refine Zx _ rfl rfl (fun w' hS=>by have d0:=Zn hS.2.2.1 0 (v:=.pointer none) rfl;exact Ze) ?_
      simp only[Act.put,Zl]
     iterate 4
      refine Zci rfl rfl ?_
      simp only[Act.put,Zl]
     refine Zie rfl rfl (.inr HT7.out) ?_
     simp only[Act.put,Zl]
     refine Zci rfl rfl ?_
     simp only[Act.put,Zl]
     iterate 1
      refine Zx _ rfl rfl (fun w' hS=>Ze) ?_
      simp only[Act.put,Zl]
     refine ZD ?_
     have HLN:=Zpe (HL.out.take (n:=u) HPOS.out.2 (fun c hc=>by cases hc))
     have HT:=HT7
     have hcell:V7.heap[G+1+1+1]?=some (ptO none):=HT7.out.2.2.1
     have c3:=Zn hcell 0 (v:=.pointer (none)) rfl
     have f3:=Zo hcell 0
     have HCC:=Zpe hcell
     clear hcell
     go_wp2
     obtain⟨V8,hV8⟩:=Zpg (V7.setCell ⟨G+1+1+1,0,none⟩ (.pointer (some ⟨C,0,none⟩)))
     have o8:∀ x,x≠G+1+1+1->V8.heap[x]?=V7.heap[x]?:=fun x hx=>by rw[<- hV8];exact Zos _ _ _ _ hx
     have HN8:Hid (Zas (G+1+1+1) (some (prR qs u/rR t u i)) V8/\V8.heap[G]?=some (wkO b)/\V8.heap[G+1]?=some (iO i)/\V8.heap[G+1+1]?=some (pObj Zpa Zpa)/\Below w.heap.size w V8):=by
      obtain⟨t1,_,_,t2,t3,t4,t5⟩:=HT.out
      refine⟨⟨C,xs,ys,by rw[<- hV8];exact Zov HCC.out _,Za,(o8 _ Za).trans t1,HXS.out,HXZ.out⟩,(o8 _ Za).trans t2,(o8 _ Za).trans t3,(o8 _ Za).trans t4,?_⟩
      rw[<- hV8]
      exact t5.setCell (p:=⟨G+1+1+1,0,none⟩) (by have:=HGG.out;show w.heap.size<=G+1+1+1;omega) _
     try rw[hV8]
     clear o8 c3 f3 hV8
     go_roundw
     case rel=>exact⟨u+1,_,by go_num,Za,HLN,HN8⟩
     case measure=>exact Zj
    | some c=>
     obtain⟨Bq,c1,c2,q5,q6,q7,q8,q9⟩:=HS7.out.2.1
     have HQ6:=Zpe (Zo5 q5 q7)
     have HQI:=Zpe q8
     have HQZ:=Zpe q9
     clear q5 q7 q8 q9
     refine ZP [(1,0),(1,1),(1,2),(1,3),(1,4),(1,5),(1,6),(0,7),(1,8),(1,9)] (fun V=>(V.heap[G+1+1+1]?=some (ptO (some ⟨Bq,0,none⟩))/\V.heap[Bq]?=some (pObj c1 c2))/\V.heap[C]?=some (pObj xs ys)/\V.heap[A]?=some (pObj p1 p2)/\Zas (G+1+1+1) (some c) V/\V.heap[G]?=some (wkO b)/\V.heap[G+1]?=some (iO i)/\V.heap[G+1+1]?=some (pObj Zpa Zpa)/\Below w.heap.size w V) (fun i=>false)
      Zb Zb (fun j hj=>rfl) Zi ⟨HQ6.out,HC6.out,STEP.out _ _ HS7.out (Zoq _ V6).drew⟩ ?_
     have HT7:Hid ((V6.drew.heap[G+1+1+1]?=some (ptO (some ⟨Bq,0,none⟩))/\V6.drew.heap[Bq]?=some (pObj c1 c2))/\V6.drew.heap[C]?=some (pObj xs ys)/\V6.drew.heap[A]?=some (pObj p1 p2)/\Zas (G+1+1+1) (some c) V6.drew/\V6.drew.heap[G]?=some (wkO b)/\V6.drew.heap[G+1]?=some (iO i)/\V6.drew.heap[G+1+1]?=some (pObj Zpa Zpa)/\Below w.heap.size w V6.drew):=⟨HQ6.out,HC6.out,STEP.out _ _ HS7.out (Zoq _ V6).drew⟩
     obtain⟨V7,hV7⟩:=Zpg V6.drew
     rw[hV7] at HT7 ⊢
     clear hV7 HS7 HC6
     iterate 7
      refine Zx _ rfl rfl (fun w' hS=>by obtain⟨⟨hp',hq'⟩,hc',_⟩:=hS;have d0:=Zn hp' 0 (v:=.pointer (some ⟨Bq,0,none⟩)) rfl;have d1:=Zn hq' 0 (v:=.string c1) rfl;have d2:=Zn hq' 1 (v:=.string c2) rfl;have d3:=Zn hc' 0 (v:=.string xs) rfl;have d4:=Zn hc' 1 (v:=.string ys) rfl;exact Ze) ?_
      simp only[Act.put,Zl]
     obtain⟨n,hn⟩:=Zpg (sgnR (prR qs u/rR t u i) c)
     refine Zy 22 _ rfl rfl Zf ?_
     refine(ZbH HXS.out HQI.out hn _).mono ?_
     rintro e V9 ⟨rfl,hb⟩
     have HT9:Hid ((V9.heap[G+1+1+1]?=some (ptO (some ⟨Bq,0,none⟩))/\V9.heap[Bq]?=some (pObj c1 c2))/\V9.heap[C]?=some (pObj xs ys)/\V9.heap[A]?=some (pObj p1 p2)/\Zas (G+1+1+1) (some c) V9/\V9.heap[G]?=some (wkO b)/\V9.heap[G+1]?=some (iO i)/\V9.heap[G+1+1]?=some (pObj Zpa Zpa)/\Below w.heap.size w V9):=by
      obtain⟨⟨t1,t2⟩,t3,t4⟩:=HT7.out
      exact⟨⟨(hb.block _ (Zo9 t1)).trans t1,(hb.block _ (Zo9 t2)).trans t2⟩,(hb.block _ (Zo9 t3)).trans t3,STEP.out _ _ t4 hb⟩
     refine .inl ⟨_,rfl,HT9.out,?_⟩
     clear hb HT7
     simp only[Act.put,Zl]
     by_cases hlt2:prR qs u/rR t u i<c
     ·have hge:n<0:=by
       rw[<- hn]
       unfold sgnR
       rw[if_pos hlt2]
       decide
      have HLN:=Zpe (HL.out.take (n:=u) HPOS.out.2 (fun d hd=>by obtain rfl:=Zou hd;exact hlt2))
      clear hn hlt2
      iterate 1
       refine Zx _ rfl rfl (fun w' hS=>Ze) ?_
       simp only[Act.put,Zl]
      try rw[decide_eq_true hge]
      iterate 1
       refine Zx _ rfl rfl (fun w' hS=>Ze) ?_
       simp only[Act.put,Zl]
      refine ZD ?_
      obtain⟨V7,hV7⟩:=Zpg V9
      rw[hV7] at HT9 ⊢
      clear hV7 V9
      have HT:=Zpe HT9.out.2
      have hcell:V7.heap[G+1+1+1]?=some (ptO (some ⟨Bq,0,none⟩)):=HT9.out.1.1
      have c3:=Zn hcell 0 (v:=.pointer (some ⟨Bq,0,none⟩)) rfl
      have f3:=Zo hcell 0
      have HCC:=Zpe hcell
      clear hcell
      go_wp2
      obtain⟨V8,hV8⟩:=Zpg (V7.setCell ⟨G+1+1+1,0,none⟩ (.pointer (some ⟨C,0,none⟩)))
      have o8:∀ x,x≠G+1+1+1->V8.heap[x]?=V7.heap[x]?:=fun x hx=>by rw[<- hV8];exact Zos _ _ _ _ hx
      have HN8:Hid (Zas (G+1+1+1) (some (prR qs u/rR t u i)) V8/\V8.heap[G]?=some (wkO b)/\V8.heap[G+1]?=some (iO i)/\V8.heap[G+1+1]?=some (pObj Zpa Zpa)/\Below w.heap.size w V8):=by
       obtain⟨t1,_,_,t2,t3,t4,t5⟩:=HT.out
       refine⟨⟨C,xs,ys,by rw[<- hV8];exact Zov HCC.out _,Za,(o8 _ Za).trans t1,HXS.out,HXZ.out⟩,(o8 _ Za).trans t2,(o8 _ Za).trans t3,(o8 _ Za).trans t4,?_⟩
       rw[<- hV8]
       exact t5.setCell (p:=⟨G+1+1+1,0,none⟩) (by have:=HGG.out;show w.heap.size<=G+1+1+1;omega) _
      try rw[hV8]
      clear o8 c3 f3 hV8
      go_roundw
      case rel=>exact⟨u+1,_,by go_num,Za,HLN,HN8⟩
      case measure=>exact Zj
     ·have hge:¬ n<0:=by
       rw[<- hn]
       unfold sgnR
       rw[if_neg hlt2]
       split<;>decide
      have HLN:=Zpe (HL.out.keep (n:=u) (Rat.not_lt.1 hlt2))
      clear hn hlt2
      iterate 1
       refine Zx _ rfl rfl (fun w' hS=>Ze) ?_
       simp only[Act.put,Zl]
      try rw[decide_eq_false hge]
      iterate 1
       refine Zx _ rfl rfl (fun w' hS=>Ze) ?_
       simp only[Act.put,Zl]
      refine ZD ?_
      go_wp2
      go_roundw
      case rel=>exact⟨u+1,_,by go_num,Za,HLN,HT9.out.2.2.2⟩
      case measure=>exact Zj
  ·obtain rfl:u=T:=Za
   have HA:=Zpe (HFA.out wr HR.out.2.2.2.2)
   obtain⟨HR1,HR2,HR3,HR4,HR5⟩:=HR.out
   have r0:=Zn HR4 0 (v:=.string Zpa) rfl
   have r1:=Zn HR4 1 (v:=.string Zpa) rfl
   have f0:=Zo HR4 0
   have f1:=Zo HR4 1
   have z0:=HA.out.at'.eff.z0
   have z1:=HA.out.at'.eff.z1
   have hGw:w.heap.size<=G+1+1:=Za
   cases r with
   | none=>
    have d0:=Zn HR1 0 (v:=.pointer none) rfl
    clear HR1 HR2 HR3 HR4 HR5
    go_wp2
    obtain⟨q5,q6⟩:=Zu HR.out.2.2.2.1 (.string ⟨#[48]⟩) (.string ⟨#[49]⟩)
    exact Zor (v:=pV ⟨#[48]⟩ ⟨#[49]⟩) (by simp[results,Tryz.f122,go_sem,q5,q6]) rfl ⟨_,_,0,rfl,⟨none,by rw[HTT.out];exact HL.out,.inl ⟨rfl,rfl⟩⟩,Zad,Zs HR.out.2.2.2.2 hGw _ _⟩
   | some c=>
    obtain⟨Bq,c1,c2,q5,q6,q7,q8,q9⟩:=HR1
    have d0:=Zn q5 0 (v:=.pointer (some ⟨Bq,0,none⟩)) rfl
    have HQ5:=Zpe q5
    have HQ7:=Zpe q7
    have HQ8:=Zpe (Zo5 q8 q9)
    obtain⟨hw0,hw1',hw2',hbl⟩:=(HFA.out w (Zoq _ _)).at'.site i HI.out
    have hcl:=(HOK.out.site i HI.out).2.len
    obtain⟨pc',cc,hcv,hcc1,hcc2,_⟩:=id hbl
    rw[hcv] at hbl
    obtain⟨n,hn⟩:=Zpg ((eS t i).curve.length)
    obtain⟨cb,co,rfl,hcb,hat⟩:=hbl.at rfl Za
    rw[hn] at hcc1 hcv hat hcl
    have HCV:Hid (∀ V,Below w.heap.size w V->V.cell? ⟨sb,so+i*3,none⟩=some (.string (eS t i).weight.1)/\V.cell? ⟨sb,so+i*3+1,none⟩=some (.string (eS t i).weight.2)/\V.cell? ⟨sb,so+i*3+2,none⟩=some (.slice (some ⟨cb,co,none⟩) n cc)/\V.cell? ⟨b,0,none⟩=some (.slice (some ⟨sb,so,none⟩) N sc)):=fun V hV=>by
     have A':=HFA.out V hV
     obtain⟨a0,a1,a2,_⟩:=A'.at'.site i HI.out
     exact⟨a0,a1,by rw[<- hcv];exact a2,by rw[<- HNN.out];exact A'.w0⟩
    have HAT:Hid (∀ V,Below w.heap.size w V->∀ k,k<n->V.cell? ⟨cb,co+k*4,none⟩=some (.string (bAt (eS t i).curve k).1.1)/\V.cell? ⟨cb,co+k*4+1,none⟩=some (.string (bAt (eS t i).curve k).1.2)/\V.cell? ⟨cb,co+k*4+2,none⟩=some (.string (bAt (eS t i).curve k).2.1)/\V.cell? ⟨cb,co+k*4+3,none⟩=some (.string (bAt (eS t i).curve k).2.2)):=hat
    have HNL:=Zpe hn
    have hsc:N<=sc/\sc<=9223372036854775807:=by rw[<- HNN.out];exact k1
    have hcc:n<=cc/\cc<=9223372036854775807:=⟨hcc1,by unfold maxLen at hcc2;omega⟩
    have i0':(0:Int)<=(i:Int):=Za
    have i1':(i:Int)<(N:Int):=Za
    have hmf:∀ (fn:Fn) (first cap:Array Value) (w:World),(Instr.makeFunc fn first cap).run Tryz.prog w=.ok (.func fn first cap) w:=fun _ _ _ _=>rfl
    have hwr0:0<wr.heap.size:=Nat.lt_of_le_of_lt (ZoD _) (Zo9 HR4)
    have HRD:Hid (∀ V,Below wr.heap.size wr V->V.heap[G]?=some (wkO b)/\V.heap[G+1]?=some (iO i)/\V.heap[G+1+1]?=some (pObj Zpa Zpa)/\V.heap[G+1+1+1]?=some (ptO (some ⟨Bq,0,none⟩))/\V.heap[Bq]?=some (pObj c1 c2)/\Below w.heap.size w V):=fun V hV=>
     ⟨(hV.block _ (Zo9 HR.out.2.1)).trans HR.out.2.1,(hV.block _ (Zo9 HR.out.2.2.1)).trans HR.out.2.2.1,(hV.block _ (Zo9 HR.out.2.2.2.1)).trans HR.out.2.2.2.1,(hV.block _ (Zo9 HQ5.out)).trans HQ5.out,(hV.block _ (Zo9 HQ7.out)).trans HQ7.out,HR.out.2.2.2.2.trans (hV.mono HR.out.2.2.2.2.size)⟩
    clear HR2 HR3 HR4 HR5 q5 q7 q8 q9 hw0 hw1' hw2' hbl hat hcv hn hcc1 hcc2 z0 z1 r0 r1 f0 f1
    go_wp2_with fail
    clear d0
    refine ZeY 16 17 12 13 [(0,18),(0,19),(2,20)] [(1,0),(1,1),(1,2),(1,3),(1,4),(1,5),(1,6),(1,7),(1,8),(1,10),(0,9),(0,11),(1,12),(2,13),(2,14),(2,15)] (fun j g h V=>Laid2 wr (bO Zpa Zpa Zpa Zpa) (pObj Zpa Zpa) g h V/\(j≠0->V.heap[j]?=some (cuO (.slice (some ⟨cb,co,none⟩) n cc)))) (fun i=>i==13 || i==14 || i==15 || i==18 || i==19 || i==20)
     Zb Zb (fun j hj=>by have h:21<=j:=hj;simp;omega) Zi
     ⟨_,rfl,rfl,fun _=>rfl,fun a V K hK=>by go_simp;exact hK⟩ ⟨_,rfl,rfl,fun _=>rfl,fun a V K hK=>by go_simp;exact hK⟩
     (fun j h V L=>⟨L.1.lay1,fun hj=>(ZoG _ _ _ (by have:=(Zo9 (L.2 hj));omega)).trans (L.2 hj)⟩) (fun j g V L=>⟨L.1.lay2,fun hj=>(ZoG _ _ _ (by have:=(Zo9 (L.2 hj));omega)).trans (L.2 hj)⟩) ⟨Laid2.start _ _ _,fun h=>Zo4 rfl h⟩ ?_
    iterate 10
     refine Zce _ rfl (fun z y=>rfl) (fun z y j g h w' hS=>by obtain⟨hg,hi',_,_,_,hB⟩:=HRD.out _ hS.1.base;obtain⟨_,_,e2,e3⟩:=HCV.out _ hB;have b0:=Zn hg 0 (v:=.pointer (some ⟨b,0,none⟩)) rfl;have b1:=Zn hi' 0 (v:=.int .i64 i) rfl;simp only[two,Act.put,Zm];exact Ze) ?_
     simp only[Act.put,Zl]
    refine Zfg 171 _ rfl (fun z y=>rfl) (fun z y w'=>by simp only[two,Act.put,Zm];exact Zf) (fun g h V hS=>?_)
    refine(ZkK _ _ _ V).mono ?_
    rintro e V' ⟨rfl,rfl⟩
    refine⟨_,V.heap.size,rfl,⟨hS.1.step ((Zoq _ V).alloc Zpf _),fun _=>Zot V _⟩,?_⟩
    have hV0:V.heap.size≠0:=by have:=hS.1.base.size;omega
    clear hS
    generalize V.heap.size=Bv at hV0 ⊢
    clear V
    simp only[Act.put,Zl]
    refine Zfg 170 _ rfl (fun z y=>rfl) (fun z y w'=>by simp only[two,Act.put,Zm];exact Zf) (fun g h V hS=>?_)
    obtain⟨HB0,hBv⟩:=id hS
    have hbox:=hBv hV0
    have hcurve:=HOK.out.site i HI.out
    refine(ZhY (e:=fun k=>bAt (eS t i).curve k) (g:=fun k=>posR (wR t i*hR (eS t i).curve k-c*cR (eS t i).curve k)) (N:=n) (Sx:=fun _=>True) (J:=fun _ _=>True)
     (enters_of Tryz.func206 Zb rfl) (enters_of Tryz.func172 Zb rfl)
     (fun _ _=>trivial) (fun _ _ _ _ _=>trivial) trivial (fun V' hV'=>?_) (fun V' hV'=>?_) (fun k hk V' hV' _=>?_)).mono ?_
    ·have hb:Below w.heap.size w V':=HR.out.2.2.2.2.trans ((HB0.base.trans ((hV'.below_of (fun _ _=>trivial) Zpf).mono HB0.base.size)).mono HR.out.2.2.2.2.size)
     exact(HFA.out _ hb).at'.eff
    ·refine Zjl (cb:=cb) (co:=co) (c:=cc) Za hcc fun V2 hV2=>?_
     have hk2:Keeps (fun _=>True) V V2:=hV'.via hV2 fun x hx _=>⟨hx,trivial⟩
     have hb:Below w.heap.size w V2:=HR.out.2.2.2.2.trans ((HB0.base.trans ((hk2.below_of (fun _ _=>trivial) Zpf).mono HB0.base.size)).mono HR.out.2.2.2.2.size)
     exact⟨Zn (hk2.at hbox trivial) 0 rfl,HAT.out _ hb⟩
    ·have hb0:Below wr.heap.size wr V':=HB0.base.trans ((hV'.below_of (fun _ _=>trivial) Zpf).mono HB0.base.size)
     have hk':k<(eS t i).curve.length:=by rw[HNL.out];exact hk
     have hsm:=hcurve.2.small k hk'
     obtain⟨s1,s2,s3⟩:=Zai.1 hsm.1
     obtain⟨s4,s5,s6⟩:=Zai.1 hsm.2
     obtain⟨wi,wz⟩:=Zfz HOK.out HI.out
     have ci:=Zav s3
     have hi2:=Zav s6
     refine(Ziu (b:=b) (Bw:=G) (Bi:=G+1) (Bc:=G+1+1+1) (Bq:=Bq) (i:=i) (sb:=sb) (so:=so) (N:=N) (sc:=sc) (bd:=bAt (eS t i).curve k) (fun V2 hV2=>?_) hiN hN24.2 hsc wi HQ8.out.1 hi2 ci wz HQ8.out.2 (hi2.sz s4 s5) (ci.sz s1 s2)).mono ?_
     ·obtain⟨h1,h2,h3,h4,h5,h6⟩:=HRD.out V2 (hb0.trans (hV2.mono hb0.size))
      obtain⟨h7,h8,h9,h10⟩:=HCV.out V2 h6
      have A':=HFA.out V2 h6
      exact⟨Zn h1 0 rfl,Zn h2 0 rfl,Zn h4 0 rfl,h10,h7,h8,Zn h5 0 rfl,Zn h5 1 rfl,A'.at'.tabs,A'.at'.eff⟩
     ·rintro e V2 ⟨x,y,he,hx,hb⟩
      exact⟨x,y,he,hx,hb.keepsS _,trivial⟩
    rintro e V2 ⟨r',mx,x,y,rfl,hBest,hx,hk2,_⟩
    have HBE:=Zpe hBest
    have HX:=Zpe hx
    have hb2:=(hk2.below_of (fun _ _=>trivial) Zpf)
    refine⟨_,Bv,rfl,⟨HB0.step hb2,fun h=>(hb2.block _ (Zo9 (hBv h))).trans (hBv h)⟩,?_⟩
    obtain⟨m1,m2,m3,m4,hme⟩:∃ m1 m2 m3 m4,Zkv (fun k=>bAt (eS t i).curve k) r'=.agg #[.string m1,.string m2,.string m3,.string m4]:=by cases r'<;>exact⟨_,_,_,_,rfl⟩
    rw[hme]
    generalize r'.isSome=okb
    clear hS HB0 hBv hbox hk2 hb2 hBest hx hme hcurve
    simp only[Act.put,Zl]
    iterate 1
     refine Zce _ rfl (fun z y=>rfl) (fun z y j g h w' hS=>by skip;simp only[two,Act.put,Zm];exact Ze) ?_
     simp only[Act.put,Zl]
    iterate 3
     refine ZjI _ rfl (fun z y=>rfl) (fun z y w'=>by simp only[two,Act.put,Zm];exact Zf) ?_
     simp only[Act.put,Zl]
    refine ZgP fun ga gb V3 hS=>?_
    simp only[two]
    simp only[Act.put,Zl]
    obtain⟨hg1,hg2⟩:=hS.1.a _ rfl
    obtain⟨hh1,hh2⟩:=hS.1.b _ rfl
    have hne:=hS.1.ne _ _ rfl rfl
    have HLB:Zo8 wr V3:=hS.1.base
    clear hS
    have c0:=Zn hg2 0 (v:=.string Zpa) rfl
    have c1':=Zn hg2 1 (v:=.string Zpa) rfl
    have c2':=Zn hg2 2 (v:=.string Zpa) rfl
    have c3':=Zn hg2 3 (v:=.string Zpa) rfl
    have f0:=Zo hg2 0
    have f1:=Zo hg2 1
    have f2:=Zo hg2 2
    have f3:=Zo hg2 3
    refine ZB rfl rfl fun K hK=>?_
    go_simp
    obtain⟨V4,hV4⟩:=Zpg ((((V3.setCell ⟨ga,0,none⟩ (.string m1)).setCell ⟨ga,1,none⟩ (.string m2)).setCell ⟨ga,2,none⟩ (.string m3)).setCell ⟨ga,3,none⟩ (.string m4))
    have hh3:V4.heap[gb]?=some (pObj Zpa Zpa):=by
     rw[<- hV4]
     have hx:gb≠ga:=fun e=>hne e.symm
     exact((((Zos _ _ _ _ hx).trans (Zos _ _ _ _ hx)).trans (Zos _ _ _ _ hx)).trans (Zos _ _ _ _ hx)).trans hh2
    have HLB1:Zo8 wr V4:=by rw[<- hV4];exact(((HLB.out.setCell (p:=⟨ga,0,none⟩) hg1 _).setCell (p:=⟨ga,1,none⟩) hg1 _).setCell (p:=⟨ga,2,none⟩) hg1 _).setCell (p:=⟨ga,3,none⟩) hg1 _
    try rw[hV4]
    refine hK _ _ (.inl rfl) ?_
    clear hK K hV4 c0 c1' c2' c3' f0 f1 f2 f3 hg2 hh2 HLB
    have c0:=Zn hh3 0 (v:=.string Zpa) rfl
    have c1':=Zn hh3 1 (v:=.string Zpa) rfl
    have f0:=Zo hh3 0
    have f1:=Zo hh3 1
    refine ZB rfl rfl fun K hK=>?_
    go_simp
    obtain⟨V5,hV5⟩:=Zpg ((V4.setCell ⟨gb,0,none⟩ (.string x)).setCell ⟨gb,1,none⟩ (.string y))
    have hh4:V5.heap[gb]?=some (pObj x y):=by rw[<- hV5];exact Zah hh3 _ _
    have HLB2:Zo8 wr V5:=by rw[<- hV5];exact Zs HLB1.out hh1 _ _
    try rw[hV5]
    refine hK _ _ (.inl rfl) ?_
    clear hK K hV5 c0 c1' f0 f1 hh3 HLB1
    refine ZcZ _ rfl rfl (fun w' _=>Zf) ?_
    simp only[Act.put,Zl]
    refine ZD ?_
    have a0:=Zn hh4 0 (v:=.string x) rfl
    have a1:=Zn hh4 1 (v:=.string y) rfl
    obtain⟨_,_,hr4,_,_,hB5⟩:=HRD.out _ HLB2.out
    have HR5:=Zpe hr4
    have HB5:=Zpe hB5
    have r0:=Zn hr4 0 (v:=.string Zpa) rfl
    have r1:=Zn hr4 1 (v:=.string Zpa) rfl
    have f0:=Zo hr4 0
    have f1:=Zo hr4 1
    clear hh4 hr4 hB5
    go_wp2
    obtain⟨q5,q6⟩:=Zu HR5.out (.string x) (.string y)
    refine Zor (v:=pV x y) (by simp[results,Tryz.f122,go_sem,q5,q6]) rfl ⟨_,_,mx,rfl,⟨some c,by rw[HTT.out];exact HL.out,.inr ⟨c,rfl,r',by rw[HNL.out];exact HBE.out⟩⟩,HX.out,Zs HB5.out hGw _ _⟩
end Go.Proofs.YtmpaflidennnoaaGreatDoor
