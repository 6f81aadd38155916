/- The parts EBnd, EBound, BendL, DHalv, Sights, AliveM, LawOf. -/
import Derived.Test.YtmpaflidennnoaaGreatDoorH28
set_option maxRecDepth 100000
set_option maxHeartbeats 8000000
set_option linter.unusedVariables false
set_option linter.unusedSimpArgs false
namespace Go.Proofs.YtmpaflidennnoaaGreatDoor
open Go.RowKit Go.Shelf
attribute [local go_sem ↓] Go.wp_at_zero Go.wp_at_succ
open Classical in
noncomputable def surF (t:TaskP) (qs:List PP) (i:Nat):Rat:=if h:∃ s,SurR t qs i s then Classical.choose h else 0
theorem Zg2 {t:TaskP} {qs:List PP} {i:Nat} {s:Rat} (h:SurR t qs i s):surF t qs i=s:=by
 have hx:∃ s,SurR t qs i s:=⟨s,h⟩
 unfold surF
 rw[dif_pos hx]
 exact(Classical.choose_spec hx).det h
noncomputable def Z7 (t:TaskP) (qs:List PP) (k:Nat):Rat:=if k<t.hours.length then prR qs k*((eH t k:Int):Rat) else surF t qs (k-t.hours.length)
def Zn1 (t:TaskP) (qs:List PP) (w:World) (e:Ending) (w':World):Prop:=
 ∃ x y k,((k=0/\e=.returned (pV x y))\/(k≠0/\e=ZdU k))/\SumE (Z7 t qs) (t.hours.length+t.sites.length) x y k/\Below w.heap.size w w'
theorem Zk4 {t:TaskP} {b m:Nat} {sv hv rv pv qv:Value} {qs:List PP} {w:World} (h:WorkW t b m sv hv rv pv w) (ok:TaskOk t) (hq:PL w qv qs) (hp:PricesOk t qs) :
  Calls Tryz.prog 65 #[.pointer (some ⟨b,0,none⟩),qv] w (Zn1 t qs w):=by
 have HSU:Hid (∀ V,Below w.heap.size w V->∀ i,i<t.sites.length->Calls Tryz.prog 122 #[.pointer (some ⟨b,0,none⟩),qv,.int .i64 i] V (fun e w'=>∃ x y s,e=.returned (pV x y)/\SurR t qs i s/\IsP s x y/\Below V.heap.size V w')):=fun V hV i hi=>
  ZjG (h.keep (hV.keepsS _)) ok (hq.after hV Zpf) hp hi
 obtain⟨sb,so,sc,hb,ho,hc,rb,ro,rk,cv,rq,rp,rc,k1,k2,k3,hA⟩:=h.open ok
 obtain⟨qb,qo,qc,rfl,q1,q2,q3,q4⟩:=Zeb hq (by rw[hp.len];exact ok.teams.1)
 obtain⟨N,hN⟩:=Zpg t.sites.length
 obtain⟨T,hT⟩:=Zpg t.hours.length
 have hTq:=hp.len
 have hTr:=ok.rates
 have hT8:=ok.teams
 have hN24:=ok.sites
 rw[hT] at hTq hTr hT8
 rw[hN] at hN24 HSU
 rw[hTq] at q1 HSU ⊢
 have HFA:Hid (∀ V,Below w.heap.size w V->V.cell? ⟨b,0,none⟩=some (.slice (some ⟨sb,so,none⟩) N sc)/\V.cell? ⟨b,1,none⟩=some (.slice (some ⟨hb,ho,none⟩) T hc)/\(∀ u,u<T->V.cell? ⟨hb,ho+u,none⟩=some (.int .i64 (eH t u)))/\Tabs V/\EffZ V):=fun V hV=>by
  have A:=hA V (hV.keepsS _)
  exact⟨by rw[<- hN];exact A.w0,by rw[<- hT];exact A.w1,fun u hu=>A.at'.hour u (by rw[hT];exact hu),A.at'.tabs,A.at'.eff⟩
 have HQ:Hid (∀ V,Below w.heap.size w V->∀ u,u<T->V.cell? ⟨qb,qo+u*2,none⟩=some (.string (qs.getD u (Zpa,Zpa)).1)/\V.cell? ⟨qb,qo+u*2+1,none⟩=some (.string (qs.getD u (Zpa,Zpa)).2)):=fun V hV u hu=>by
  have hu':u<qs.length:=Za
  obtain⟨a1,a2⟩:=q4 u hu'
  rw[show qs.getD u (Zpa,Zpa)=qs[u] by simp[List.getD,hu']]
  exact⟨(hV.cell (p:=⟨qb,qo+u*2,none⟩) q3).trans a1,(hV.cell (p:=⟨qb,qo+u*2+1,none⟩) q3).trans a2⟩
 have HTM:Hid (∀ u,u<T->IsP (prR qs u) (qs.getD u (Zpa,Zpa)).1 (qs.getD u (Zpa,Zpa)).2/\(∃ x y,IsP ((eH t u:Int):Rat) x y)/\(∃ x y,IsP (prR qs u*((eH t u:Int):Rat)) x y)/\(0<=eH t u/\eH t u<=48)/\Z7 t qs u=prR qs u*((eH t u:Int):Rat)):=fun u hu=>by
  obtain⟨p1,p2⟩:=Zls hp (u:=u) Za
  have h48:=(ok.team u (by rw[ok.rates,hT];exact hu)).1
  obtain⟨w1,w2,w3⟩:=Zd3 h48.1 h48.2
  exact⟨p1,w1,Zaa (Rat.mul_nonneg p1.nn w3) (Sz.mul p1.nn w3 p2 w2) Zd Zd,h48,by unfold Z7;rw[if_pos (by rw[hT];exact hu)]⟩
 have HSF:Hid (∀ i s,SurR t qs i s->Z7 t qs (T+i)=s):=fun i s hs=>by
  unfold Z7
  rw[hT,if_neg Za,show T+i-T=i by omega]
  exact Zg2 hs
 have HN:=Zpe hN
 have HTT:=Zpe hT
 have hsc:N<=sc/\sc<=9223372036854775807:=by rw[<- hN];exact k1
 have hhc:T<=hc/\hc<=9223372036854775807:=by rw[<- hT];exact k2
 have HE0:Hid (Env w.heap.size w [(w.heap.size,pObj Zpa Zpa)] [] (w.alloc (pObj Zpa Zpa))):=(Env.start w).push _ rfl
 obtain⟨_,_,_,_,z⟩:=HFA.out _ HE0.out.base
 have z0:=z.z0
 have z1:=z.z1
 have HE1:Hid (Env w.heap.size w [(w.heap.size+1,pObj ⟨#[48]⟩ ⟨#[49]⟩),(w.heap.size,pObj Zpa Zpa)] [] ((w.alloc (pObj Zpa Zpa)).alloc (pObj ⟨#[48]⟩ ⟨#[49]⟩))):=HE0.out.push _ Zc
 clear h ok hq hp hA q4 hN hT hTq hTr z HE0 k1 k2 k3
 go_enter Tryz.func65,Tryz.ntmps65
 go_wp2_with fail
 clear z0 z1
 go_loopw [14] (fun v wr=>∃ (k:Nat) (x y:ByteArray),v=.int .i64 k/\k<=T/\Hid (IsP (sumF (Z7 t qs) k) x y)/\Hid (Zap (Z7 t qs) k)/\Hid (Env w.heap.size w [(w.heap.size+1,pObj x y),(w.heap.size,pObj Zpa Zpa)] [] wr)) (fun v _=>T-(intOf v).toNat)
 case atStart=>exact⟨0,_,_,rfl,ZoD _,Zad,Zap.zero _,HE1⟩
 case round=>
  obtain⟨k,x,y,rfl,hk,HIA,HAF,HE⟩:=hrel
  clear HE1
  by_cases hlt:k<T
  ·obtain⟨hpi,⟨xh,yh,hxh⟩,⟨x8,y8,hx8⟩,h48,hfk⟩:=HTM.out k hlt
   obtain⟨e0,e1⟩:=HQ.out _ HE.out.base k hlt
   obtain⟨⟨p1,p2⟩,hpp⟩:∃ z,qs.getD k (Zpa,Zpa)=z:=⟨_,rfl⟩
   rw[hpp] at e0 e1 hpi
   dsimp only at e0 e1 hpi
   have HPI:=Zpe hpi
   have HXH:=Zpe hxh
   have HX8:=Zpe hx8
   have HFK:=Zpe hfk
   have H48:=Zpe h48
   have i0':(0:Int)<=(k:Int):=Za
   have i1':(k:Int)<(T:Int):=Za
   obtain⟨g,hg⟩:=Zpg wr.heap.size
   obtain⟨w2,hw2⟩:=Zpg (wr.alloc (pObj p1 p2))
   have HE2:Hid (Env w.heap.size w [(g,pObj p1 p2),(w.heap.size+1,pObj x y),(w.heap.size,pObj Zpa Zpa)] [] w2):=by rw[<- hw2];exact HE.out.push _ hg.symm
   obtain⟨a0,a1,a2,_⟩:=HFA.out _ HE2.out.base
   have a3:=a2 k hlt
   obtain⟨hh,hhh⟩:=Zpg (eH t k)
   have HHH:=Zpe hhh
   rw[hhh] at a3
   clear hpi hxh hx8 h48 hfk hpp HE a2 hhh
   go_wp2_with fail
   have hrt:=Zi2 H48.out.1 H48.out.2 HXH.out w2 (HFA.out _ HE2.out.base).2.2.2.1
   rw[HHH.out] at hrt
   refine hrt.mono ?_
   rintro e w3 ⟨rfl,hb⟩
   have HE3:=Zpe (HE2.out.step hb)
   clear hb hrt a0 a1 a3 e0 e1 HE2 hw2
   try rw[hg]
   clear hg
   obtain⟨g2,hg2⟩:=Zpg w3.heap.size
   obtain⟨w4,hw4⟩:=Zpg (w3.alloc (pObj xh yh))
   have HE4:Hid (Env w.heap.size w [(g2,pObj xh yh),(g,pObj p1 p2),(w.heap.size+1,pObj x y),(w.heap.size,pObj Zpa Zpa)] [] w4):=by rw[<- hw4];exact HE3.out.push _ hg2.symm
   clear HE3
   go_wp2_with fail
   try rw[hg2]
   try rw[hw4]
   clear hg2 hw4
   refine ZP [(1,0),(1,1),(1,2),(0,3),(1,4),(1,5),(0,6),(0,7),(1,8),(1,9),(0,10),(0,11)] (Env w.heap.size w [(g2,pObj xh yh),(g,pObj p1 p2),(w.heap.size+1,pObj x y),(w.heap.size,pObj Zpa Zpa)] []) (fun i=>i==11)
    Zb Zb (fun j hj=>by have h:12<=j:=hj;simp;omega) Zi HE4.out.drew ?_
   obtain⟨w5,hw5⟩:=Zpg w4.drew
   have HE5:Hid (Env w.heap.size w [(g2,pObj xh yh),(g,pObj p1 p2),(w.heap.size+1,pObj x y),(w.heap.size,pObj Zpa Zpa)] [] w5):=by rw[<- hw5];exact HE4.out.drew
   rw[hw5]
   clear hw5 HE4
   iterate 3
    refine Zx _ rfl rfl (fun w' hS=>by have c0:=hS.cell 2 0 (v:=.string x) rfl rfl;have c1:=hS.cell 2 1 (v:=.string y) rfl rfl;have d0:=hS.cell 1 0 (v:=.string p1) rfl rfl;have d1:=hS.cell 1 1 (v:=.string p2) rfl rfl;have d2:=hS.cell 0 0 (v:=.string xh) rfl rfl;have d3:=hS.cell 0 1 (v:=.string yh) rfl rfl;exact Ze) ?_
    simp only[Act.put,Zl]
   refine Zy 119 _ rfl rfl Zf ?_
   have HEC:=HE5
   refine(ZdL HPI.out HXH.out HX8.out rfl _ (HFA.out _ HEC.out.base).2.2.2.1).mono ?_
   rintro e w6 ⟨rfl,hb⟩
   have HE6:=Zpe (HEC.out.step hb)
   refine .inl ⟨_,rfl,HE6.out,?_⟩
   clear hb HEC
   simp only[Act.put,Zl]
   iterate 2
    refine Zx _ rfl rfl (fun w' hS=>Ze) ?_
    simp only[Act.put,Zl]
   refine Zy 103 _ rfl rfl Zf ?_
   have HEC:=HE6
   refine(ZaE x8 y8 _).mono ?_
   rintro e w7 ⟨rfl,hb⟩
   have HE7:=Zpe (HEC.out.step hb)
   refine .inl ⟨_,rfl,HE7.out,?_⟩
   clear hb HEC
   simp only[Act.put,Zl]
   refine Zy 42 _ rfl rfl Zf ?_
   have HEC:=HE7
   refine(Zgb HIA.out HX8.out _ (HFA.out _ HEC.out.base).2.2.2.1).mono ?_
   rintro e w9 ⟨x9,y9,n9,rfl,hA9,hb⟩
   have HE9:=Zpe (HEC.out.step hb)
   refine .inl ⟨_,rfl,HE9.out,?_⟩
   clear hb HEC
   simp only[Act.put,Zl]
   rw[<- HFK.out] at hA9
   have HA9:=Zpe hA9
   clear hA9 HE5 HE6 HE7
   iterate 2
    refine Zx _ rfl rfl (fun w' hS=>Ze) ?_
    simp only[Act.put,Zl]
   refine Zy 103 _ rfl rfl Zf ?_
   refine(Zd0 x9 y9 n9 _).mono ?_
   rintro e w10 ⟨hE,hb⟩
   have HE10:=Zpe (HE9.out.step hb)
   clear HE9 hb
   rcases hE with ⟨h0,rfl⟩ | ⟨h0,rfl⟩
   ·refine .inl ⟨_,rfl,HE10.out,?_⟩
    have HX9:Hid (IsP (sumF (Z7 t qs) (k+1)) x9 y9):=HA9.out.zero h0
    clear h0 HA9
    simp only[Act.put,Zl]
    have HE9:=Zpe (HE10.out.only [2,3] _ rfl Zd)
    have r0:=HE9.out.cell 0 0 rfl rfl
    have r1:=HE9.out.cell 0 1 rfl rfl
    have f0:=HE9.out.free 0 0 rfl
    have f1:=HE9.out.free 0 1 rfl
    refine ZB rfl rfl fun K hK=>?_
    go_simp
    have HE11:=Zpe (HE9.out.fill (.string x9) (.string y9))
    refine hK _ _ (.inl rfl) ?_
    clear hK K r0 r1 f0 f1 HE9 HE10
    refine ZD ?_
    go_wp2
    go_roundw
    case rel=>exact⟨k+1,x9,y9,by go_num,Za,HX9,HAF.out.step HX9.out.fits,HE11⟩
    case measure=>exact Zj
   ·refine .inr ⟨_,rfl,?_⟩
    rcases HA9.out with ⟨_,h1⟩ | ⟨h1,_,_,h2⟩
    ·exact Zo4 h1 h0
    ·subst h2
     exact⟨rfl,Zpa,Zpa,4,.inr ⟨Zd,rfl⟩,.inr ⟨by rw[HTT.out,HN.out];exact Zap.not h1 Za,rfl,rfl,rfl⟩,HE10.out.base⟩
  ·obtain rfl:k=T:=Za
   obtain⟨a0,_⟩:=HFA.out _ HE.out.base
   go_wp2_with fail
   clear a0
   go_loopw [49] (fun v wr=>∃ (i:Nat) (x y:ByteArray),v=.int .i64 i/\i<=N/\Hid (IsP (sumF (Z7 t qs) (k+i)) x y)/\Hid (Zap (Z7 t qs) (k+i))/\Hid (Env w.heap.size w [(w.heap.size+1,pObj x y),(w.heap.size,pObj Zpa Zpa)] [] wr)) (fun v _=>N-(intOf v).toNat)
   case atStart=>exact⟨0,x,y,rfl,ZoD _,HIA,HAF,HE⟩
   case round=>
    clear HIA HAF HE
    obtain⟨i,x,y,rfl,hi,HIA,HAF,HE⟩:=hrel
    by_cases hlt2:i<N
    ·have i0':(0:Int)<=(i:Int):=Za
     have i1':(i:Int)<(N:Int):=Za
     go_wp2_with fail
     refine ZP [(1,0),(1,1),(1,2),(1,3),(0,4),(0,5),(1,6),(1,7),(0,8),(0,9)] (Env w.heap.size w [(w.heap.size+1,pObj x y),(w.heap.size,pObj Zpa Zpa)] []) (fun i=>i==9)
      Zb Zb (fun j hj=>by have h:10<=j:=hj;simp;omega) Zi HE.out.drew ?_
     obtain⟨w5,hw5⟩:=Zpg wr.drew
     have HE5:Hid (Env w.heap.size w [(w.heap.size+1,pObj x y),(w.heap.size,pObj Zpa Zpa)] [] w5):=by rw[<- hw5];exact HE.out.drew
     rw[hw5]
     clear hw5 HE
     iterate 4
      refine Zx _ rfl rfl (fun w' hS=>by have c0:=hS.cell 0 0 (v:=.string x) rfl rfl;have c1:=hS.cell 0 1 (v:=.string y) rfl rfl;exact Ze) ?_
      simp only[Act.put,Zl]
     refine Zy 122 _ rfl rfl Zf ?_
     refine(HSU.out _ HE5.out.base i hlt2).mono ?_
     rintro e w6 ⟨x8,y8,s,rfl,hs,hx8,hb⟩
     have HE6:=Zpe (HE5.out.step hb)
     have HX8:=Zpe hx8
     have HFK:=Zpe (HSF.out _ _ hs)
     refine .inl ⟨_,rfl,HE6.out,?_⟩
     clear hb hs hx8 HE5
     simp only[Act.put,Zl]
     refine Zy 42 _ rfl rfl Zf ?_
     have HEC:=HE6
     refine(Zgb HIA.out HX8.out _ (HFA.out _ HEC.out.base).2.2.2.1).mono ?_
     rintro e w9 ⟨x9,y9,n9,rfl,hA9,hb⟩
     have HE9:=Zpe (HEC.out.step hb)
     refine .inl ⟨_,rfl,HE9.out,?_⟩
     clear hb HEC
     simp only[Act.put,Zl]
     rw[<- HFK.out] at hA9
     have HA9:=Zpe hA9
     clear hA9 HE6
     iterate 2
      refine Zx _ rfl rfl (fun w' hS=>Ze) ?_
      simp only[Act.put,Zl]
     refine Zy 103 _ rfl rfl Zf ?_
     refine(Zd0 x9 y9 n9 _).mono ?_
     rintro e w10 ⟨hE,hb⟩
     have HE10:=Zpe (HE9.out.step hb)
     clear HE9 hb
     rcases hE with ⟨h0,rfl⟩ | ⟨h0,rfl⟩
     ·refine .inl ⟨_,rfl,HE10.out,?_⟩
      have HX9:Hid (IsP (sumF (Z7 t qs) (k+i+1)) x9 y9):=HA9.out.zero h0
      clear h0 HA9
      simp only[Act.put,Zl]
      have r0:=HE10.out.cell 0 0 rfl rfl
      have r1:=HE10.out.cell 0 1 rfl rfl
      have f0:=HE10.out.free 0 0 rfl
      have f1:=HE10.out.free 0 1 rfl
      refine ZB rfl rfl fun K hK=>?_
      go_simp
      have HE11:=Zpe (HE10.out.fill (.string x9) (.string y9))
      refine hK _ _ (.inl rfl) ?_
      clear hK K r0 r1 f0 f1 HE10
      refine ZD ?_
      go_wp2
      go_roundw
      case rel=>exact⟨i+1,x9,y9,by go_num,Za,HX9,HAF.out.step HX9.out.fits,HE11⟩
      case measure=>exact Zj
     ·refine .inr ⟨_,rfl,?_⟩
      rcases HA9.out with ⟨_,h1⟩ | ⟨h1,_,_,h2⟩
      ·exact Zo4 h1 h0
      ·subst h2
       exact⟨rfl,Zpa,Zpa,4,.inr ⟨Zd,rfl⟩,.inr ⟨by rw[HTT.out,HN.out];exact Zap.not h1 Za,rfl,rfl,rfl⟩,HE10.out.base⟩
    ·obtain rfl:i=N:=Za
     have c0:=HE.out.cell 0 0 (v:=.string x) rfl rfl
     have c1:=HE.out.cell 0 1 (v:=.string y) rfl rfl
     have HE1:=Zpe (HE.out.only [1,0] _ rfl Zd)
     have r0:=HE1.out.cell 0 0 rfl rfl
     have r1:=HE1.out.cell 0 1 rfl rfl
     have f0:=HE1.out.free 0 0 rfl
     have f1:=HE1.out.free 0 1 rfl
     go_wp2
     have HE9:=Zpe (HE1.out.fill (.string x) (.string y))
     have q0:=HE9.out.cell 0 0 (v:=.string x) rfl rfl
     have q1:=HE9.out.cell 0 1 (v:=.string y) rfl rfl
     exact Zor (v:=Zpb x y) (by simp[results,Tryz.f65,go_sem,q0,q1]) rfl ⟨x,y,0,.inl ⟨rfl,rfl⟩,.inl ⟨by rw[HTT.out,HN.out];exact HAF.out,by rw[HTT.out,HN.out];exact HIA.out,rfl⟩,HE9.out.base⟩
abbrev paO (v:Value):Obj:=.cells #[v] 37
theorem ZkY (s t:ByteArray) (hs:s.size<=1000000) (ht:t.size<=1000000) (w:World):Calls Tryz.prog 62 #[pV s t] w (Z3 w (!Zw 300 (s,t))):=by
 obtain⟨w1,hw1⟩:=Zpg (w.alloc (pObj s t))
 have hb1:Below w.heap.size w w1:=by rw[<- hw1];exact(Zoq _ w).alloc Zpf _
 have hn:w1.heap[w.heap.size]?=some (pObj s t):=by rw[<- hw1];exact Zot w _
 obtain⟨G,hG⟩:=Zpg w.heap.size
 have HB1:=Zpe hb1
 rw[hG] at hn
 have c0:=Zn hn 0 (v:=.string s) rfl
 have c1:=Zn hn 1 (v:=.string t) rfl
 clear hb1 hn
 go_enter Tryz.func62,Tryz.ntmps62
 go_wp2_with fail
 refine(ZeC 300 s t hs ht _).mono ?_
 rintro e w2 ⟨rfl,hb⟩
 have HB2:Zo8 w w2:=HB1.out.trans (hb.mono HB1.out.size)
 clear hb c0 c1
 go_wp2
 exact Zor (by simp[results,Tryz.f62,go_sem]) rfl ⟨rfl,HB2.out⟩
theorem Zkk {t:TaskP} {qs:List PP} {Ge Gp Gr:Nat} {ps ph pr pp:Option Addr} {ns nh nr np cs ch cr cp:Nat} {W:World} (he:W.heap[Ge]?=some (efO (.slice ps ns cs) (.slice ph nh ch) (.slice pr nr cr))) (hp:W.heap[Gp]?=some (paO (.slice pp np cp))) (hr:W.heap[Gr]?=some (pObj Zpa Zpa))
  (hT:TaskIn t (.slice ps ns cs) (.slice ph nh ch) (.slice pr nr cr) W) (hq:PL W (.slice pp np cp) qs) (ok:TaskOk t) (okp:PricesOk t qs) :
  Calls Tryz.prog 64 #[.pointer (some ⟨Ge,0,none⟩),.pointer (some ⟨Gp,0,none⟩),.pointer (some ⟨Gr,0,none⟩)] W (ZfA (ResQ (SumE (Z7 t qs) (t.hours.length+t.sites.length)) Gr) (fun b=>b≠Gr) W):=by
 have HS0:Hid (∀ V,Below W.heap.size W V->V.heap[Ge]?=some (efO (.slice ps ns cs) (.slice ph nh ch) (.slice pr nr cr))/\V.heap[Gp]?=some (paO (.slice pp np cp))/\V.heap[Gr]?=some (pObj Zpa Zpa)/\TaskIn t (.slice ps ns cs) (.slice ph nh ch) (.slice pr nr cr) V/\PL V (.slice pp np cp) qs):=fun V hV=>
  ⟨(hV.block _ (Zo9 he)).trans he,(hV.block _ (Zo9 hp)).trans hp,(hV.block _ (Zo9 hr)).trans hr,hT.below hV Zpf,hq.after hV Zpf⟩
 have HOK:=Zpe (Zo5 ok okp)
 have hgr:=(Zo9 hr)
 clear he hp hr hT hq ok okp
 go_enter Tryz.func64,Tryz.ntmps64
 go_wp2_with fail
 refine ZP [(1,0),(1,2),(0,1),(0,3),(0,4)] (fun V=>Below W.heap.size W V) (fun i=>i==4)
  Zb Zb (fun j hj=>by have h:5<=j:=hj;simp;omega) Zi (Zoq _ W).drew ?_
 have HB0:Hid (Below W.heap.size W W.drew):=(Zoq _ W).drew
 obtain⟨V,hV⟩:=Zpg W.drew
 rw[hV] at HB0 ⊢
 clear hV
 iterate 2
  refine Zx _ rfl rfl (fun w' hS=>by obtain⟨q1,q2,_⟩:=HS0.out _ hS;have e0:=Zn q1 0 (v:=.slice ps ns cs) rfl;have e1:=Zn q1 1 (v:=.slice ph nh ch) rfl;have e2:=Zn q1 2 (v:=.slice pr nr cr) rfl;have p0:=Zn q2 0 (v:=.slice pp np cp) rfl;exact Ze) ?_
  simp only[Act.put,Zl]
 refine Zy 48 _ rfl rfl Zf ?_
 refine(Zde (p:=[]) (N:=1) (HS0.out _ HB0.out).2.2.2.1 (⟨none,0,rfl,Nat.le_refl _,Zd,fun h=>Zo4 rfl h⟩) Zd Zd (fun u h=>Zo4 h (ZoQ _))).mono ?_
 rintro e V1 ⟨b,m,sv,hv,rv,pv,gq,gc,rfl,hW,_,_,_,_,hb⟩
 have HB1:Zo8 W V1:=HB0.out.trans (hb.mono HB0.out.size)
 have HW:=Zpe hW
 refine .inl ⟨_,rfl,HB1.out,?_⟩
 clear hb hW HB0
 simp only[Act.put,Zl]
 refine Zy 65 _ rfl rfl Zf ?_
 refine(Zk4 HW.out HOK.out.1 (HS0.out _ HB1.out).2.2.2.2 HOK.out.2).mono ?_
 rintro e V2 ⟨x,y,n,hE,hS,hb⟩
 have HB2:Zo8 W V2:=HB1.out.trans (hb.mono HB1.out.size)
 have HSE:=Zpe hS
 have HR:=Zpe (HS0.out _ HB2.out).2.2.1
 clear hb hS HB1 HW
 rcases hE with ⟨rfl,rfl⟩ | ⟨hn,rfl⟩
 ·refine .inl ⟨_,rfl,HB2.out,?_⟩
  simp only[Act.put,Zl]
  have r0:=Zn HR.out 0 (v:=.string Zpa) rfl
  have r1:=Zn HR.out 1 (v:=.string Zpa) rfl
  have f0:=Zo HR.out 0
  have f1:=Zo HR.out 1
  refine ZB rfl rfl fun K hK=>?_
  go_simp
  obtain⟨V3,hV3⟩:=Zpg ((V2.setCell ⟨Gr,0,none⟩ (.string x)).setCell ⟨Gr,1,none⟩ (.string y))
  have hR3:V3.heap[Gr]?=some (pObj x y):=by rw[<- hV3];exact Zah HR.out _ _
  have hK3:Keeps (fun b=>b≠Gr) W V3:=by rw[<- hV3];exact((HB2.out.keepsS (fun b=>b≠Gr)).setCell (p:=⟨Gr,0,none⟩) Zc _).setCell (p:=⟨Gr,1,none⟩) Zc _
  have HF3:=Zpe (Zo5 hR3 hK3)
  rw[hV3]
  refine hK _ _ (.inl rfl) ?_
  clear hK K hV3 r0 r1 f0 f1 hR3 hK3
  refine ZD ?_
  go_wp2
  exact Zor (results_none rfl _ _ _) rfl ⟨0,.inl ⟨rfl,rfl⟩,⟨x,y,HF3.out.1,HSE.out⟩,HF3.out.2⟩
 ·have hxy:x=Zpa/\y=Zpa:=by
   rcases HSE.out with ⟨_,_,h⟩ | ⟨_,h1,h2,_⟩
   ·exact Zo4 h hn
   ·exact⟨h1,h2⟩
  obtain⟨rfl,rfl⟩:=hxy
  refine .inr ⟨_,rfl,?_⟩
  exact⟨rfl,n,.inr ⟨hn,rfl⟩,⟨_,_,HR.out,HSE.out⟩,HB2.out.keepsS _⟩
def ZeV (t:TaskP) (qs:List PP) (x y:ByteArray) (n:Int):Prop:=(¬ (TaskOk t/\PricesOk t qs)/\x=Zpa/\y=Zpa/\n=2)\/((TaskOk t/\PricesOk t qs)/\SumE (Z7 t qs) (t.hours.length+t.sites.length) x y n)
theorem Zln {t:TaskP} {qs:List PP} {sv hv rv qv:Value} {w:World} (hT:TaskIn t sv hv rv w) (hz:LimT t) (hq:PL w qv qs) (hzq:LimP qs) :
  Calls Tryz.prog 21 #[.agg #[sv,hv,rv],qv] w (ZL (ZeV t qs) w):=by
 obtain⟨ps,cs,rfl,_⟩:=hT.sites.shape rfl
 obtain⟨ph,ch,rfl,_⟩:=hT.hours.shape rfl
 obtain⟨pr,cr,rfl,_⟩:=hT.rates.shape rfl
 obtain⟨ns,hns⟩:=Zpg t.sites.length
 obtain⟨nh,hnh⟩:=Zpg t.hours.length
 obtain⟨nr,hnr⟩:=Zpg t.rates.length
 obtain⟨np,hnp⟩:=Zpg qs.length
 obtain⟨pp,pc,rfl⟩:∃ p c,qv=.slice p np c:=by obtain⟨p,c,h,_⟩:=id hq;exact⟨_,_,by rw[<- hnp];exact h⟩
 rw[hns,hnh,hnr] at hT ⊢
 have HT:=Zpe hT
 have HQ:=Zpe hq
 have HZ:=Zpe hz
 have HZQ:=Zpe hzq
 have HNP:=Zpe hnp
 have HNH:=Zpe hnh
 have hmf:∀ (fn:Fn) (first cap:Array Value) (w:World),(Instr.makeFunc fn first cap).run Tryz.prog w=.ok (.func fn first cap) w:=fun _ _ _ _=>rfl
 have HE0:Hid (Env w.heap.size w [(w.heap.size+1+1,pObj Zpa Zpa),(w.heap.size+1,paO (.slice pp np pc)),(w.heap.size,efO (.slice ps ns cs) (.slice ph nh ch) (.slice pr nr cr))] []
  (((w.alloc (efO (.slice ps ns cs) (.slice ph nh ch) (.slice pr nr cr))).alloc (paO (.slice pp np pc))).alloc (pObj Zpa Zpa))):=(((Env.start w).push _ rfl).push _ Zc).push _ Zc
 have e0:=HE0.out.cell 2 0 (v:=.slice ps ns cs) rfl rfl
 have e1:=HE0.out.cell 2 1 (v:=.slice ph nh ch) rfl rfl
 have e2:=HE0.out.cell 2 2 (v:=.slice pr nr cr) rfl rfl
 have hfn:∀ k,Fence.wide.fn k:=fun _=>trivial
 clear hT hz hns hnh hnr hnp hq hzq
 go_enter Tryz.func21,Tryz.ntmps21
 go_wp2_with fail
 refine(Zdr (HT.out.below HE0.out.base Zpf) HZ.out).mono ?_
 rintro e w1 ⟨hE,hb⟩
 have HE1:=Zpe (HE0.out.step hb)
 clear hb HE0 e0 e1 e2
 have r0:=HE1.out.cell 0 0 (v:=.string Zpa) rfl rfl
 have r1:=HE1.out.cell 0 1 (v:=.string Zpa) rfl rfl
 have f0:=HE1.out.free 0 0 rfl
 have f1:=HE1.out.free 0 1 rfl
 have p0:=HE1.out.cell 1 0 (v:=.slice pp np pc) rfl rfl
 have h0:=HE1.out.cell 2 1 (v:=.slice ph nh ch) rfl rfl
 rcases hE with ⟨hok,rfl⟩ | ⟨hok,rfl⟩
 rotate_left
 ·have HA:Hid (ZeV t qs Zpa Zpa 2):=.inl ⟨fun h=>hok h.1,rfl,rfl,rfl⟩
  clear hok
  go_wp2
  have HE9:=Zpe (HE1.out.fill (.string Zpa) (.string Zpa))
  have q0:=HE9.out.cell 0 0 (v:=.string Zpa) rfl rfl
  have q1:=HE9.out.cell 0 1 (v:=.string Zpa) rfl rfl
  exact Zor (v:=.tuple #[Zpb Zpa Zpa,.int .i64 2]) (by simp[results,Tryz.f21,go_sem,q0,q1]) rfl ⟨Zpa,Zpa,2,rfl,HA.out,HE9.out.base⟩
 ·have HOK:=Zpe hok
  clear hok
  by_cases hlen:np=nh
  ·subst hlen
   have HCO:Hid (Calls Tryz.prog 61 #[.slice pp np pc,.func (.func 62) #[] #[]] w1 (Zed w1 np (fun j=>!Zw 300 (qs.getD j (Zpa,Zpa))))):=by
    refine Zdg (enters_of Tryz.func62 Zb rfl) (HQ.out.after HE1.out.base Zpf) HNP.out fun j hj W hW=>?_
    obtain⟨z1,z2⟩:=HZQ.out _ (ZoR hj)
    have e:qs.getD j (Zpa,Zpa)=qs[j]:=by simp[List.getD,hj]
    rw[e]
    exact ZkY _ _ z1 z2 W
   go_wp2_with fail
   refine HCO.out.mono ?_
   rintro e w2 ⟨bb,rfl,hbb,hb⟩
   have HE2:=Zpe (HE1.out.step hb)
   clear hb r0 r1 f0 f1 p0 h0 HCO
   have r0:=HE2.out.cell 0 0 (v:=.string Zpa) rfl rfl
   have r1:=HE2.out.cell 0 1 (v:=.string Zpa) rfl rfl
   have f0:=HE2.out.free 0 0 rfl
   have f1:=HE2.out.free 0 1 rfl
   rcases hbb with ⟨rfl,j,hj,hbad⟩ | ⟨rfl,hgood⟩
   ·have HA:Hid (ZeV t qs Zpa Zpa 2):=.inl ⟨fun h=>(by
     have h1:=h.2.small j (by rw[HNP.out];exact hj)
     have h2:(!Zw 300 (qs.getD j (Zpa,Zpa)))=true:=hbad
     rw[h1] at h2
     cases h2),rfl,rfl,rfl⟩
    clear hj hbad
    go_wp2
    have HE9:=Zpe (HE2.out.fill (.string Zpa) (.string Zpa))
    have q0:=HE9.out.cell 0 0 (v:=.string Zpa) rfl rfl
    have q1:=HE9.out.cell 0 1 (v:=.string Zpa) rfl rfl
    exact Zor (v:=.tuple #[Zpb Zpa Zpa,.int .i64 2]) (by simp[results,Tryz.f21,go_sem,q0,q1]) rfl ⟨Zpa,Zpa,2,rfl,HA.out,HE9.out.base⟩
   ·have HPO:Hid (PricesOk t qs):=⟨by rw[HNP.out,HNH.out],fun u hu=>by
     have:=hgood u (by rw[<- HNP.out];exact hu)
     simpa using this⟩
    obtain⟨G,hG⟩:=Zpg w.heap.size
    have HGG:=Zpe hG
    have hGE:=HE2.out
    rw[hG] at hGE
    have hs1:G+3<=w2.heap.size:=by
     have:=hGE.lt 0 rfl
     omega
    have HTR:Hid (Calls Tryz.prog 50 #[.func (.func 64) #[] #[.pointer (some ⟨G,0,none⟩),.pointer (some ⟨G+1,0,none⟩),.pointer (some ⟨G+1+1,0,none⟩)]] w2 (ZdF (ResQ (SumE (Z7 t qs) (t.hours.length+t.sites.length)) (G+1+1)) (fun b=>b≠G+1+1) w2)):=by
     have hal:Below w2.heap.size w2 (w2.alloc (erO 0)):=(Zoq _ w2).alloc Zpf _
     have hE2:=hGE.step hal
     refine Zds (enters_of Tryz.func64 Zb rfl) (fun b hb=>by show b≠G+1+1;omega) (fun n W W'=>ResQ.stay Za n W W') ?_
     have hbw:Below w.heap.size w (w2.alloc (erO 0)):=HE2.out.base.trans (hal.mono HE2.out.own)
     exact Zkk (hE2.block 2 rfl) (hE2.block 1 rfl) (hE2.block 0 rfl) (HT.out.below hbw Zpf) (HQ.out.after hbw Zpf) HOK.out HPO.out
    rw[hG] at r0 r1 f0 f1 ⊢
    clear hgood hGE r0 r1 f0 f1 hG
    go_wp2_with fail
    refine HTR.out.mono ?_
    rintro e w3 ⟨n,rfl,⟨x,y,hxy,hS⟩,hk⟩
    have HA:Hid (ZeV t qs x y n):=.inr ⟨⟨HOK.out,HPO.out⟩,hS⟩
    have HXY:=Zpe hxy
    have HB2:Zo8 w w3:=HE2.out.base.trans (hk.below_of (fun b hb=>by have:=HGG.out;show b≠G+1+1;omega) HE2.out.own)
    clear hS hk HTR
    have r0:=Zn HXY.out 0 (v:=.string x) rfl
    have r1:=Zn HXY.out 1 (v:=.string y) rfl
    have f0:=Zo HXY.out 0
    have f1:=Zo HXY.out 1
    clear hxy
    go_wp2
    obtain⟨q0,q1⟩:=Zu HXY.out (.string x) (.string y)
    exact Zor (v:=.tuple #[Zpb x y,.int .i64 n]) (by simp[results,Tryz.f21,go_sem,q0,q1]) rfl ⟨x,y,n,rfl,HA.out,Zs HB2.out (by have:=HGG.out;omega) (.string x) (.string y)⟩
  ·have hli:¬ (np:Int)=(nh:Int):=Za
   have HA:Hid (ZeV t qs Zpa Zpa 2):=.inl ⟨fun h=>hlen (by rw[<- HNP.out,<- HNH.out];exact h.2.len),rfl,rfl,rfl⟩
   go_wp2
   all_goals try (refine⟨(fun _ h=>by cases h),?_⟩)
   all_goals try go_wp2
   have HE9:=Zpe (HE1.out.fill (.string Zpa) (.string Zpa))
   have q0:=HE9.out.cell 0 0 (v:=.string Zpa) rfl rfl
   have q1:=HE9.out.cell 0 1 (v:=.string Zpa) rfl rfl
   exact Zor (v:=.tuple #[Zpb Zpa Zpa,.int .i64 2]) (by simp[results,Tryz.f21,go_sem,q0,q1]) rfl ⟨Zpa,Zpa,2,rfl,HA.out,HE9.out.base⟩
theorem Zlp:(Tryz.prog.info? 138).map (fun i=>(i.zero,i.size,i.bytes))=some (some (.agg #[.string Zpa,.string Zpa,.string Zpa,.string Zpa]),4,64):=Zb
def Zbi:List BB->List Value
 | []=>[]
 | b::l=>.string b.1.1::.string b.1.2::.string b.2.1::.string b.2.2::Zbi l
theorem ZhS (a b:List BB):Zbi (a++b)=Zbi a++Zbi b:=by
 induction a with
 | nil=>rfl
 | cons s a ih=>simp[Zbi,ih]
theorem ZhB:∀ (l:List BB) (j:Nat),j<l.length->(Zbi l)[j*4]?=some (.string (bAt l j).1.1)/\(Zbi l)[j*4+1]?=some (.string (bAt l j).1.2)/\(Zbi l)[j*4+2]?=some (.string (bAt l j).2.1)/\
  (Zbi l)[j*4+3]?=some (.string (bAt l j).2.2)
 | s::l,0,_=>⟨rfl,rfl,rfl,rfl⟩
 | s::l,j+1,h=>by
  have ih:=ZhB l j (by simpa using h)
  have e:bAt (s::l) (j+1)=bAt l j:=by simp[bAt]
  rw[e]
  have e0:(j+1)*4=j*4+1+1+1+1:=Za
  simp only[Zbi,e0]
  exact ih
def OwnB (w:World) (base:Nat) (v:Value) (l:List BB):Prop:=w.ownsRow base 138 4 v l.length (Zbi l)
theorem OwnB.nil (w:World) (base:Nat):OwnB w base (.slice none 0 0) []:=World.ownsRow_nil w base _ 4
theorem OwnB.bl {w:World} {base:Nat} {v:Value} {l:List BB} (h:OwnB w base v l):BL w v l:=by
 have h0:=h
 rcases h.2 with ⟨rfl,h1⟩ | ⟨g,cap,cur,rfl,hb,hg,hle,hcap,hr⟩
 ·obtain rfl:l=[]:=ZoC h1
  exact BL.nil w
 ·refine⟨_,cap,rfl,hle,hcap,fun _=>⟨g,0,rfl,(Zo9 hg),fun j hj=>?_⟩⟩
  have h2:=ZhB l j hj
  rw[Zdz hj] at h2
  have e1:=World.ownsRow.cellAt h0 (j*4) Za
  have e2:=World.ownsRow.cellAt h0 (j*4+1) Za
  have e3:=World.ownsRow.cellAt h0 (j*4+2) Za
  have e4:=World.ownsRow.cellAt h0 (j*4+3) Za
  rw[Nat.zero_add,e1,e2,e3,e4]
  exact h2
theorem OwnB.after {w w':World} {base:Nat} {v:Value} {l:List BB} (h:OwnB w base v l) (hb:Below w.heap.size w w'):OwnB w' base v l:=by
 obtain⟨h1,h2⟩:=h
 refine⟨h1,?_⟩
 rcases h2 with h2 | ⟨g,cap,cur,rfl,hbb,hg,hr⟩
 ·exact .inl h2
 ·exact .inr ⟨g,cap,cur,rfl,hbb,by rw[hb.block g (Zo9 hg)];exact hg,hr⟩
theorem Zg6 (k:Nat) (hk:k<=9223372036854775807) (w:World) (hT:Tabs w):Calls Tryz.prog 157 #[.int .i64 (k:Nat)] w (ZV (.string (str (Lib.decDigits k))) w):=by
 refine(Tryz.strconv_Itoa (k:Nat) Za Za w hT).mono ?_
 rintro e w' ⟨rfl,n,os,rfl⟩
 refine⟨?_,Lib.below_grow _ _ Zpf _ _⟩
 rw[Lib.itoa_nonneg]
 rfl
def Zm7 (n:Int) (w:World) (e:Ending) (w':World):Prop:=
 ((¬ (1<=n/\n<=40)/\e=.returned (.tuple #[.slice none 0 0,.int .i64 2]))\/((1<=n/\n<=40)/\∃ v,e=.returned (.tuple #[v,.int .i64 0])/\OwnB w' w.heap.size v (Zal n.toNat)))/\Below w.heap.size w w'
theorem Zi3 {k:Nat} (hk:k<=40):IntKind.i64.wrap (2 ^ k:Int)=((2 ^ k:Nat):Int):=by
 have h:2 ^ k<=2 ^ 40:=ZoB Zd hk
 have e:(2:Int) ^ k=((2 ^ k:Nat):Int):=by rw[Int.natCast_pow];rfl
 rw[e]
 obtain⟨m,hm⟩:=Zpg (2 ^ k)
 rw[hm] at h ⊢
 exact Zo1 _ Za
theorem Zl8 {k:Nat} (hk:k<=40):IntKind.i64.wrap ((2 ^ k:Int)-1)=((2 ^ k-1:Nat):Int):=by
 have h:2 ^ k<=2 ^ 40:=ZoB Zd hk
 have h0:0<2 ^ k:=Nat.two_pow_pos k
 have e:(2:Int) ^ k=((2 ^ k:Nat):Int):=by rw[Int.natCast_pow];rfl
 rw[e]
 obtain⟨m,hm⟩:=Zpg (2 ^ k)
 rw[hm] at h h0 ⊢
 rw[Zo1 _ Za]
 omega
theorem ZjX {k:Nat} (hk:k<=40):2 ^ k<=9223372036854775807:=Zoz (ZoB Zd hk) Zd
theorem OwnB.snoc {w:World} {base:Nat} {v:Value} {l:List BB} {s t x y:ByteArray} (h:w.ownsRow base 138 4 v (l.length+1) (Zbi l++[.string s,.string t,.string x,.string y])):OwnB w base v (l++[((s,t),(x,y))]):=by
 unfold OwnB
 rw[ZoH,ZhS]
 exact h
theorem ZjQ (n:Int) (w:World) (hD:DetV w) (hT:Tabs w):Calls Tryz.prog 106 #[.int .i64 n] w (Zm7 n w):=by
 have HD:=Zpe hD
 have HT:=Zpe hT
 clear hD hT
 by_cases hn:1<=n/\n<=40
 ·obtain⟨n,rfl⟩:∃ m:Nat,n=m:=⟨n.toNat,Za⟩
  have hn1:1<=n/\n<=40:=Za
  have HNN:Hid ((1:Int)<=(n:Int)/\(n:Int)<=40):=hn
  have hb:(decide ((1:Int)<=(n:Int)) && decide ((n:Int)<=40))=true:=by simp;omega
  have HBT:=Zpe hb
  clear hn hb
  obtain⟨i0,hi,hz0,hz1,hz2⟩:=info_parts Zlp
  go_enter Tryz.func106,Tryz.ntmps106
  go_wp2_with fail
  refine(Zbz _ 1 40 _).mono ?_
  rintro e w2 ⟨rfl,hb⟩
  rw[HBT.out]
  have HB2:=Zpe hb
  have z0:=(HD.out.below hb Zpf).z0
  have z1:=(HD.out.below hb Zpf).z1
  clear hb
  go_wp2
  obtain⟨g,hg⟩:=Zpg w2.heap.size
  obtain⟨w3,hw3⟩:=Zpg (w2.alloc (bO ⟨#[48]⟩ ⟨#[49]⟩ ⟨#[48]⟩ ⟨#[49]⟩))
  have HB3:Zo8 w w3:=by rw[<- hw3];exact HB2.out.alloc HB2.out.size _
  have HO3:Hid (OwnB w3 w.heap.size (.slice (some ⟨g,0,none⟩) 1 1) (Zal 0)):=by
   rw[<- hw3,<- hg]
   have h:=World.ownsRow_lit w2 (base:=w.heap.size) #[.string ⟨#[48]⟩,.string ⟨#[49]⟩,.string ⟨#[48]⟩,.string ⟨#[49]⟩] 1 HB2.out.size (by simp[maxLen]) (e:=138) (size:=4) rfl
   have e:Zal 0=[Zcc]:=by
    unfold Zal
    rw[<- Zlh]
    rfl
   rw[e]
   exact h
  rw[hg,hw3]
  clear hw3 hg z0 z1 HB2
  go_loopw [4,5] (fun vo i wr=>∃ (k:Nat),i=.int .i64 ((k+1:Nat):Int)/\k<=n/\Hid (OwnB wr w.heap.size vo (Zal k))/\Zo8 w wr) (fun _ i _=>n+1-(intOf i).toNat)
  case atStart=>exact⟨0,rfl,ZoD _,HO3,HB3⟩
  case round=>
   obtain⟨k,rfl,hk,HO,HB⟩:=hrel
   by_cases hlt:k<n
   ·have h1:((k+1:Nat):Int)<=(n:Int):=Za
    have hk40:k+1<=40:=Za
    go_wp2_with fail
    refine Z0 [(true,0),(true,1),(true,2),(true,4),(true,5),(false,3),(false,6),(false,7),(false,8)] (fun _=>True) (fun _=>false)
     Zb Zb Zb (fun _ _=>rfl) Zi trivial ?_
    refine Zr _ rfl rfl (fun w' hS=>Zf) ?_
    simp only[Act.put,Zl]
    refine Zr (.int .i64 ((2 ^ (k+1):Nat):Int)) rfl rfl (fun w' hS=>by go_simp;exact(Zi3 hk40).trans (by rw[Int.natCast_pow];rfl)) ?_
    simp only[Act.put,Zl]
    refine Zr (.int .i64 ((2 ^ (k+1)-1:Nat):Int)) rfl rfl (fun w' hS=>by go_simp;exact Zl8 hk40) ?_
    simp only[Act.put,Zl]
    refine Zr _ rfl rfl (fun w' hS=>Zf) ?_
    simp only[Act.put,Zl]
    refine Zr (.int .i64 ((2 ^ (k+1):Nat):Int)) rfl rfl (fun w' hS=>by go_simp;exact(Zi3 hk40).trans (by rw[Int.natCast_pow];rfl)) ?_
    simp only[Act.put,Zl]
    have I1:=Zpe (fun W=>Zg6 (2 ^ (k+1)-1) (Zoz (Nat.sub_le _ _) (ZjX hk40)) W)
    have I2:=Zpe (fun W=>Zg6 (2 ^ (k+1)) (ZjX hk40) W)
    have I3:=Zpe (fun W=>Zg6 (k+1) Za W)
    obtain⟨x,hx⟩:=Zpg (str (Lib.decDigits (2 ^ (k+1)-1)))
    obtain⟨y,hy⟩:=Zpg (str (Lib.decDigits (2 ^ (k+1))))
    obtain⟨s,hs⟩:=Zpg (str (Lib.decDigits (k+1)))
    have HXY:Hid (Zh8 (k+1)=((s,⟨#[49]⟩),(x,y))):=by rw[<- hx,<- hy,<- hs];exact rfl
    obtain⟨n1,hn1'⟩:=Zpg (2 ^ (k+1)-1)
    obtain⟨n2,hn2'⟩:=Zpg (2 ^ (k+1))
    rw[hx,hn1'] at I1
    rw[hy,hn2'] at I2
    rw[hs] at I3
    rw[hn1',hn2']
    clear hx hy hs hn1' hn2'
    refine Zt rfl rfl fun K hK=>?_
    go_simp
    go_at_call 157
    refine(I1.out _ (HT.out.below HB.out.drew Zpf)).mono ?_
    rintro e w4 ⟨rfl,hb⟩
    have HB4:Zo8 w w4:=HB.out.drew.trans (hb.mono HB.out.size)
    have HO4:Hid (OwnB w4 w.heap.size u4 (Zal k)):=HO.out.after (((Zoq _ wr).drew).trans hb)
    refine hK _ _ (.inr trivial) ?_
    clear hK K hb
    refine Zt rfl rfl fun K hK=>?_
    go_simp
    go_at_call 157
    refine(I2.out _ (HT.out.below HB4.out Zpf)).mono ?_
    rintro e w5 ⟨rfl,hb⟩
    have HB5:Zo8 w w5:=HB4.out.trans (hb.mono HB4.out.size)
    have HO5:Hid (OwnB w5 w.heap.size u4 (Zal k)):=HO4.out.after hb
    refine hK _ _ (.inr trivial) ?_
    clear hK K hb HB4 HO4
    refine Zt rfl rfl fun K hK=>?_
    go_simp
    refine hK _ _ (.inr trivial) ?_
    clear hK K
    refine Zt rfl rfl fun K hK=>?_
    go_simp
    refine hK _ _ (.inr trivial) ?_
    clear hK K
    refine ZJ ?_
    obtain⟨po,no,co,rfl⟩:∃ p n c,u4=.slice p n c:=by
     rcases HO.out.2 with ⟨h,_⟩ | ⟨g,cap,cur,h,_⟩
     ·exact⟨_,_,_,h⟩
     ·exact⟨_,_,_,h⟩
    go_wp2_with fail
    refine(I3.out _ (HT.out.below HB5.out Zpf)).mono ?_
    rintro e w6 ⟨rfl,hb⟩
    have HB6:Zo8 w w6:=HB5.out.trans (hb.mono HB5.out.size)
    have HO6:Hid (OwnB w6 w.heap.size (.slice po no co) (Zal k)):=HO5.out.after hb
    clear hb HB5 HO5
    have hlen:(Zal k).length=k+1:=ZbQ k
    have hownA:(w6.alloc (bO s ⟨#[49]⟩ x y)).ownsRow w.heap.size 138 4 (.slice po no co) (Zal k).length (Zbi (Zal k)):=HO6.out.alloc _
    have hm1:(Zal k).length+1<=maxLen:=by rw[hlen];unfold maxLen;omega
    have hm2:((Zal k).length+1)*64<=140737488355328:=by rw[hlen];omega
    have hm3:w.heap.size<=(w6.alloc (bO s ⟨#[49]⟩ x y)).heap.size:=by have:=HB6.out.size;simp;omega
    have hnews:∀ (j:Nat) (z:Value),([.string s,.string ⟨#[49]⟩,.string x,.string y]:List Value)[j]?=some z->(w6.alloc (bO s ⟨#[49]⟩ x y)).cell? ((⟨w6.heap.size,0,none⟩:Addr).add j)=some z:=World.news_of_block (Zot w6 _)
    go_wp2_with (at_builtin;go_loud (refine ZoV _ rfl (.tmp 27) (.tmp 35) 72 rfl w.heap.size 138 i0 (.agg #[.string Zpa,.string Zpa,.string Zpa,.string Zpa]) 4 64 Tryz.underlying72 hi hz0 hz1 hz2 rfl Zd _ (Zal k).length (Zbi (Zal k)) rfl hownA ⟨w6.heap.size,0,none⟩ 1 1 [.string s,.string ⟨#[49]⟩,.string x,.string y] rfl rfl hnews (by simp[Value.oneCell']) hm1 hm2 hm3 ?_);intro v' w7 hown7 hgrow7 _)
    have HB7:Zo8 w w7:=(HB6.out.alloc HB6.out.size _).grown hgrow7 hm3 (fun z hz=>(ZoE hownA z hz).1)
    have HO7:Hid (OwnB w7 w.heap.size v' (Zal (k+1))):=by
     rw[Zkh,HXY.out]
     exact OwnB.snoc hown7
    clear hown7 hgrow7 hownA hnews hm1 hm2 hm3 hlen
    go_roundw
    case rel=>exact⟨k+1,by go_num,Za,HO7,HB7⟩
    case measure=>exact Zj
   ·obtain rfl:k=n:=Za
    have h1:¬ ((k+1:Nat):Int)<=(k:Int):=Za
    go_wp2
    exact Zor (v:=.tuple #[u4,.int .i64 0]) (by simp[results,Tryz.f106,go_sem]) rfl ⟨.inr ⟨HNN.out,u4,rfl,by rw[Int.toNat_natCast];exact HO.out⟩,HB.out⟩
 ·have HNN:=Zpe hn
  have hb:(decide ((1:Int)<=n) && decide (n<=40))=false:=by rw[Bool.and_eq_false_iff,decide_eq_false_iff_not,decide_eq_false_iff_not];omega
  have HBT:=Zpe hb
  clear hn hb
  go_enter Tryz.func106,Tryz.ntmps106
  go_wp2_with fail
  refine(Zbz _ 1 40 _).mono ?_
  rintro e w2 ⟨rfl,hb⟩
  rw[HBT.out]
  have HB2:=Zpe hb
  clear hb
  go_wp2
  exact Zor (v:=.tuple #[.slice none 0 0,.int .i64 2]) (by simp[results,Tryz.f106,go_sem]) rfl ⟨.inl ⟨HNN.out,rfl⟩,HB2.out⟩
structure Sg where
 sn:Int
 ob:Int
 li:Int
 se:Int
 wi:Int
def Zod (q:Rat) (w:World) (e:Ending) (w':World):Prop:=∃ x y,e=.returned (Zpb x y)/\IsP q x y/\Below w.heap.size w w'
theorem Zn5 (a b:Nat) (hb:0<b) (ha1:a<1000) (hb1:b<1000) (w:World) (hT:Tabs w) :
  Calls Tryz.prog 46 #[.int .i64 a,.int .i64 b] w (Zod (mkRat (a:Nat) b) w):=by
 have HT:=Zpe hT
 have HF:Hid (Fits (mkRat (a:Nat) b)):=Zkl (k:=3) hb Za Za Za Za
 have HA:Hid (0<b/\a<1000/\b<1000):=⟨hb,ha1,hb1⟩
 clear hT hb ha1 hb1
 go_enter Tryz.func46,Tryz.ntmps46
 go_wp2_with fail
 obtain⟨w1,hw1⟩:=Zpg (w.alloc (Zpc Zpa Zpa))
 rw[hw1]
 have HX1:Hid (Zv w.heap.size [Zpc Zpa Zpa] w1):=by rw[<- hw1];exact Zv.one w _
 have HB1:Zo8 w w1:=by rw[<- hw1];exact(Zoq _ w).alloc Zpf _
 clear hw1
 refine(Zhw a b Za (by have:=HA.out;omega) Za (by have:=HA.out;omega) _ (HT.out.below HB1.out Zpf)).mono ?_
 rintro e w2 ⟨x,y,n,rfl,hR,hb2⟩
 have HQ:Hid (IsP (mkRat (a:Nat) b) x y):=by
  have h3:=HA.out
  rcases hR with ⟨h,_⟩ | ⟨_,h,_⟩ | ⟨_,_,h⟩
  ·omega
  ·omega
  ·exact(h.fit HF.out).1
 have HX2:=Zpe (HX1.out.below hb2 HX1.out.lt)
 have HB2:=Zpe (HB1.out.trans (hb2.mono HB1.out.size))
 clear hb2 hR
 have HX3:=Zpe (HX2.out.alloc (Zpc x y))
 have HB3:=Zpe (HB2.out.alloc HB2.out.size (Zpc x y))
 have r0:=HX3.out.cell 0 0 (b:=w.heap.size) rfl rfl rfl
 have r1:=HX3.out.cell 0 1 (b:=w.heap.size) rfl rfl rfl
 have f0:=HX3.out.free 0 0 (b:=w.heap.size) rfl rfl
 have f1:=HX3.out.free 0 1 (b:=w.heap.size) rfl rfl
 go_wp2
 have q:=Zu (HX3.out.block 0 (b:=w.heap.size) rfl rfl) (.string x) (.string y)
 have HBQ:=Zpe (Zs HB3.out (b:=w.heap.size) Zpf (.string x) (.string y))
 obtain⟨w9,hw9⟩:=Zpg (((w2.alloc (Zpc x y)).setCell ⟨w.heap.size,0,none⟩ (.string x)).setCell ⟨w.heap.size,1,none⟩ (.string y))
 rw[hw9] at q HBQ
 obtain⟨q0,q1⟩:=q
 rw[hw9]
 clear r0 r1 f0 f1 hw9
 refine Zor (v:=Zpb x y) (by simp[results,Tryz.f46,go_sem,q0,q1]) rfl ⟨_,_,rfl,HQ.out,HBQ.out⟩
end Go.Proofs.YtmpaflidennnoaaGreatDoor
