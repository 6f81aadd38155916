/- The parts REBound, Mixed, Products, Errors, RLists, Tried, Update, Updated, PubSum, RSum, RSame, LawEPrices, LawEPricesLift. -/
import Derived.Test.YtmpaflidennnoaaGreatDoorK005
import Derived.Test.YtmpaflidennnoaaGreatDoorH17
set_option maxRecDepth 100000
set_option maxHeartbeats 8000000
set_option linter.unusedVariables false
set_option linter.unusedSimpArgs false
namespace Go.Proofs.YtmpaflidennnoaaGreatDoor
open Go.RowKit Go.Shelf
attribute [local go_sem ↓] Go.wp_at_zero Go.wp_at_succ
theorem Zlg {t:TaskP} {qs:List PP} {sv hv rv qv:Value} {w:World} (hT:TaskIn t sv hv rv w) (hz:LimT t) (hq:PL w qv qs) (hzq:LimP qs) :
  Calls Tryz.prog 38 #[.agg #[sv,hv,rv],qv] w (ZL (ZbC t qs) w):=by
 have HT:=Zpp hT
 have HZ:=Zpp hz
 have HQ:=Zpp hq
 have HZQ:=Zpp hzq
 obtain⟨ps,cs,rfl,_⟩:=hT.sites.shape rfl
 obtain⟨ph,ch,rfl,hch1,hch2⟩:=hT.hours.shape rfl
 obtain⟨pr,cr,rfl,_⟩:=hT.rates.shape rfl
 obtain⟨pp,pc,rfl,hpc1,hpc2,_⟩:=id hq
 obtain⟨N,hN⟩:=Zpr t.sites.length
 obtain⟨T,hTl⟩:=Zpr t.hours.length
 obtain⟨R,hR⟩:=Zpr t.rates.length
 obtain⟨L,hL⟩:=Zpr qs.length
 rw[hN,hTl,hR] at HT ⊢
 rw[hL] at HQ hpc1 ⊢
 rw[hTl] at hch1
 unfold maxLen at hpc2
 obtain⟨G,hG⟩:=Zpr w.heap.size
 have HGG:=Zpp hG
 have HLN:=Zpp hN
 have HLT:=Zpp hTl
 have HLL:=Zpp hL
 have HE0:Hid (Env w.heap.size w [(G+1,pObj Zpm Zpm),(G,efO (.slice ps N cs) (.slice ph T ch) (.slice pr R cr))] [] ((w.alloc (efO (.slice ps N cs) (.slice ph T ch) (.slice pr R cr))).alloc (pObj Zpm Zpm))):=((Env.start w).push _ hG.symm).push _ (by simp[hG])
 clear hT hz hq hzq hN hTl hR hL
 go_enter Tryz.func38,Tryz.ntmps38
 go_wp2_with fail
 refine(ZhN (HT.out.below HE0.out.base Zpq) HZ.out).mono ?_
 rintro e w1 ⟨r,rfl,hr,hb⟩
 have HE1:=Zpp (HE0.out.step hb)
 have HRR:=Zpp hr
 clear hb hr HE0
 try rw[hG]
 clear hG
 cases r with
 | false=>
  have HNO:Hid (¬ (TaskOk t/\PricesOk t qs)):=fun k=>by have:=HRR.out.2 k.1;cases this
  clear HRR
  have HA:Hid (ZbC t qs Zpm Zpm 2):=.inl ⟨HNO.out,rfl,rfl,rfl⟩
  have r0:=HE1.out.cell 0 0 (v:=.string Zpm) rfl rfl
  have r1:=HE1.out.cell 0 1 (v:=.string Zpm) rfl rfl
  have f0:=HE1.out.free 0 0 rfl
  have f1:=HE1.out.free 0 1 rfl
  go_wp2
  have HE9:=Zpp (HE1.out.fill (.string Zpm) (.string Zpm))
  have q0:=HE9.out.cell 0 0 (v:=.string Zpm) rfl rfl
  have q1:=HE9.out.cell 0 1 (v:=.string Zpm) rfl rfl
  exact ZoN (v:=.tuple #[Zpn Zpm Zpm,.int .i64 2]) (by simp[results,Tryz.f38,go_sem,q0,q1]) rfl ⟨Zpm,Zpm,2,rfl,HA.out,HE9.out.base⟩
 | true=>
 have HOK:Hid (TaskOk t):=HRR.out.1 rfl
 clear HRR
 have e1:=HE1.out.cell 1 1 (v:=.slice ph T ch) rfl rfl
 by_cases hLT:L=T
 rotate_left
 ·have HNO:Hid (¬ (TaskOk t/\PricesOk t qs)):=fun k=>hLT (by have:=k.2.len;rw[HLL.out,HLT.out] at this;exact this)
  have hc:((L:Int) !=(T:Int))=true:=by rw[bne_iff_ne];omega
  clear hLT
  have HA:Hid (ZbC t qs Zpm Zpm 2):=.inl ⟨HNO.out,rfl,rfl,rfl⟩
  have r0:=HE1.out.cell 0 0 (v:=.string Zpm) rfl rfl
  have r1:=HE1.out.cell 0 1 (v:=.string Zpm) rfl rfl
  have f0:=HE1.out.free 0 0 rfl
  have f1:=HE1.out.free 0 1 rfl
  go_wp2
  have HE9:=Zpp (HE1.out.fill (.string Zpm) (.string Zpm))
  have q0:=HE9.out.cell 0 0 (v:=.string Zpm) rfl rfl
  have q1:=HE9.out.cell 0 1 (v:=.string Zpm) rfl rfl
  exact ZoN (v:=.tuple #[Zpn Zpm Zpm,.int .i64 2]) (by simp[results,Tryz.f38,go_sem,q0,q1]) rfl ⟨Zpm,Zpm,2,rfl,HA.out,HE9.out.base⟩
 subst hLT
 have hc:((L:Int) !=(L:Int))=false:=Zc
 have hT8:1<=L/\L<=8:=by rw[<- HLT.out];exact HOK.out.teams
 have hN24:1<=N/\N<=24:=by rw[<- HLN.out];exact HOK.out.sites
 obtain⟨qb,qo,qc,hqv,_,_,hqb,hqat⟩:=ZcV HQ.out (by rw[HLL.out];omega)
 rw[HLL.out] at hqv
 injection hqv with x1 x2 x3
 subst x1 x3
 have HQA:Hid (∀ V,Below w.heap.size w V->∀ u,u<L->V.cell? ⟨qb,qo+u*2,none⟩=some (.string (qs.getD u (Zpm,Zpm)).1)/\V.cell? ⟨qb,qo+u*2+1,none⟩=some (.string (qs.getD u (Zpm,Zpm)).2)):=fun V hV u hu=>by
  have hu':u<qs.length:=by rw[HLL.out];exact hu
  obtain⟨a1,a2⟩:=hqat u hu'
  rw[show qs.getD u (Zpm,Zpm)=qs[u] by simp[List.getD,hu']]
  exact⟨(hV.cell (p:=⟨qb,qo+u*2,none⟩) hqb).trans a1,(hV.cell (p:=⟨qb,qo+u*2+1,none⟩) hqb).trans a2⟩
 clear hqat x2
 go_wp2_with fail
 clear e1 hc
 go_loopw [7] (fun iv wr=>∃ u:Nat,iv=.int .i64 u/\u<=L/\Hid (∀ j,j<u->Zv 300 (qs.getD j (Zpm,Zpm))=true)/\Hid (Env w.heap.size w [(G+1,pObj Zpm Zpm),(G,efO (.slice ps N cs) (.slice ph L ch) (.slice pr R cr))] [] wr)) (fun iv _=>L-(intOf iv).toNat)
 case atStart=>exact⟨0,rfl,ZoZ _,fun j h=>absurd h (Zpc _),HE1⟩
 case round=>
  clear HE1
  obtain⟨u,rfl,hu,HSM,HE⟩:=hrel
  by_cases hlt:u<L
  ·obtain⟨a1,a2⟩:=HQA.out _ HE.out.base u hlt
   have hzl:=HZQ.out (qs.getD u (Zpm,Zpm)) (by rw[show qs.getD u (Zpm,Zpm)=qs[u]'(by rw[HLL.out];exact hlt) by simp[List.getD,HLL.out,hlt]];exact Zpd _)
   obtain⟨⟨p1,p2⟩,hpp⟩:∃ z,qs.getD u (Zpm,Zpm)=z:=⟨_,rfl⟩
   rw[hpp] at a1 a2 hzl
   have HPP:=Zpp hpp
   dsimp only at a1 a2 hzl
   obtain⟨z1,z2⟩:=hzl
   have u0':(0:Int)<=(u:Int):=Za
   have u1':(u:Int)<(L:Int):=Za
   clear hpp
   go_wp2_with fail
   refine(Zd9 300 p1 p2 z1 z2 _).mono ?_
   rintro e w2 ⟨rfl,hb⟩
   have HE2:=Zpp (HE.out.step hb)
   clear hb HE a1 a2
   cases hsm:Zv 300 (p1,p2)
   ·have HNO:Hid (¬ (TaskOk t/\PricesOk t qs)):=fun k=>by
     have:=k.2.small u (by rw[HLL.out];exact hlt)
     rw[HPP.out,hsm] at this
     cases this
    clear hsm
    have HA:Hid (ZbC t qs Zpm Zpm 2):=.inl ⟨HNO.out,rfl,rfl,rfl⟩
    have r0:=HE2.out.cell 0 0 (v:=.string Zpm) rfl rfl
    have r1:=HE2.out.cell 0 1 (v:=.string Zpm) rfl rfl
    have f0:=HE2.out.free 0 0 rfl
    have f1:=HE2.out.free 0 1 rfl
    go_wp2
    have HE9:=Zpp (HE2.out.fill (.string Zpm) (.string Zpm))
    have q0:=HE9.out.cell 0 0 (v:=.string Zpm) rfl rfl
    have q1:=HE9.out.cell 0 1 (v:=.string Zpm) rfl rfl
    exact ZoN (v:=.tuple #[Zpn Zpm Zpm,.int .i64 2]) (by simp[results,Tryz.f38,go_sem,q0,q1]) rfl ⟨Zpm,Zpm,2,rfl,HA.out,HE9.out.base⟩
   ·have HS2:Hid (∀ j,j<u+1->Zv 300 (qs.getD j (Zpm,Zpm))=true):=fun j hj=>by
     rcases ZoS j u with h | h
     ·exact HSM.out j h
     ·obtain rfl:j=u:=Za
      rw[HPP.out]
      exact hsm
    clear hsm
    go_wp2
    go_roundw
    case rel=>exact⟨u+1,by go_num,Za,HS2,HE2⟩
    case measure=>exact Zj
  ·obtain rfl:u=L:=Za
   have HPO:Hid (PricesOk t qs):=⟨by rw[HLL.out,HLT.out],fun j hj=>HSM.out j (by rw[<- HLL.out];exact hj)⟩
   obtain⟨wo,hwo⟩:∃ z,z=wr:=⟨_,rfl⟩
   rw[<- hwo] at HE ⊢
   clear hwo HSM
   obtain⟨b,hb⟩:=Zpr wo.heap.size
   obtain⟨w2,hw2⟩:=Zpr (wo.alloc (smO 0))
   have HS:=Zpp (smIn HT.out HE.out.base hb hw2)
   have HR0:=Zpp (HE.out.block 0 rfl)
   have HEF:=Zpp (HE.out.block 1 rfl)
   have HEQ:Hid (Zbx b (fun V=>PL V (.slice (some ⟨qb,qo,none⟩) u pc) qs) w2):=⟨w,HQ.out,HS.out.now,HS.out.ge⟩
   obtain⟨sb,so,sc,hb',ho,hc',rb,ro,rk,cv,rq,rp,rc,es,eh,er,k1,k2,k3,hA⟩:=HS.out.task.open HOK.out
   rw[HLT.out] at eh
   injection eh with eh1 eh2 eh3
   subst eh1
   have HA:=Zpp hA
   clear hA es er k1 k2 k3 eh2 eh3 HE
   go_wp2_with fail
   refine(Za4 _).mono ?_
   rintro e w3 ⟨rfl,hb3⟩
   try rw[hw2] at hb3
   obtain⟨B0,hB0⟩:=Zpr w3.heap.size
   have HE3:=Zpp (((SmK.start HS.out.sm).step hb3).push (pObj ⟨#[48]⟩ ⟨#[49]⟩) hB0.symm)
   obtain⟨w4,hw4⟩:=Zpr (w3.alloc (pObj ⟨#[48]⟩ ⟨#[49]⟩))
   rw[hw4] at HE3
   clear hb3 hw2
   go_wp2_with fail
   try rw[hB0]
   try rw[hw4]
   try rw[hb]
   clear hB0 hw4 hb
   go_loopw [11] (fun iv wv=>∃ (k:Nat) (E:Int) (x y:ByteArray),iv=.int .i64 k/\k<=u/\Hid (VSt (Z0 t qs) (t.hours.length+t.sites.length) k E x y)/\Hid (SmK b E w2 [(B0,pObj x y)] wv)) (fun iv _=>u-(intOf iv).toNat)
   case atStart=>exact⟨0,0,_,_,rfl,ZoZ _,VSt.start _ _,HE3⟩
   case round=>
    clear HE3
    obtain⟨k,E,x,y,rfl,hk,HVS,HE⟩:=hrel
    by_cases hlt2:k<u
    ·have hkh:k<t.hours.length:=by rw[HLT.out];exact hlt2
     have hbf:Z0 t qs k=prR qs k*((eH t k:Int):Rat):=if_pos hkh
     have h48:=(HOK.out.team k (by rw[HOK.out.rates];exact hkh)).1
     obtain⟨⟨xr,yr,hxr⟩,hwz,hwn⟩:=Zde h48.1 h48.2
     have hpi:=ZgC HPO.out (u:=k) (by rw[HLL.out];exact hlt2)
     obtain⟨x8,y8,hx8⟩:=ZW (Rat.mul_nonneg hpi.1.nn hwn) (Sz.mul hpi.1.nn hwn hpi.2 hwz) Zd Zd
     rw[<- hbf] at hx8
     have HBF:=Zpp hbf
     have HVK:Hid (∀ V,Keeps (NotM b) w2 V->(V.cell? ⟨qb,qo+k*2,none⟩=some (.string (qs.getD k (Zpm,Zpm)).1)/\V.cell? ⟨qb,qo+k*2+1,none⟩=some (.string (qs.getD k (Zpm,Zpm)).2))/\V.cell? ⟨hb',ho+k,none⟩=some (.int .i64 (eH t k))/\V.heap[G]?=some (efO (.slice ps N cs) (.slice (some ⟨hb',ho,none⟩) u ch) (.slice pr R cr))):=fun V hV=>
      ⟨HQA.out V (HS.out.keep V hV).1 k hlt2,(HA.out V hV).hour k hkh,(HS.out.keep V hV).2 _ _ HEF.out⟩
     obtain⟨⟨p1,p2⟩,hpp⟩:∃ z,qs.getD k (Zpm,Zpm)=z:=⟨_,rfl⟩
     obtain⟨hh,hhh⟩:=Zpr (eH t k)
     rw[hpp,hhh] at HVK
     rw[hpp] at hpi
     rw[hhh] at h48 hxr HBF
     dsimp only at HVK hpi
     have HXR:=Zpp hxr
     have HX8:=Zpp hx8
     have HPI:=Zpp hpi.1
     have HIS:=Zpp HVS.out.is
     have H48:=Zpp h48
     have u0':(0:Int)<=(k:Int):=Za
     have u1':(k:Int)<(u:Int):=Za
     clear hbf h48 hxr hwz hwn hpi hx8 hpp hhh hkh
     go_wp2_with fail
     refine ZV [(1,0),(1,1),(1,2),(1,3),(1,4),(1,5),(1,6),(1,7),(1,8),(1,9),(1,10),(1,11),(0,12),(0,13),(1,14),(1,15),(0,16),(0,17),(1,18),(1,19),(0,20),(0,21)] (fun V=>∃ E,SmK b E w2 [(B0,pObj x y)] V) (fun i=>i==21)
      Zb Zb (fun j hj=>by have h:22<=j:=hj;simp;omega) Zi ⟨_,HE.out.drew⟩ ?_
     obtain⟨w5,hw5⟩:=Zpr wr.drew
     have HE4:=Zpp HE.out.drew
     rw[hw5] at HE4 ⊢
     clear hw5 HE
     iterate 12
      refine Zx _ rfl rfl (fun w' hS=>by obtain⟨_,hS⟩:=hS;have c0:=hS.cell 0 0 (v:=.string x) rfl rfl;have c1:=hS.cell 0 1 (v:=.string y) rfl rfl;obtain⟨⟨e0,e1⟩,e2,eg⟩:=HVK.out _ hS.base;have d1:=Zn eg 1 (v:=.slice (some ⟨hb',ho,none⟩) u ch) rfl;exact Ze) ?_
      simp only[Act.put,Zl]
     refine Zy 89 _ rfl rfl Zf ?_
     have HEC:=HE4
     refine(ZgR H48.out.1 H48.out.2 HXR.out _).mono ?_
     rintro e w5 ⟨rfl,hb⟩
     have HE5:=Zpp (HEC.out.step hb)
     refine .inl ⟨_,rfl,⟨_,HE5.out⟩,?_⟩
     clear hb HEC
     simp only[Act.put,Zl]
     refine Zy 86 _ rfl rfl Zf ?_
     have HEC:=HE5
     refine(Zdy HPI.out HXR.out HX8.out HBF.out.symm _).mono ?_
     rintro e w6 ⟨rfl,hb⟩
     have HE6:=Zpp (HEC.out.step hb)
     refine .inl ⟨_,rfl,⟨_,HE6.out⟩,?_⟩
     clear hb HEC
     simp only[Act.put,Zl]
     iterate 2
      refine Zx _ rfl rfl (fun w' hS=>Ze) ?_
      simp only[Act.put,Zl]
     refine Zy 84 _ rfl rfl Zf ?_
     have HEC:=HE6
     refine(ZfA HX8.out HEC.out.sm).mono ?_
     rintro e w7 ⟨x7,y7,hx7,rfl,hb⟩
     have HE7:=Zpp (HEC.out.call hb)
     refine .inl ⟨_,rfl,⟨_,HE7.out⟩,?_⟩
     clear hb HEC
     simp only[Act.put,Zl]
     have HX7:=Zpp hx7
     clear hx7
     refine Zy 88 _ rfl rfl Zf ?_
     have HEC:=HE7
     refine(ZiC HIS.out HX7.out _).mono ?_
     rintro e w8 ⟨x9,y9,n9,rfl,hA9,hb⟩
     have HE8:=Zpp (HEC.out.step hb)
     refine .inl ⟨_,rfl,⟨_,HE8.out⟩,?_⟩
     clear hb HEC
     simp only[Act.put,Zl]
     obtain⟨x6,y6,E6,he1,he2,hvs⟩:=HVS.out.step (by rw[HLT.out];omega) hA9
     have hdo:=Zfv x9 y9 n9 HE8.out.sm
     rw[he1,he2] at hdo
     have HVS6:=Zpp hvs
     have HDO:=Zpp hdo
     clear hA9 he1 he2 hvs hdo
     iterate 2
      refine Zx _ rfl rfl (fun w' hS=>Ze) ?_
      simp only[Act.put,Zl]
     refine Zy 84 _ rfl rfl Zf ?_
     have HEC:=HE8
     refine(HDO.out).mono ?_
     rintro e w9 ⟨rfl,hb⟩
     have HE9:=Zpp (HEC.out.call hb)
     refine .inl ⟨_,rfl,⟨_,HE9.out⟩,?_⟩
     clear hb HEC
     simp only[Act.put,Zl]
     have r0:=HE9.out.cell 0 0 rfl rfl
     have r1:=HE9.out.cell 0 1 rfl rfl
     have f0:=HE9.out.free 0 0 rfl
     have f1:=HE9.out.free 0 1 rfl
     refine ZB rfl rfl fun K hK=>?_
     go_simp
     have HE10:=Zpp (HE9.out.fill (.string x6) (.string y6))
     refine hK _ _ (.inl rfl) ?_
     clear hK K r0 r1 f0 f1
     refine ZD ?_
     clear HE4 HE5 HE6 HE7 HE8 HE9
     go_wp2
     go_roundw
     case rel=>exact⟨k+1,E6,x6,y6,by go_num,Za,HVS6,HE10⟩
     case measure=>exact Zj
    ·obtain rfl:k=u:=Za
     go_wp2_with fail
     go_loopw [12] (fun iv wv=>∃ (i:Nat) (E:Int) (x y:ByteArray),iv=.int .i64 i/\i<=N/\Hid (VSt (Z0 t qs) (t.hours.length+t.sites.length) (k+i) E x y)/\Hid (SmK b E w2 [(B0,pObj x y)] wv)) (fun iv _=>N-(intOf iv).toNat)
     case atStart=>exact⟨0,E,x,y,rfl,ZoZ _,HVS,HE⟩
     case round=>
      clear HE HVS
      obtain⟨i,E,x,y,rfl,hi',HVS,HE⟩:=hrel
      have g0:=(HS.out.keep _ HE.out.base).2 _ _ HEF.out
      have d0:=Zn g0 0 (v:=.slice ps N cs) rfl
      have c0:=HE.out.cell 0 0 (v:=.string x) rfl rfl
      have c1:=HE.out.cell 0 1 (v:=.string y) rfl rfl
      by_cases hlt3:i<N
      ·have hil:i<t.sites.length:=by rw[HLN.out];exact hlt3
       have hsur:∀ s,SurR t qs i s->Z0 t qs (k+i)=s:=fun s hs=>by
        unfold Z0
        rw[HLT.out,if_neg Za,Nat.add_sub_cancel_left]
        exact Zfw hs
       have HSF:=Zpp hsur
       have HSC:=Zpp (fun V (hV:Keeps (NotM b) w2 V) (hs:V.heap[b]?=some (smO E))=>Ziy (HS.out.task.keep hV) (HEQ.out.keep hV) hs HOK.out HPO.out hil)
       have HEG:Hid (∀ V,Keeps (NotM b) w2 V->V.heap[G]?=some (efO (.slice ps N cs) (.slice (some ⟨hb',ho,none⟩) k ch) (.slice pr R cr))):=fun V hV=>(HS.out.keep V hV).2 _ _ HEF.out
       have HIS:=Zpp HVS.out.is
       clear hsur hil
       go_wp2_with fail
       clear g0 d0 c0 c1
       refine ZV [(1,0),(1,1),(1,2),(1,3),(1,4),(1,5),(0,6),(0,7),(1,8),(1,9),(0,10),(0,11)] (fun V=>∃ E,SmK b E w2 [(B0,pObj x y)] V) (fun i=>i==11)
        Zb Zb (fun j hj=>by have h:12<=j:=hj;simp;omega) Zi ⟨_,HE.out.drew⟩ ?_
       obtain⟨w5,hw5⟩:=Zpr wr.drew
       have HE4:=Zpp HE.out.drew
       rw[hw5] at HE4 ⊢
       clear hw5 HE
       iterate 6
        refine Zx _ rfl rfl (fun w' hS=>by obtain⟨_,hS⟩:=hS;have c0:=hS.cell 0 0 (v:=.string x) rfl rfl;have c1:=hS.cell 0 1 (v:=.string y) rfl rfl;have eg:=HEG.out _ hS.base;have d0:=Zn eg 0 (v:=.slice ps N cs) rfl;have d1:=Zn eg 1 (v:=.slice (some ⟨hb',ho,none⟩) k ch) rfl;have d2:=Zn eg 2 (v:=.slice pr R cr) rfl;exact Ze) ?_
        simp only[Act.put,Zl]
       refine Zy 90 _ rfl rfl Zf ?_
       have HEC:=HE4
       refine(HSC.out _ HEC.out.base HEC.out.sm).mono ?_
       rintro e w5 ⟨s,x7,y7,hsr,hx7,rfl,hb⟩
       have HE5:=Zpp (HEC.out.call hb)
       refine .inl ⟨_,rfl,⟨_,HE5.out⟩,?_⟩
       clear hb HEC
       simp only[Act.put,Zl]
       have HX7:Hid (IsP (zq E (Z0 t qs (k+i))) x7 y7):=by rw[HSF.out s hsr];exact hx7
       clear hx7 hsr
       refine Zy 88 _ rfl rfl Zf ?_
       have HEC:=HE5
       refine(ZiC HIS.out HX7.out _).mono ?_
       rintro e w6 ⟨x9,y9,n9,rfl,hA9,hb⟩
       have HE6:=Zpp (HEC.out.step hb)
       refine .inl ⟨_,rfl,⟨_,HE6.out⟩,?_⟩
       clear hb HEC
       simp only[Act.put,Zl]
       obtain⟨x6,y6,E6,he1,he2,hvs⟩:=HVS.out.step (by rw[HLT.out,HLN.out];omega) hA9
       have hdo:=Zfv x9 y9 n9 HE6.out.sm
       rw[he1,he2] at hdo
       have HVS6:=Zpp hvs
       have HDO:=Zpp hdo
       clear hA9 he1 he2 hvs hdo
       iterate 2
        refine Zx _ rfl rfl (fun w' hS=>Ze) ?_
        simp only[Act.put,Zl]
       refine Zy 84 _ rfl rfl Zf ?_
       have HEC:=HE6
       refine(HDO.out).mono ?_
       rintro e w7 ⟨rfl,hb⟩
       have HE7:=Zpp (HEC.out.call hb)
       refine .inl ⟨_,rfl,⟨_,HE7.out⟩,?_⟩
       clear hb HEC
       simp only[Act.put,Zl]
       have r0:=HE7.out.cell 0 0 rfl rfl
       have r1:=HE7.out.cell 0 1 rfl rfl
       have f0:=HE7.out.free 0 0 rfl
       have f1:=HE7.out.free 0 1 rfl
       refine ZB rfl rfl fun K hK=>?_
       go_simp
       have HE8:=Zpp (HE7.out.fill (.string x6) (.string y6))
       refine hK _ _ (.inl rfl) ?_
       clear hK K r0 r1 f0 f1
       refine ZD ?_
       clear HE4 HE5 HE6 HE7
       go_wp2
       go_roundw
       case rel=>exact⟨i+1,E6,x6,y6,by go_num,Za,HVS6,HE8⟩
       case measure=>exact Zj
      ·obtain rfl:i=N:=Za
       have HSM:=Zpp HE.out.sm
       have HA9:Hid (ZbC t qs (if E=0 then x else Zpm) (if E=0 then y else Zpm) E):=.inr ⟨⟨HOK.out,HPO.out⟩,by
        have h:=HVS.out
        rw[<- HLT.out,<- HLN.out] at h
        exact h.sum⟩
       obtain⟨x',hx'⟩:∃ z,(if E=0 then x else Zpm)=z:=⟨_,rfl⟩
       obtain⟨y',hy'⟩:∃ z,(if E=0 then y else Zpm)=z:=⟨_,rfl⟩
       have HND:=Zpp (Zlq x y HE.out.sm)
       rw[hx',hy'] at HA9 HND
       clear hx' hy'
       go_wp2_with fail
       refine HND.out.mono ?_
       rintro e w6 ⟨rfl,hb6⟩
       obtain⟨hbv,hgv⟩:=HS.out.keep w6 (HE.out.base.trans (hb6.keepsS _))
       have q9:=hgv _ _ HR0.out
       have r0:=Zn q9 0 (v:=.string Zpm) rfl
       have r1:=Zn q9 1 (v:=.string Zpm) rfl
       have f0:=Zo q9 0
       have f1:=Zo q9 1
       have HBV:=Zpp hbv
       have HG0:=Zpp q9
       clear hbv hgv q9 hb6 g0 d0 c0 c1 HND
       go_wp2
       obtain⟨q0,q1⟩:=Zt HG0.out (.string x') (.string y')
       exact ZoN (v:=.tuple #[Zpn x' y',.int .i64 E]) (by simp[results,Tryz.f38,go_sem,q0,q1]) rfl ⟨x',y',E,rfl,HA9.out,Zs HBV.out (by have:=HGG.out;omega) (.string x') (.string y')⟩
section
variable {P:Program} {ops:Array Oper} {Q:Exit->Act->World->Prop} {md:Region.Mode} {S:World->Prop} {bar:Nat->Bool}
end
theorem PL.put {w w':World} {v:Value} {us:List PP} {B:Nat} (h:Own w B v us) (hk:∀ g,B<=g->g<w.heap.size->w'.heap[g]?=w.heap[g]?):PL w' v us:=by
 refine(h.kept fun g hg hv=>hk g hg ?_).pl
 exact(Zo0 h g hv).2
theorem PL.at1 {w:World} {p:Option Addr} {n cap:Nat} {ps:List PP} (h:PL w (.slice p n cap) ps) {k:Nat} (hk:k<ps.length) :
  ∃ b off,p=some ⟨b,off,none⟩/\b<w.heap.size/\∀ W,Below w.heap.size w W->
   W.cell? ⟨b,off+k*2,none⟩=some (.string ps[k].1)/\W.cell? ⟨b,off+k*2+1,none⟩=some (.string ps[k].2):=by
 obtain⟨p',c',hv,_,_,h4⟩:=h
 injection hv with e1 e2 e3
 subst e1
 obtain⟨b,off,rfl,hb,hat⟩:=h4 (ZoU Za)
 exact⟨b,off,rfl,hb,fun W hW=>(hat.below hW hb) k hk⟩
theorem ZnC {u v:Value} {ps:List PP} {w:World} (hu:PL w u ps) (hv:PL w v ps):Calls Tryz.prog 33 #[u,v] w (Zab w true):=by
 obtain⟨p1,c1,rfl,hc1,hm1,hp1⟩:=id hu
 obtain⟨p2,c2,rfl,hc2,hm2,hp2⟩:=id hv
 obtain⟨n,hn⟩:=Zpr ps.length
 rw[hn] at hu hv hc1 hc2 ⊢
 unfold maxLen at hm1 hm2
 have HU:=Zpp hu
 have HV:=Zpp hv
 have HN:=Zpp hn
 clear hu hv hn hp1 hp2
 go_enter Tryz.func33,Tryz.ntmps33
 go_wp2
 go_loopw [5] (fun vi wr=>∃ (k:Nat),vi=.int .i64 k/\k<=n/\Zpk w wr) (fun vi _=>n-(intOf vi).toNat)
 case atStart=>exact⟨0,rfl,ZoZ _,ZoM _ _⟩
 case round=>
  obtain⟨k,rfl,hk,HB⟩:=hrel
  obtain⟨wy,rfl⟩:∃ wy:World,wy=wr:=⟨_,rfl⟩
  by_cases hlt:k<n
  ·have hkp:k<ps.length:=by rw[HN.out];exact hlt
   obtain⟨b1,o1,rfl,hb1,hat1⟩:=HU.out.at1 hkp
   obtain⟨b2,o2,rfl,hb2,hat2⟩:=HV.out.at1 hkp
   obtain⟨e0,e1⟩:=hat1 wy HB.out
   obtain⟨d0,d1⟩:=hat2 wy HB.out
   obtain⟨s,hs⟩:=Zpr (ps[k].1)
   obtain⟨t,ht⟩:=Zpr (ps[k].2)
   rw[hs] at e0 d0
   rw[ht] at e1 d1
   have i0:(0:Int)<=(k:Int):=Za
   have i1:(k:Int)<(n:Int):=Za
   clear hat1 hat2 hs ht hkp
   go_wp2_with fail
   go_region
   clear e0 e1 d0 d1
   obtain⟨w8,hw8⟩:=Zpr wy.drew
   have HB8:Zpk w w8:=by rw[<- hw8];exact HB.out.drew
   rw[hw8]
   clear hw8
   go_wp2
   go_roundw
   case rel=>exact⟨k+1,by go_num,Za,HB8⟩
   case measure=>exact Zj
  ·go_wp2
   go_ret
   exact⟨rfl,HB.out⟩
def Zcf (many most:Nat) (ps:List PP):Bool:=decide (many<ps.length) || ps.any fun p=>decide (most<p.1.size) || decide (most<p.2.size)
theorem ZhI {many most:Nat} {ps:List PP} {k:Nat} (hk:k<ps.length) (h:most<ps[k].1.size\/most<ps[k].2.size):Zcf many most ps=true:=by
 unfold Zcf
 rw[Bool.or_eq_true]
 refine .inr (List.any_eq_true.2 ⟨ps[k],Zpd hk,?_⟩)
 simpa using h
theorem ZnA {many most:Nat} {ps:List PP} (hl:ps.length<=many) (h:∀ j (hj:j<ps.length),ps[j].1.size<=most/\ps[j].2.size<=most):Zcf many most ps=false:=by
 unfold Zcf
 rw[Bool.or_eq_false_iff]
 refine⟨decide_eq_false Za,?_⟩
 rw[List.any_eq_false]
 intro p hp
 obtain⟨j,hj,rfl⟩:=List.getElem_of_mem hp
 have:=h j hj
 simp;omega
theorem Znt {many most:Nat} {ps:List PP} (h:Zcf many most ps=false):ps.length<=many/\∀ p ∈ ps,p.1.size<=most/\p.2.size<=most:=by
 unfold Zcf at h
 rw[Bool.or_eq_false_iff] at h
 refine⟨by have:=of_decide_eq_false h.1;omega,fun p hp=>?_⟩
 have:=(List.any_eq_false.1 h.2) p hp
 simp at this
 omega
theorem ZmS (many most:Nat) (hm:most<=100000) (hm2:many<=100000) {v:Value} {ps:List PP} {w:World} (hv:PL w v ps) :
  Calls Tryz.prog 35 #[v,.int .i64 many,.int .i64 most] w fun e w'=>e=.returned (.bool (Zcf many most ps))/\w=w':=by
 obtain⟨p1,c1,rfl,hc1,hm1,hp1⟩:=id hv
 obtain⟨n,hn⟩:=Zpr ps.length
 rw[hn] at hv hc1 ⊢
 unfold maxLen at hm1
 have HV:=Zpp hv
 have HN:=Zpp hn
 clear hv hp1
 by_cases g1:many<n
 ·have g1':(many:Int)<(n:Nat):=Za
  have HQ:Hid (Zcf many most ps=true):=by show _=_;unfold Zcf;rw[decide_eq_true (by rw[HN.out];exact g1)];rfl
  clear g1 hn
  go_enter Tryz.func35,Tryz.ntmps35
  go_wp2
  go_ret
  exact⟨by rw[HQ.out];rfl,rfl⟩
 have g1':¬ (many:Int)<(n:Nat):=Za
 clear hn
 go_enter Tryz.func35,Tryz.ntmps35
 go_wp2
 go_loop [7] (fun vi=>∃ (k:Nat),vi=.int .i64 k/\k<=n/\Hid (∀ j (hj:j<ps.length),j<k->ps[j].1.size<=most/\ps[j].2.size<=most)) (fun vi=>n-(intOf vi).toNat)
 case atStart=>exact⟨0,rfl,ZoZ _,fun j _ h=>Za⟩
 case round=>
  obtain⟨k,rfl,hk,HK⟩:=hrel
  by_cases hlt:k<n
  ·have hkp:k<ps.length:=by rw[HN.out];exact hlt
   have HKP:=Zpp hkp
   obtain⟨b1,o1,rfl,hb1,hat1⟩:=HV.out.at1 hkp
   obtain⟨e0,e1⟩:=hat1 w (ZoM _ w)
   obtain⟨s,t,hst⟩:∃ s t,ps[k]'hkp=(s,t):=⟨_,_,rfl⟩
   rw[hst] at e0 e1
   dsimp only at e0 e1
   have HST:Hid ((ps[k]'HKP.out).1=s/\(ps[k]'HKP.out).2=t):=by
    have h2:ps[k]'HKP.out=(s,t):=hst
    rw[h2];exact⟨rfl,rfl⟩
   have i0:(0:Int)<=(k:Int):=Za
   have i1:(k:Int)<(n:Int):=Za
   clear hat1 hst
   by_cases q1:most<s.size
   ·have q1':(most:Int)<s.size:=Za
    have HQ:Hid (Zcf many most ps=true):=ZhI HKP.out (.inl (by rw[HST.out.1];exact q1))
    clear q1
    go_wp2
    go_ret
    exact⟨by rw[HQ.out];rfl,rfl⟩
   ·have q1':¬ (most:Int)<s.size:=Za
    have q1'':decide ((most:Int)<s.size)=false:=decide_eq_false q1'
    by_cases q2:most<t.size
    ·have q2':(most:Int)<t.size:=Za
     have HQ:Hid (Zcf many most ps=true):=ZhI HKP.out (.inr (by rw[HST.out.2];exact q2))
     clear q1 q2
     go_wp2
     go_ret
     exact⟨by rw[HQ.out];rfl,rfl⟩
    ·have q2':¬ (most:Int)<t.size:=Za
     have HK2:Hid (∀ j (hj:j<ps.length),j<k+1->ps[j].1.size<=most/\ps[j].2.size<=most):=fun j h1 h2=>by
      rcases ZoS j k with h3 | h3
      ·exact HK.out j h1 h3
      ·obtain rfl:j=k:=Za
       rw[HST.out.1,HST.out.2];omega
     clear q1 q2
     go_wp2
     go_round
     case rel=>exact⟨k+1,by go_num,Za,HK2⟩
     case measure=>exact Zj
  ·have HQ:Hid (Zcf many most ps=false):=ZnA (by rw[HN.out];omega) fun j hj=>HK.out j hj (by rw[HN.out] at hj;omega)
   go_wp2
   go_ret
   exact⟨by rw[HQ.out];rfl,rfl⟩
theorem ZfQ {t:TaskP} {p:List (List Int)} {w w':World} {e:Ending} (h:Zhg t p w e w'):∃ (qs:List PP) (v:Value) (n:Int),e=.returned (.tuple #[v,.int .i64 n])/\PL w' v qs/\((¬ PlanOk t p/\qs=[]/\n=2)\/(PlanOk t p/\ZbB t p qs/\n=0))/\Below w.heap.size w w':=by
 obtain⟨h,hb⟩:=h
 rcases h with ⟨h1,rfl⟩ | ⟨h1,qs,v,h2,h3,rfl⟩
 ·exact⟨[],_,_,rfl,⟨none,0,rfl,Nat.le_refl _,by simp[maxLen],Zc⟩,.inl ⟨h1,rfl,rfl⟩,hb⟩
 ·exact⟨qs,v,_,rfl,h3.pl,.inr ⟨h1,h2,rfl⟩,hb⟩
theorem ZbC.det {t:TaskP} {qs:List PP} {x y u v:ByteArray} {n m:Int} (h:ZbC t qs x y n) (g:ZbC t qs u v m):x=u/\y=v/\n=m:=by
 rcases h with ⟨h,rfl,rfl,rfl⟩ | ⟨h,h1⟩<;>rcases g with ⟨g,rfl,rfl,rfl⟩ | ⟨g,g1⟩
 ·exact⟨rfl,rfl,rfl⟩
 ·exact absurd g h
 ·exact absurd h g
 ·exact h1.det g1
theorem ZlC {t:TaskP} {p:List (List Int)} {qs:List PP} {sv hv rv pv qv:Value} {w:World} (hT:TaskIn t sv hv rv w) (hI:IIL w pv p) (hq:PL w qv qs) :
  Calls Tryz.prog 7 #[.agg #[sv,hv,rv],pv,qv] w (Zab w true):=by
 have HI:=Zpp hI
 have HPQ:=Zpp hq
 obtain⟨pl,pll,pcl,rfl,_⟩:∃ a b c,pv=.slice a b c/\True:=by obtain⟨a,c,h,_⟩:=hI;exact⟨_,_,_,h,trivial⟩
 obtain⟨ql,qll,qcl,rfl,_⟩:∃ a b c,qv=.slice a b c/\True:=by obtain⟨a,c,h,_⟩:=hq;exact⟨_,_,_,h,trivial⟩
 clear hI hq
 obtain⟨ps,cs,rfl,_⟩:=hT.sites.shape rfl
 obtain⟨ph,ch,rfl,_⟩:=hT.hours.shape rfl
 obtain⟨pr,cr,rfl,_⟩:=hT.rates.shape rfl
 obtain⟨ns,hns⟩:=Zpr t.sites.length
 obtain⟨nh,hnh⟩:=Zpr t.hours.length
 obtain⟨nr,hnr⟩:=Zpr t.rates.length
 rw[hns,hnh,hnr] at hT ⊢
 have HT:=Zpp hT
 have HNS:=Zpp hns
 have HNH:=Zpp hnh
 obtain⟨w1,hw1⟩:=Zpr (w.alloc (efO (.slice ps ns cs) (.slice ph nh ch) (.slice pr nr cr)))
 obtain⟨G,hG⟩:=Zpr w.heap.size
 have HG:=Zpp hG
 have HE1:Hid (Env w.heap.size w [(G,efO (.slice ps ns cs) (.slice ph nh ch) (.slice pr nr cr))] [] w1):=by rw[<- hw1];exact(Env.start w).push _ hG.symm
 clear hT hns hnh hnr
 go_enter Tryz.func7,Tryz.ntmps7
 have c0:=HE1.out.cell 0 0 (v:=.slice ps ns cs) rfl rfl
 have c1:=HE1.out.cell 0 1 (v:=.slice ph nh ch) rfl rfl
 have c2:=HE1.out.cell 0 2 (v:=.slice pr nr cr) rfl rfl
 go_wp2_with fail
 refine(ZlJ (HT.out.below HE1.out.base Zpq) 6 3 60 Zd Zd Zd).mono ?_
 rintro e w3 ⟨r,rfl,hS,hb⟩
 have HE3:=Zpp (HE1.out.step hb)
 clear hb HE1 c0 c1 c2 hw1 hG
 cases r with
 | true=>
  have hTa:=HT.out.below HE3.out.base Zpq
  go_wp2_with fail
  refine(Zds _ hTa.det hTa.tabs hTa.eff).mono ?_
  rintro e w19 ⟨rfl,hb⟩
  have HE19:=Zpp (HE3.out.step hb)
  clear hb
  go_wp2
  exact ZoN (by simp[results,Tryz.f7,go_sem]) rfl ⟨rfl,HE19.out.base⟩
 | false=>
  have HZ:=Zpp (hS rfl).lim
  clear hS
  go_wp2_with fail
  refine(Zm4 (IIL.stay2 HI.out HE3.out.base Zpq)).mono ?_
  rintro e w4 ⟨r,rfl,hW,hb⟩
  have HE4:=Zpp (HE3.out.step hb)
  clear hb HE3 hW
  cases r with
  | true=>
   have hTa:=HT.out.below HE4.out.base Zpq
   go_wp2_with fail
   refine(Zds _ hTa.det hTa.tabs hTa.eff).mono ?_
   rintro e w19 ⟨rfl,hb⟩
   have HE19:=Zpp (HE4.out.step hb)
   clear hb
   go_wp2
   exact ZoN (by simp[results,Tryz.f7,go_sem]) rfl ⟨rfl,HE19.out.base⟩
  | false=>
   go_wp2_with fail
   refine(ZmS 12 310 Zd Zd (HPQ.out.after HE4.out.base Zpq)).mono ?_
   rintro e w5 ⟨rfl,rfl⟩
   cases hlb:Zcf 12 310 qs with
   | true=>
    have hTa:=HT.out.below HE4.out.base Zpq
    go_wp2_with fail
    refine(Zds _ hTa.det hTa.tabs hTa.eff).mono ?_
    rintro e w19 ⟨rfl,hb⟩
    have HE19:=Zpp (HE4.out.step hb)
    clear hb
    go_wp2
    exact ZoN (by simp[results,Tryz.f7,go_sem]) rfl ⟨rfl,HE19.out.base⟩
   | false=>
    have HZQ:Hid (LimP qs):=fun z hz=>by
     have:=(Znt hlb).2 z hz
     omega
    clear hlb
    have c0:=HE4.out.cell 0 0 (v:=.slice ps ns cs) rfl rfl
    have c1:=HE4.out.cell 0 1 (v:=.slice ph nh ch) rfl rfl
    have c2:=HE4.out.cell 0 2 (v:=.slice pr nr cr) rfl rfl
    go_wp2_with fail
    refine(ZjI (HT.out.below HE4.out.base Zpq) HZ.out (IIL.stay2 HI.out HE4.out.base Zpq)).mono ?_
    rintro e w5 hA
    obtain⟨l1,v1,n1,rfl,hv1,hq1,hb⟩:=ZfQ hA
    obtain⟨a1,b1,d1,rfl⟩:∃ a b c,v1=.slice a b c:=by obtain⟨a,c,h,_⟩:=hv1;exact⟨_,_,_,h⟩
    have HE5:=Zpp (HE4.out.step hb)
    have HV1:=Zpp hv1
    have HQ1:=Zpp hq1
    clear hb hA hv1 hq1 c0 c1 c2 HE4
    have c0:=HE5.out.cell 0 0 (v:=.slice ps ns cs) rfl rfl
    have c1:=HE5.out.cell 0 1 (v:=.slice ph nh ch) rfl rfl
    have c2:=HE5.out.cell 0 2 (v:=.slice pr nr cr) rfl rfl
    go_wp2_with fail
    refine(Zj2 (HT.out.below HE5.out.base Zpq) HZ.out (IIL.stay2 HI.out HE5.out.base Zpq)).mono ?_
    rintro e w6 hA
    obtain⟨l2,v2,n2,rfl,hv2,hq2,hb⟩:=ZfQ hA
    obtain⟨a2,b2,d2,rfl⟩:∃ a b c,v2=.slice a b c:=by obtain⟨a,c,h,_⟩:=hv2;exact⟨_,_,_,h⟩
    have hqq:l2=l1/\n2=n1:=by
     rcases HQ1.out with ⟨a1,rfl,rfl⟩ | ⟨a1,a2,rfl⟩<;>rcases hq2 with ⟨b1,rfl,rfl⟩ | ⟨b1,b2,rfl⟩
     ·exact⟨rfl,rfl⟩
     ·exact absurd b1 a1
     ·exact absurd a1 b1
     ·exact⟨b2.det a2,rfl⟩
    obtain⟨rfl,rfl⟩:=hqq
    have HE6:=Zpp (HE5.out.step hb)
    have HVV:Hid (∀ V,Below w6.heap.size w6 V->PL V (.slice a1 b1 d1) l2/\PL V (.slice a2 b2 d2) l2):=fun V hV=>⟨(HV1.out.after hb Zpq).after hV Zpq,hv2.after hV Zpq⟩
    clear hb hA hv2 hq2 c0 c1 c2 HE5 HV1 HQ1
    have c0:=HE6.out.cell 0 0 (v:=.slice ps ns cs) rfl rfl
    have c1:=HE6.out.cell 0 1 (v:=.slice ph nh ch) rfl rfl
    have c2:=HE6.out.cell 0 2 (v:=.slice pr nr cr) rfl rfl
    go_wp2_with fail
    refine(Zgj (HT.out.below HE6.out.base Zpq) HZ.out (HPQ.out.after HE6.out.base Zpq) HZQ.out).mono ?_
    rintro e w7 ⟨x,y,n3,rfl,hA,hb⟩
    have HA1:=Zpp hA
    obtain⟨A,hAs⟩:=Zpr w7.heap.size
    obtain⟨w8,hw8⟩:=Zpr (w7.alloc (pObj x y))
    have HE8:=Zpp ((HE6.out.step hb).push (pObj x y) hAs.symm)
    have HB8:Zpk w6 w8:=by rw[<- hw8];exact hb.trans (((ZoM _ w7).alloc Zpq _).mono hb.size)
    rw[hw8] at HE8
    clear hA hb HE6 c0 c1 c2
    have c0:=HE8.out.cell 1 0 (v:=.slice ps ns cs) rfl rfl
    have c1:=HE8.out.cell 1 1 (v:=.slice ph nh ch) rfl rfl
    have c2:=HE8.out.cell 1 2 (v:=.slice pr nr cr) rfl rfl
    go_wp2_with fail
    try rw[hw8]
    try rw[hAs]
    clear hw8 hAs
    refine(Zlg (HT.out.below HE8.out.base Zpq) HZ.out (HPQ.out.after HE8.out.base Zpq) HZQ.out).mono ?_
    rintro e w9 ⟨u,v,n4,rfl,hA,hb⟩
    obtain⟨rfl,rfl,rfl⟩:=hA.det HA1.out
    obtain⟨B,hBs⟩:=Zpr w9.heap.size
    obtain⟨w10,hw10⟩:=Zpr (w9.alloc (pObj u v))
    have HE10:=Zpp ((HE8.out.step hb).push (pObj u v) hBs.symm)
    have HB10:Zpk w6 w10:=by
     rw[<- hw10]
     exact HB8.out.trans ((hb.trans (((ZoM _ w9).alloc Zpq _).mono hb.size)).mono HB8.out.size)
    rw[hw10] at HE10
    clear hA hb HE8 c0 c1 c2 HB8 HA1
    have hnn:(n2==n2)=true:=Zc
    go_wp2_with fail
    try rw[hw10]
    try rw[hBs]
    clear hw10 hBs
    refine(ZnC (HVV.out _ HB10.out).1 (HVV.out _ HB10.out).2).mono ?_
    rintro e w11 ⟨rfl,hb⟩
    have HE11:=Zpp (HE10.out.step hb)
    have d0:=HE11.out.cell 1 0 (v:=.string u) rfl rfl
    have d1:=HE11.out.cell 1 1 (v:=.string v) rfl rfl
    have e0:=HE11.out.cell 0 0 (v:=.string u) rfl rfl
    have e1:=HE11.out.cell 0 1 (v:=.string v) rfl rfl
    clear hb HE10
    go_wp2_with fail
    refine(ZnF u v n4 _).mono ?_
    rintro e w12 ⟨rfl,hb⟩
    have HE12:=Zpp (HE11.out.step hb)
    clear hb HE11 d0 d1 e0 e1
    have hTa:=HT.out.below HE12.out.base Zpq
    go_wp2_with fail
    refine(Zds _ hTa.det hTa.tabs hTa.eff).mono ?_
    rintro e w19 ⟨rfl,hb⟩
    have HE19:=Zpp (HE12.out.step hb)
    clear hb
    go_wp2
    exact ZoN (by simp[results,Tryz.f7,go_sem]) rfl ⟨rfl,HE19.out.base⟩
end Go.Proofs.YtmpaflidennnoaaGreatDoor
namespace Go.Proofs.YtmpaflidennnoaaGreatDoor
open Go.ChangeShapes Go.WideShapes Go.ChangeAt Go.RowKit
theorem Zh7 (os:Os) (started:os.Started) (H:Type) (enc:TypeId×Value->H) :
  ReturnsInHanded {} Tryz.checked os 7 .any (fun w args=>(Rows.effortPricesSpec.pre enc Tryz.prog Tryz.f7 Rows.effortPricesRow.domain false w args/\laidMetH Tryz.prog Zbk w)/\sizedMet enc Tryz.prog Tryz.f7 (OpenSpec.ofChange Rows.effortPricesSpec) false w args)
   (Rows.effortPricesSpec.post enc Tryz.prog Tryz.f7 false true false false):=by
 refine returnsInHanded_of_change_and (C:=Tryz.checked) (X:=fun w _=>laidMetH Tryz.prog Zbk w) (fun _ _ _ hh h=>h.of_heap hh) Znj started Zb Tryz.func7
  (ChangeSpec.witness_shaped (enc:=enc) (C:=Tryz.checked) (os:=os) (X:=fun w _=>laidMetH Tryz.prog Zbk w) false (World.laidAll Tryz.prog os Zbk) #[.agg #[.slice none 0 0,.slice none 0 0,.slice none 0 0],.slice none 0 0,.slice none 0 0] 8 (World.laidAll_os _ _ _)
   (World.shaped_of_ZipB Zb Zb) Zb Zb Zb (met9 os _)) ?_
 intro W base args ds gs before hval0 hW hc _ hL _
 have hval:∀ (j:Nat) t v,Tryz.f7.params[j]?=some t->args[j]?=some v->Value.okWide Tryz.prog W .any base t v:=hval0
 have hW':=hW
 obtain⟨p,q,hA0,hV,rfl,_,_⟩:=hW
 have hA:DataW.TrodAll enc Tryz.prog W 0 (fun _=>true) true Tryz.f7.params.toList args.toList ds p:=hA0
 rw[Tryz.params7] at hA hval
 obtain⟨v0,v1,v2,d0,d1,d2,p0,p1,p2,rfl,rfl,rfl,h0,h1,h2⟩:=trodAll_three hA
 obtain⟨rfl,rfl⟩:=trodVars_none hV
 obtain⟨t0,x0,y0,z0,rfl,hT0⟩:=ZnW (hval 0 _ v0 rfl rfl) h0 hL
 obtain⟨n1,hn1⟩:=ZmX (hval 1 _ v1 rfl rfl) h1
 obtain⟨q2,hq2⟩:=ZkO (hval 2 _ v2 rfl rfl) h2
 clear hA0 hval0
 simp only[List.append_nil] at hW'
 refine(ZlC hT0 hn1 hq2).mono fun e W' ⟨he,bel⟩=>?_
 subst he
 have nx:∀ x ∈ ([]:List MemPlace),x.block<W.heap.size:=fun _ h=>by cases h
 have hlt0:∀ x ∈ p0,x.block<W.heap.size:=fun x hx=>by first | (have:=hW'.lt x hx;simpa using this) | (have:=hW'.lt x (by simp[hx]);simpa using this)
 have hlt1:∀ x ∈ p1,x.block<W.heap.size:=fun x hx=>by first | (have:=hW'.lt x hx;simpa using this) | (have:=hW'.lt x (by simp[hx]);simpa using this)
 have hlt2:∀ x ∈ p2,x.block<W.heap.size:=fun x hx=>by first | (have:=hW'.lt x hx;simpa using this) | (have:=hW'.lt x (by simp[hx]);simpa using this)
 refine⟨_,rfl,_,_,_,[],p0++p1++p2,[],hW',?_,?_,?_,bel.frame _,fun h=>by cases h⟩
 ·exact trodAll_mk1 (shut_bool Tryz.underlying4 _)
 ·have h9:=trodAll_mk3 (Below.trod ZfX Zb (of_decide_eq_true Zb) h0 bel hlt0) (Below.trod ZfX Zb (of_decide_eq_true Zb) h1 bel hlt1) (Below.trod ZfX Zb (of_decide_eq_true Zb) h2 bel hlt2)
  first | exact h9 | (simp only[List.append_nil,List.nil_append] at h9;exact h9) | (simp only[<- List.append_assoc,List.append_nil,List.nil_append] at h9;exact h9) | (simpa using h9)
 ·rfl
end Go.Proofs.YtmpaflidennnoaaGreatDoor
