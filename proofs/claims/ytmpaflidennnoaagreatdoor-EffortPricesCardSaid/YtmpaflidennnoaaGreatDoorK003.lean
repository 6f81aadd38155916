/- The parts REGain, RETask, REPlan, EGainX, REVals. -/
import Derived.Test.YtmpaflidennnoaaGreatDoorK002
import Derived.Test.YtmpaflidennnoaaGreatDoorH16
set_option maxRecDepth 100000
set_option maxHeartbeats 4000000
set_option linter.unusedVariables false
set_option linter.unusedSimpArgs false
namespace Go.Proofs.YtmpaflidennnoaaGreatDoor
open Go.RowKit Go.Shelf
attribute [local go_sem ↓] Go.wp_at_zero Go.wp_at_succ
theorem Zlq (s t:ByteArray) {b:Nat} {n:Int} {w:World} (h:w.heap[b]?=some (smO n)) :
  Calls Tryz.prog 74 #[.pointer (some ⟨b,0,none⟩),pV s t] w (ZZ (.tuple #[pV (if n=0 then s else Zpm) (if n=0 then t else Zpm),.int .i64 n]) w):=by
 have hbl:=Zin h
 have HE0:Hid (Env w.heap.size w [(w.heap.size+1,pObj Zpm Zpm),(w.heap.size,pObj s t)] [] ((w.alloc (pObj s t)).alloc (pObj Zpm Zpm))):=((Env.start w).push _ rfl).push _ Zc
 have HB:Hid (∀ V,Below w.heap.size w V->V.cell? ⟨b,0,none⟩=some (.int .i64 n)):=fun V hV=>(hV.cell hbl).trans (Zn h 0 rfl)
 have b0:=HB.out _ HE0.out.base
 have d0:=HE0.out.cell 1 0 (v:=.string s) rfl rfl
 have d1:=HE0.out.cell 1 1 (v:=.string t) rfl rfl
 have r0:=HE0.out.cell 0 0 (v:=.string Zpm) rfl rfl
 have r1:=HE0.out.cell 0 1 (v:=.string Zpm) rfl rfl
 have f0:=HE0.out.free 0 0 rfl
 have f1:=HE0.out.free 0 1 rfl
 clear h
 by_cases hn:n=0
 ·subst hn
  rw[if_pos rfl,if_pos rfl]
  have HE2:Hid (Env w.heap.size w [(w.heap.size+1,pObj s t),(w.heap.size,pObj s t)] [] ((w.alloc (pObj s t)).alloc (pObj s t))):=((Env.start w).push _ rfl).push _ Zc
  go_enter Tryz.func74,Tryz.ntmps74
  go_wp2
  have q0:=HE2.out.cell 0 0 (v:=.string s) rfl rfl
  have q1:=HE2.out.cell 0 1 (v:=.string t) rfl rfl
  exact ZoN (v:=.tuple #[pV s t,.int .i64 0]) (by simp[results,Tryz.f74,go_sem,q0,q1]) rfl ⟨rfl,HE2.out.base⟩
 ·rw[if_neg hn,if_neg hn]
  have h1:(n !=0)=true:=by rw[bne_iff_ne];exact hn
  clear hn
  go_enter Tryz.func74,Tryz.ntmps74
  go_wp2_with fail
  go_region_held3
   (fun w'=>w'.cell? ⟨b,0,none⟩=some (.int .i64 n))
   (first | exact b0 | exact(Zdh _ _ _ Za _).trans b0)
   (first | fail)
  all_goals
   have HE9:=Zpp HE0.out.drew
   have q0:=HE9.out.cell 0 0 (v:=.string Zpm) rfl rfl
   have q1:=HE9.out.cell 0 1 (v:=.string Zpm) rfl rfl
   go_wp2
   exact ZoN (v:=.tuple #[pV Zpm Zpm,.int .i64 n]) (by simp[results,Tryz.f74,go_sem,q0,q1]) rfl ⟨rfl,HE9.out.base⟩
def AskB (P:Prop) (w:World) (e:Ending) (w':World):Prop:=∃ r:Bool,e=.returned (.bool r)/\(r=true<->P)/\Below w.heap.size w w'
theorem Zbp {P:Prop} (h:¬ P):(false=true<->P):=⟨fun h2=>(by cases h2),fun h2=>absurd h2 h⟩
theorem Zfr {a b x:Int} (h:¬ (a<=x/\x<=b)):(decide (a<=x) && decide (x<=b))=false:=by
 rw[<- Bool.not_eq_true]
 simp only[Bool.and_eq_true,decide_eq_true_eq]
 exact h
theorem ZeG {a b x:Int} (h:a<=x/\x<=b):(decide (a<=x) && decide (x<=b))=true:=by simp;exact h
theorem ZhN {t:TaskP} {sv hv rv:Value} {w:World} (h:TaskIn t sv hv rv w) (hz:LimT t) :
  Calls Tryz.prog 52 #[.agg #[sv,hv,rv]] w (AskB (TaskOk t) w):=by
 obtain⟨N,hN⟩:=Zpr t.sites.length
 obtain⟨T,hT⟩:=Zpr t.hours.length
 obtain⟨R,hR⟩:=Zpr t.rates.length
 obtain⟨ps,cs,rfl,hs1,hs2⟩:=h.sites.shape hN
 obtain⟨ph,ch,rfl,hh1,hh2⟩:=h.hours.shape hT
 obtain⟨pr,cr,rfl,hr1,hr2⟩:=h.rates.shape hR
 have HT:=Zpp h
 have HZ:=Zpp hz
 have HN:=Zpp hN
 have HTT:=Zpp hT
 have HR:=Zpp hR
 have HE0:Hid (Env w.heap.size w [(w.heap.size,efO (.slice ps N cs) (.slice ph T ch) (.slice pr R cr))] [] (w.alloc (efO (.slice ps N cs) (.slice ph T ch) (.slice pr R cr)))):=(Env.start w).push _ rfl
 clear h hz hN hT hR
 have b0:=HE0.out.cell 0 0 (v:=.slice ps N cs) rfl rfl
 have b1:=HE0.out.cell 0 1 (v:=.slice ph T ch) rfl rfl
 have b2:=HE0.out.cell 0 2 (v:=.slice pr R cr) rfl rfl
 go_enter Tryz.func52,Tryz.ntmps52
 go_wp2_with fail
 refine(ZeD N 1 24 _).mono ?_
 rintro e w1 ⟨rfl,hb⟩
 have HE1:=Zpp (HE0.out.step hb)
 clear hb HE0 b0 b1 b2
 by_cases hA:1<=N/\N<=24
 rotate_left
 ·have HNO:Hid (¬ TaskOk t):=fun k=>hA (by have:=k.sites;rw[HN.out] at this;exact this)
  rw[Zfr Za]
  clear hA
  go_wp2
  exact ZoN (v:=.bool false) (by simp[results,Tryz.f52,go_sem]) rfl ⟨false,rfl,Zbp (HNO.out),HE1.out.base⟩
 rw[ZeG Za]
 have b0:=HE1.out.cell 0 0 (v:=.slice ps N cs) rfl rfl
 have b1:=HE1.out.cell 0 1 (v:=.slice ph T ch) rfl rfl
 have b2:=HE1.out.cell 0 2 (v:=.slice pr R cr) rfl rfl
 go_wp2_with fail
 refine(ZeD T 1 8 _).mono ?_
 rintro e w2 ⟨rfl,hb⟩
 have HE2:=Zpp (HE1.out.step hb)
 clear hb HE1 b0 b1 b2
 by_cases hB:1<=T/\T<=8
 rotate_left
 ·have HNO:Hid (¬ TaskOk t):=fun k=>hB (by have:=k.teams;rw[HTT.out] at this;exact this)
  rw[Zfr Za]
  clear hB
  go_wp2
  exact ZoN (v:=.bool false) (by simp[results,Tryz.f52,go_sem]) rfl ⟨false,rfl,Zbp (HNO.out),HE2.out.base⟩
 rw[ZeG Za]
 have b0:=HE2.out.cell 0 0 (v:=.slice ps N cs) rfl rfl
 have b1:=HE2.out.cell 0 1 (v:=.slice ph T ch) rfl rfl
 have b2:=HE2.out.cell 0 2 (v:=.slice pr R cr) rfl rfl
 by_cases hC:R=T
 rotate_left
 ·have HNO:Hid (¬ TaskOk t):=fun k=>hC (by have:=k.rates;rw[HR.out,HTT.out] at this;exact this)
  have hc:((R:Int) !=(T:Int))=true:=by rw[bne_iff_ne];omega
  clear hC
  go_wp2
  exact ZoN (v:=.bool false) (by simp[results,Tryz.f52,go_sem]) rfl ⟨false,rfl,Zbp (HNO.out),HE2.out.base⟩
 subst hC
 have hc:((R:Int) !=(R:Int))=false:=Zc
 go_wp2_with fail
 clear b0 b1 b2 hc
 go_loopw [3] (fun iv wr=>∃ k:Nat,iv=.int .i64 k/\k<=N/\Hid (∀ i,i<k->Zv 9 (eS t i).weight=true/\CurveP (eS t i).curve)/\Hid (Env w.heap.size w [(w.heap.size,efO (.slice ps N cs) (.slice ph R ch) (.slice pr R cr))] [] wr)) (fun iv _=>N-(intOf iv).toNat)
 case atStart=>exact⟨0,rfl,ZoZ _,fun i h=>absurd h (Zpc _),HE2⟩
 case round=>
  obtain⟨k,rfl,hk,HK,HE⟩:=hrel
  clear HE2
  have b0:=HE.out.cell 0 0 (v:=.slice ps N cs) rfl rfl
  have b1:=HE.out.cell 0 1 (v:=.slice ph R ch) rfl rfl
  have b2:=HE.out.cell 0 2 (v:=.slice pr R cr) rfl rfl
  by_cases hlt:k<N
  ·obtain⟨sb,so,rfl,hsb,hat⟩:=HT.out.sites.at ZcQ.stays HN.out Za
   have hkl:k<t.sites.length:=by rw[HN.out];exact hlt
   have HAT:Hid (∀ V,Below w.heap.size w V->ZcQ V sb (so+k*3) (eS t k)):=fun V hV=>by rw[<- ZeV hkl];exact hat V hV k hkl
   obtain⟨e0,e1,v,e2,hbl⟩:=HAT.out wr HE.out.base
   obtain⟨⟨hz1,hz2⟩,hzb⟩:=HZ.out.1 _ (Zpd hkl)
   rw[ZeV hkl] at hz1 hz2 hzb
   obtain⟨⟨s1,t1⟩,hs1'⟩:∃ z,(eS t k).weight=z:=⟨_,rfl⟩
   rw[hs1'] at e0 e1 hz1 hz2
   have HSW:=Zpp hs1'
   have HZB:=Zpp hzb
   dsimp only at e0 e1 hz1 hz2
   have i0':(0:Int)<=(k:Int):=Za
   have i1':(k:Int)<(N:Int):=Za
   clear hat hbl hzb hs1' e2
   go_wp2_with fail
   refine(Zd9 9 s1 t1 hz1 hz2 _).mono ?_
   rintro e w4 ⟨rfl,hb⟩
   have HE4:=Zpp (HE.out.step hb)
   clear hb e0 e1 b0 b1 b2 HE
   obtain⟨_,_,v,e2,hbl⟩:=HAT.out w4 HE4.out.base
   obtain⟨pq,cq,rfl,_⟩:=id hbl
   obtain⟨nq,hnq⟩:=Zpr ((eS t k).curve.length)
   rw[hnq] at e2 hbl
   have b0:=HE4.out.cell 0 0 (v:=.slice (some ⟨sb,so,none⟩) N cs) rfl rfl
   obtain⟨r1,hr1⟩:=Zpr (Zv 9 (s1,t1))
   rw[hr1]
   have HBL:=Zpp hbl
   have HSM:=Zpp hr1
   clear hnq hr1 hbl
   go_wp2_with fail
   refine(ZgH HBL.out HZB.out).mono ?_
   rintro e w5 ⟨r2,rfl,hr2,hb⟩
   have HE5:=Zpp (HE4.out.step hb)
   have HR2:=Zpp hr2
   clear hb e2 b0 HE4 hr2
   cases r1 with
   | false=>
    have HNO:Hid (¬ TaskOk t):=fun h=>by
     have:=(h.site k (by rw[HN.out];exact hlt)).1
     rw[HSW.out,HSM.out] at this
     cases this
    go_wp2
    exact ZoN (v:=.bool false) (by simp[results,Tryz.f52,go_sem]) rfl ⟨false,rfl,Zbp (HNO.out),HE5.out.base⟩
   | true=>
    cases r2 with
    | false=>
     have HNO:Hid (¬ TaskOk t):=fun h=>by
      have:=HR2.out.2 (h.site k (by rw[HN.out];exact hlt)).2
      cases this
     go_wp2
     exact ZoN (v:=.bool false) (by simp[results,Tryz.f52,go_sem]) rfl ⟨false,rfl,Zbp (HNO.out),HE5.out.base⟩
    | true=>
     have HK2:Hid (∀ i,i<k+1->Zv 9 (eS t i).weight=true/\CurveP (eS t i).curve):=fun i hi=>by
      rcases ZoS i k with h | h
      ·exact HK.out i h
      ·obtain rfl:i=k:=Za
       exact⟨by rw[HSW.out];exact HSM.out,HR2.out.1 rfl⟩
     go_wp2
     go_roundw
     case rel=>exact⟨k+1,by go_num,Za,HK2,HE5⟩
     case measure=>exact Zj
  ·have hkN:k=N:=Za
   have HSI:Hid (∀ i,i<N->Zv 9 (eS t i).weight=true/\CurveP (eS t i).curve):=by rw[<- hkN];exact HK.out
   clear HK hkN
   go_wp2_with fail
   clear b0 b1 b2
   go_loopw [6] (fun iv wr=>∃ u:Nat,iv=.int .i64 u/\u<=R/\Hid (∀ v (h:v<t.rates.length),v<u->(0<=eH t v/\eH t v<=48)/\t.rates[v].length=N/\∀ i,i<N->Zv 9 (eR t v i)=true)/\Hid (Env w.heap.size w [(w.heap.size,efO (.slice ps N cs) (.slice ph R ch) (.slice pr R cr))] [] wr)) (fun iv _=>R-(intOf iv).toNat)
   case atStart=>exact⟨0,rfl,ZoZ _,fun v _ h=>absurd h (Zpc _),HE⟩
   case round=>
    clear HE
    obtain⟨u,rfl,hu,HU,HE⟩:=hrel
    by_cases hlt2:u<R
    ·obtain⟨rb,ro,rfl,hrb,hrat⟩:=HT.out.rates.at PPL.stays HR.out Za
     obtain⟨hb',ho,rfl,hhb,hhat⟩:=HT.out.hours.at IntR.stays HTT.out Za
     have hul:u<t.rates.length:=by rw[HR.out];exact hlt2
     have hul2:u<t.hours.length:=by rw[HTT.out];exact hlt2
     obtain⟨q,g1,g2⟩:=hrat w (ZoM _ w) u hul
     rw[Nat.mul_one] at g1
     obtain⟨l,hl⟩:=Zpr (t.rates[u].length)
     obtain⟨pl,cl,rfl,_,_,_⟩:=id g2
     rw[hl] at g1 g2
     have HL:=Zpp hl
     have HRA:Hid (∀ V,Below w.heap.size w V->V.cell? ⟨rb,ro+u,none⟩=some (.slice pl l cl)/\PL V (.slice pl l cl) t.rates[u]):=fun V hV=>⟨(hV.cell hrb).trans g1,g2.after hV Zpq⟩
     have HHA:Hid (∀ V,Below w.heap.size w V->V.cell? ⟨hb',ho+u,none⟩=some (.int .i64 (eH t u))):=fun V hV=>by
      have e1:=hhat _ hV u hul2
      unfold IntR at e1
      rw[Nat.mul_one,ZiX hul2] at e1
      exact e1
     have HZL:=Zpp (HZ.out.2 _ (Zpd hul))
     obtain⟨hh,hhh⟩:=Zpr (eH t u)
     rw[hhh] at HHA
     have HHH:=Zpp hhh
     have i0':(0:Int)<=(u:Int):=Za
     have i1':(u:Int)<(R:Int):=Za
     clear hrat hhat hhh g1 g2 hl
     have b0:=HE.out.cell 0 0 (v:=.slice ps N cs) rfl rfl
     have b1:=HE.out.cell 0 1 (v:=.slice (some ⟨hb',ho,none⟩) R ch) rfl rfl
     have b2:=HE.out.cell 0 2 (v:=.slice (some ⟨rb,ro,none⟩) R cr) rfl rfl
     go_wp2_with fail
     refine ZV [(1,0),(1,1),(1,2),(1,3),(1,4),(0,5),(1,6),(1,7),(1,8),(1,9),(1,10),(1,11),(1,12),(1,13),(1,14),(1,15),(1,16),(1,17),(1,18)] (Env w.heap.size w [(w.heap.size,efO (.slice ps N cs) (.slice (some ⟨hb',ho,none⟩) R ch) (.slice (some ⟨rb,ro,none⟩) R cr))] []) (fun _=>false)
      Zb Zb (fun j hj=>rfl) Zi HE.out.drew ?_
     obtain⟨w4,hw4⟩:=Zpr wr.drew
     have HE4:=Zpp HE.out.drew
     rw[hw4] at HE4 ⊢
     clear hw4 HE
     iterate 5
      refine Zx _ rfl rfl (fun w' hS=>by have b1:=hS.cell 0 1 (v:=.slice (some ⟨hb',ho,none⟩) R ch) rfl rfl;have e1:=HHA.out _ hS.base;exact Ze) ?_
      simp only[Act.put,Zl]
     refine Zy 79 _ rfl rfl Zf ?_
     have HEC:=HE4
     refine(ZeD hh 0 48 _).mono ?_
     rintro e w5 ⟨rfl,hb⟩
     have HE5:=Zpp (HEC.out.step hb)
     refine .inl ⟨_,rfl,HE5.out,?_⟩
     clear hb HEC
     simp only[Act.put,Zl]
     by_cases hw:0<=hh/\hh<=48
     rotate_left
     ·have HNO:Hid (¬ TaskOk t):=fun h=>hw (by have:=(h.team u hul).1;rw[HHH.out] at this;exact this)
      rw[Zfr hw]
      clear hw
      iterate 2
       refine Zx _ rfl rfl (fun w' hS=>Ze) ?_
       simp only[Act.put,Zl]
      iterate 10
       refine Zcp rfl rfl ?_
       simp only[Act.put,Zl]
      iterate 1
       refine Zx _ rfl rfl (fun w' hS=>Ze) ?_
       simp only[Act.put,Zl]
      refine ZD ?_
      go_wp2
      exact ZoN (v:=.bool false) (by simp[results,Tryz.f52,go_sem]) rfl ⟨false,rfl,Zbp (HNO.out),HE5.out.base⟩
     rw[ZeG hw]
     iterate 13
      refine Zx _ rfl rfl (fun w' hS=>by have b0:=hS.cell 0 0 (v:=.slice ps N cs) rfl rfl;have b2:=hS.cell 0 2 (v:=.slice (some ⟨rb,ro,none⟩) R cr) rfl rfl;have e2:=(HRA.out _ hS.base).1;exact Ze) ?_
      simp only[Act.put,Zl]
     refine ZD ?_
     by_cases hD:l=N
     rotate_left
     ·have HNO:Hid (¬ TaskOk t):=fun h=>hD (by have:=(h.team u hul).2.1;rw[HL.out,HN.out] at this;exact this)
      have hc:((l:Int) !=(N:Int))=true:=by rw[bne_iff_ne];omega
      clear hD
      go_wp2
      exact ZoN (v:=.bool false) (by simp[results,Tryz.f52,go_sem]) rfl ⟨false,rfl,Zbp (HNO.out),HE5.out.base⟩
     subst hD
     have hc:((l:Int) !=(l:Int))=false:=Zc
     rw[hc]
     obtain⟨c,o,_,hv9,_,_,hcl,hpat⟩:=ZcV (HRA.out _ (ZoM _ w)).2 (by rw[HL.out];omega)
     injection hv9 with x1 x2 x3
     subst x1
     have HPA:Hid (∀ V,Below w.heap.size w V->PAt V c o t.rates[u]):=fun V hV=>hpat.below hV hcl
     clear HE4 hpat x2 x3
     clear hc
     go_wp2_with fail
     go_loopw [7] (fun iv wx=>∃ i:Nat,iv=.int .i64 i/\i<=l/\Hid (∀ j,j<i->Zv 9 (eR t u j)=true)/\Hid (Env w.heap.size w [(w.heap.size,efO (.slice ps l cs) (.slice (some ⟨hb',ho,none⟩) R ch) (.slice (some ⟨rb,ro,none⟩) R cr))] [] wx)) (fun iv _=>l-(intOf iv).toNat)
     case atStart=>exact⟨0,rfl,ZoZ _,fun j h=>absurd h (Zpc _),HE5⟩
     case round=>
      clear HE5
      obtain⟨i,rfl,hi,HI,HE⟩:=hrel
      have b0:=HE.out.cell 0 0 (v:=.slice ps l cs) rfl rfl
      have b2:=HE.out.cell 0 2 (v:=.slice (some ⟨rb,ro,none⟩) R cr) rfl rfl
      by_cases hlt3:i<l
      ·have hil:i<t.rates[u].length:=by rw[HL.out];exact hlt3
       obtain⟨e2,_⟩:=HRA.out _ HE.out.base
       obtain⟨f0,f1⟩:=HPA.out _ HE.out.base i hil
       have hzz:=HZL.out _ (Zpd hil)
       rw[ZgD hul hil] at f0 f1 hzz
       obtain⟨⟨s1,t1⟩,hs1'⟩:∃ z,eR t u i=z:=⟨_,rfl⟩
       rw[hs1'] at f0 f1 hzz
       have HRR:=Zpp hs1'
       dsimp only at f0 f1 hzz
       obtain⟨hz1,hz2⟩:=hzz
       have j0':(0:Int)<=(i:Int):=Za
       have j1':(i:Int)<(l:Int):=Za
       clear hs1'
       go_wp2_with fail
       refine(Zd9 9 s1 t1 hz1 hz2 _).mono ?_
       rintro e w6 ⟨rfl,hb⟩
       have HE6:=Zpp (HE.out.step hb)
       clear hb e2 f0 f1 b0 b2 HE
       cases hsm:Zv 9 (s1,t1)
       ·have HNO:Hid (¬ TaskOk t):=fun h=>by
         have h3:=(h.team u hul).2.2 i (by rw[HN.out];exact hlt3)
         rw[HRR.out,hsm] at h3
         cases h3
        clear hsm
        go_wp2
        exact ZoN (v:=.bool false) (by simp[results,Tryz.f52,go_sem]) rfl ⟨false,rfl,Zbp (HNO.out),HE6.out.base⟩
       ·have HI2:Hid (∀ j,j<i+1->Zv 9 (eR t u j)=true):=fun j hj=>by
         rcases ZoS j i with h | h
         ·exact HI.out j h
         ·obtain rfl:j=i:=Za
          rw[HRR.out]
          exact hsm
        clear hsm
        go_wp2
        go_roundw
        case rel=>exact⟨i+1,by go_num,Za,HI2,HE6⟩
        case measure=>exact Zj
      ·have HU2:Hid (∀ v (h:v<t.rates.length),v<u+1->(0<=eH t v/\eH t v<=48)/\t.rates[v].length=l/\∀ i,i<l->Zv 9 (eR t v i)=true):=fun v hv hvu=>by
        rcases ZoS v u with h | h
        ·exact HU.out v hv h
        ·obtain rfl:v=u:=Za
         exact⟨by rw[HHH.out];exact hw,HL.out,fun j hj=>HI.out j Za⟩
       clear hw
       go_wp2
       go_roundw
       case rel=>exact⟨u+1,by go_num,Za,HU2,HE⟩
       case measure=>exact Zj
    ·have HYES:Hid (TaskOk t):=by
      have huR:u=R:=Za
      refine⟨by rw[HN.out];exact hA,by rw[HTT.out];exact hB,by rw[HR.out,HTT.out],fun i hi=>HSI.out i (by rw[<- HN.out];exact hi),fun v hv=>?_⟩
      obtain⟨h1,h2,h3⟩:=HU.out v hv (by rw[huR,<- HR.out];exact hv)
      exact⟨h1,by rw[HN.out];exact h2,fun i hi=>h3 i (by rw[<- HN.out];exact hi)⟩
     have b0:=HE.out.cell 0 0 (v:=.slice ps N cs) rfl rfl
     have b1:=HE.out.cell 0 1 (v:=.slice ph R ch) rfl rfl
     have b2:=HE.out.cell 0 2 (v:=.slice pr R cr) rfl rfl
     go_wp2
     exact ZoN (v:=.bool true) (by simp[results,Tryz.f52,go_sem]) rfl ⟨true,rfl,⟨fun _=>HYES.out,fun _=>rfl⟩,HE.out.base⟩
theorem Zi4 {t:TaskP} (ok:TaskOk t) {u i:Nat} (hu:u<t.rates.length) (hi:i<t.sites.length):((eR t u i).1.toList==[48])=decide (rR t u i=0):=by
 obtain⟨_,_,ho⟩:=Zaj.1 ((ok.team u hu).2.2 i hi)
 obtain⟨a1,a2,a3⟩:=Za7 ho
 have hz:=Zc0 (Zcx.1 ho).1
 by_cases h:rR t u i=0
 ·rw[decide_eq_true h]
  have h0:Zq (eR t u i).1.data.toList=0:=by
   rw[a2]
   show (rR t u i).num.toNat=0
   rw[h]
   rfl
  rw[hz.2 h0,Zo9]
  rfl
 ·rw[decide_eq_false h,beq_eq_false_iff_ne,Zo9]
  intro hc
  have h1:Zq (eR t u i).1.data.toList=0:=by rw[hc];rfl
  rw[a2] at h1
  have h2:0<=(rR t u i).num:=Rat.num_nonneg.2 a1
  exact h (Rat.num_eq_zero.1 (by have h3:(rR t u i).num.toNat=0:=h1;omega))
theorem ZmP {t:TaskP} {p:List (List Int)} {sv hv rv pv:Value} {w:World} (h:TaskIn t sv hv rv w) (hz:LimT t) (hI:IIL w pv p) :
  Calls Tryz.prog 72 #[.agg #[sv,hv,rv],pv] w (AskB (PlanOk t p) w):=by
 obtain⟨N,hN⟩:=Zpr t.sites.length
 obtain⟨H,hH⟩:=Zpr t.hours.length
 obtain⟨R,hR⟩:=Zpr t.rates.length
 obtain⟨T,hT⟩:=Zpr p.length
 obtain⟨ps,cs,rfl,hs1,hs2⟩:=h.sites.shape hN
 obtain⟨ph,ch,rfl,hh1,hh2⟩:=h.hours.shape hH
 obtain⟨pr,cr,rfl,hr1,hr2⟩:=h.rates.shape hR
 obtain⟨pp,cp,rfl,hp1,hp2⟩:=hI.shape hT
 have HT:=Zpp h
 have HZ:=Zpp hz
 have HP:=Zpp hI
 have HN:=Zpp hN
 have HHL:=Zpp hH
 have HRL:=Zpp hR
 have HTL:=Zpp hT
 have HE0:Hid (Env w.heap.size w [(w.heap.size,efO (.slice ps N cs) (.slice ph H ch) (.slice pr R cr))] [] (w.alloc (efO (.slice ps N cs) (.slice ph H ch) (.slice pr R cr)))):=(Env.start w).push _ rfl
 clear h hz hN hH hR hT hI
 go_enter Tryz.func72,Tryz.ntmps72
 go_wp2_with fail
 refine(ZhN (HT.out.below HE0.out.base Zpq) HZ.out).mono ?_
 rintro e w1 ⟨r,rfl,hr,hb⟩
 have HE1:=Zpp (HE0.out.step hb)
 have HRR:=Zpp hr
 clear hb hr HE0
 cases r with
 | false=>
  have HNO:Hid (¬ PlanOk t p):=fun k=>by have:=HRR.out.2 k.task;cases this
  go_wp2
  exact ZoN (v:=.bool false) (by simp[results,Tryz.f72,go_sem]) rfl ⟨false,rfl,Zbp (HNO.out),HE1.out.base⟩
 | true=>
 have HOK:Hid (TaskOk t):=HRR.out.1 rfl
 have b1:=HE1.out.cell 0 1 (v:=.slice ph H ch) rfl rfl
 by_cases hTH:T=H
 rotate_left
 ·have HNO:Hid (¬ PlanOk t p):=fun k=>hTH (by have:=k.teams;rw[HTL.out,HHL.out] at this;exact this)
  have hc:((T:Int) !=(H:Int))=true:=by rw[bne_iff_ne];omega
  clear hTH
  go_wp2
  exact ZoN (v:=.bool false) (by simp[results,Tryz.f72,go_sem]) rfl ⟨false,rfl,Zbp (HNO.out),HE1.out.base⟩
 subst hTH
 have hc:((T:Int) !=(T:Int))=false:=Zc
 have hRT:R=T:=by rw[<- HRL.out,HOK.out.rates,HHL.out]
 subst hRT
 obtain⟨sb,so,sc,hb',ho,hc',rb,ro,rk,cv,rq,rp,rc,es,eh,er,k1,k2,k3,hA⟩:=HT.out.open HOK.out
 rw[HN.out] at es
 rw[HHL.out] at eh
 rw[HRL.out] at er
 injection es with es1 es2 es3
 injection eh with eh1 eh2 eh3
 injection er with er1 er2 er3
 subst es1 eh1 er1
 have HA:=Zpp hA
 have hN24:1<=N/\N<=24:=by rw[<- HN.out];exact HOK.out.sites
 have hT8:1<=R/\R<=8:=by rw[<- HHL.out];exact HOK.out.teams
 clear hA k1 k2 k3 es2 es3 eh2 eh3 er2 er3
 go_wp2_with fail
 clear b1 hc
 go_loopw [6] (fun iv wr=>∃ k:Nat,iv=.int .i64 k/\k<=R/\Hid (∀ u,u<k->(p.getD u []).length=N/\(∀ i,i<N->Zbs t p u i)/\Z3 p u N<=eH t u)/\Hid (Env w.heap.size w [(w.heap.size,efO (.slice (some ⟨sb,so,none⟩) N cs) (.slice (some ⟨hb',ho,none⟩) R ch) (.slice (some ⟨rb,ro,none⟩) R cr))] [] wr)) (fun iv _=>R-(intOf iv).toNat)
 case atStart=>exact⟨0,rfl,ZoZ _,fun i h=>absurd h (Zpc _),HE1⟩
 case round=>
  clear HE1
  obtain⟨u,rfl,hu,HU,HE⟩:=hrel
  by_cases hlt:u<R
  ·obtain⟨qb,qo,rfl,hqb,hat⟩:=HP.out.at IIL.stays HTL.out Za
   have hul:u<p.length:=by rw[HTL.out];exact hlt
   obtain⟨v,e0',hil⟩:=hat w (ZoM _ w) u hul
   rw[Nat.mul_one] at e0'
   obtain⟨l,hl⟩:=Zpr (p[u])
   rw[hl] at hil
   obtain⟨n,hn⟩:=Zpr l.length
   obtain⟨lp,lc,rfl,hlc1,hlc2⟩:=hil.shape hn
   have HL:Hid (p.getD u []=l):=by show _=_;rw[<- hl];simp[List.getD,hul]
   have HLG:Hid (p[u]'(hul)=l):=hl
   have HNN:=Zpp hn
   have HIL:Hid (∀ V,Below w.heap.size w V->IL V (.slice lp n lc) l):=fun V hV=>hil.after IntR.stays hV Zpq
   have HROW:Hid (∀ V,Below w.heap.size w V->V.cell? ⟨qb,qo+u,none⟩=some (.slice lp n lc)):=fun V hV=>(hV.cell (p:=⟨qb,qo+u,none⟩) hqb).trans e0'
   have i0':(0:Int)<=(u:Int):=Za
   have i1':(u:Int)<(R:Int):=Za
   clear hat hl hn hil e0'
   go_wp2_with fail
   refine ZV [(1,0),(1,1),(1,2),(1,3),(1,4),(1,5),(1,6),(1,7),(1,8)] (Env w.heap.size w [(w.heap.size,efO (.slice (some ⟨sb,so,none⟩) N cs) (.slice (some ⟨hb',ho,none⟩) R ch) (.slice (some ⟨rb,ro,none⟩) R cr))] []) (fun _=>false)
    Zb Zb (fun _ _=>rfl) Zi HE.out.drew ?_
   obtain⟨w4,hw4⟩:=Zpr wr.drew
   have HE4:=Zpp HE.out.drew
   rw[hw4] at HE4 ⊢
   clear hw4 HE
   iterate 9
    refine Zx _ rfl rfl (fun w' hS=>by have b0:=hS.cell 0 0 (v:=.slice (some ⟨sb,so,none⟩) N cs) rfl rfl;have e0:=HROW.out _ hS.base;exact Ze) ?_
    simp only[Act.put,Zl]
   refine ZD ?_
   by_cases hnN:n=N
   rotate_left
   ·have HNO:Hid (¬ PlanOk t p):=fun k=>hnN (by have:=k.row u hul;rw[HLG.out,HNN.out,HN.out] at this;exact this)
    have hc:((n:Int) !=(N:Int))=true:=by rw[bne_iff_ne];omega
    clear hnN
    go_wp2
    exact ZoN (v:=.bool false) (by simp[results,Tryz.f72,go_sem]) rfl ⟨false,rfl,Zbp (HNO.out),HE4.out.base⟩
   subst hnN
   rw[show ((n:Int) !=(n:Int))=false by simp]
   obtain⟨lb,lo,rfl,hlb,hlat⟩:=(HIL.out w (ZoM _ _)).at IntR.stays HNN.out Za
   have HLA:Hid (∀ V,Below w.heap.size w V->∀ j,j<n->V.cell? ⟨lb,lo+j,none⟩=some (.int .i64 (pN p u j))):=fun V hV j hj=>by
    have h1:=hlat V hV j (by rw[HNN.out];exact hj)
    unfold IntR at h1
    rw[Nat.mul_one] at h1
    rw[show pN p u j=l[j]'(by rw[HNN.out];exact hj) by unfold pN;rw[HL.out];simp[List.getD,HNN.out,hj]]
    exact h1
   have HRT:Hid (∀ i,i<n->∀ V,Below w.heap.size w V->V.cell? ⟨rb,ro+u,none⟩=some (.slice (some ⟨rq u,rp u,none⟩) n (rc u))/\V.cell? ⟨rq u,rp u+i*2,none⟩=some (.string (eR t u i).1)):=fun i hi V hV=>by
    obtain⟨a1,_,_,a2⟩:=(HA.out V hV).rate u (by rw[HRL.out];exact hlt)
    rw[HN.out] at a1 a2
    exact⟨a1,(a2 i hi).1⟩
   obtain⟨_,hrc1,hrc2,_⟩:=(HA.out w (ZoM _ _)).rate u (by rw[HRL.out];exact hlt)
   rw[HN.out] at hrc1
   obtain⟨q1,hq1⟩:=Zpr (rq u)
   obtain⟨o1,ho1⟩:=Zpr (rp u)
   obtain⟨c1,hc1⟩:=Zpr (rc u)
   rw[hq1,ho1,hc1] at HRT
   rw[hc1] at hrc1 hrc2
   clear hlat hq1 ho1 hc1
   go_wp2_with fail
   go_loopw [7,8] (fun sv iv wv=>∃ i:Nat,iv=.int .i64 i/\i<=n/\sv=.int .i64 (Z3 p u i)/\Hid (∀ j,j<i->Zbs t p u j)/\Hid (Env w.heap.size w [(w.heap.size,efO (.slice (some ⟨sb,so,none⟩) n cs) (.slice (some ⟨hb',ho,none⟩) R ch) (.slice (some ⟨rb,ro,none⟩) R cr))] [] wv)) (fun _ iv _=>n-(intOf iv).toNat)
   case atStart=>exact⟨0,rfl,ZoZ _,rfl,fun i h=>absurd h (Zpc _),HE4⟩
   case round=>
    clear HE4
    obtain⟨i,rfl,hi,rfl,HH,HEV⟩:=hrel
    have e0:=HROW.out _ HEV.out.base
    by_cases hlt2:i<n
    ·have c0:=HLA.out _ HEV.out.base i hlt2
     have HRX:=Zpp (HRT.out i hlt2)
     have hrn:=Zi4 HOK.out (u:=u) (i:=i) (by rw[HRL.out];exact hlt) (by rw[HN.out];exact hlt2)
     obtain⟨m,hm⟩:=Zpr (pN p u i)
     obtain⟨⟨s1,t1⟩,hs1'⟩:∃ z,eR t u i=z:=⟨_,rfl⟩
     rw[hm] at c0
     rw[hs1'] at HRX hrn
     dsimp only at HRX hrn
     have HM:=Zpp hm
     have HRN:=Zpp hrn
     have j0':(0:Int)<=(i:Int):=Za
     have j1':(i:Int)<(n:Int):=Za
     clear hm hs1' hrn
     go_wp2_with fail
     refine(ZeD m 0 48 _).mono ?_
     rintro e w5 ⟨rfl,hb⟩
     have HE5:=Zpp (HEV.out.step hb)
     clear hb e0 c0 HEV
     by_cases hw:0<=m/\m<=48
     rotate_left
     ·have HNO:Hid (¬ PlanOk t p):=fun k=>hw (by have:=(k.hour u i hul (by rw[HN.out];exact hlt2)).1;rw[HM.out] at this;exact this)
      rw[Zfr hw]
      clear hw
      go_wp2
      exact ZoN (v:=.bool false) (by simp[results,Tryz.f72,go_sem]) rfl ⟨false,rfl,Zbp (HNO.out),HE5.out.base⟩
     rw[ZeG hw]
     have hs1:=Zeu (p:=p) (u:=u) (N:=i) (fun j hj=>(HH.out j hj).1) i Zpq
     have e1:Hid (IntKind.i64.wrap (Z3 p u i+m)=Z3 p u (i+1)):=by
      show _=_
      rw[IntWalk.i64_in _ Za]
      show _=Z3 p u i+pN p u i
      rw[HM.out]
     have HHN:Hid (Zbs t p u i->∀ j,j<i+1->Zbs t p u j):=fun h j hj=>by
      rcases ZoS j i with h1 | h1
      ·exact HH.out j h1
      ·obtain rfl:j=i:=Za
       exact h
     have e0:=HROW.out _ HE5.out.base
     have c0:=HLA.out _ HE5.out.base i hlt2
     rw[HM.out] at c0
     obtain⟨d0,d1⟩:=HRX.out _ HE5.out.base
     have d2:=HE5.out.cell 0 2 (v:=.slice (some ⟨rb,ro,none⟩) R cr) rfl rfl
     have e1':=e1.out
     clear hs1
     by_cases hm0:0<m
     ·by_cases hr0:rR t u i=0
      ·have HNO:Hid (¬ PlanOk t p):=fun k=>(k.hour u i hul (by rw[HN.out];exact hlt2)).2 (by rw[HM.out];exact hm0) hr0
       have hzz:(s1.toList==[48])=true:=by rw[HRN.out,decide_eq_true hr0]
       clear hw hr0 e1'
       go_wp2
       exact ZoN (v:=.bool false) (by simp[results,Tryz.f72,go_sem]) rfl ⟨false,rfl,Zbp (HNO.out),HE5.out.base⟩
      ·have HOKI:=Zpp (HHN.out ⟨by rw[HM.out];exact hw,fun _=>hr0⟩)
       have hzz:(s1.toList==[48])=false:=by rw[HRN.out,decide_eq_false hr0]
       clear hw hr0
       go_wp2
       go_roundw
       case rel=>exact⟨i+1,by go_num,Za,by first | rfl | rw[e1.out],HOKI,HE5⟩
       case measure=>exact Zj
     ·have HOKI:=Zpp (HHN.out ⟨by rw[HM.out];exact hw,fun h=>absurd (by rw[HM.out] at h;exact h) hm0⟩)
      clear hw
      go_wp2
      go_roundw
      case rel=>exact⟨i+1,by go_num,Za,by first | rfl | rw[e1.out],HOKI,HE5⟩
      case measure=>exact Zj
    ·have hin:i=n:=Za
     have hh1:=HEV.out.cell 0 1 (v:=.slice (some ⟨hb',ho,none⟩) R ch) rfl rfl
     have a1:=(HA.out _ HEV.out.base).hour u (by rw[HHL.out];exact hlt)
     obtain⟨hh,hhh⟩:=Zpr (eH t u)
     rw[hhh] at a1
     have HHH:=Zpp hhh
     clear hhh
     by_cases hs:hh<Z3 p u i
     ·have HNO:Hid (¬ PlanOk t p):=fun k=>by
       have:=k.sum u hul
       rw[HN.out,HHH.out,<- hin] at this
       omega
      clear hin
      go_wp2
      exact ZoN (v:=.bool false) (by simp[results,Tryz.f72,go_sem]) rfl ⟨false,rfl,Zbp (HNO.out),HEV.out.base⟩
     ·have HU2:Hid (∀ v,v<u+1->(p.getD v []).length=n/\(∀ i,i<n->Zbs t p v i)/\Z3 p v n<=eH t v):=fun v hv=>by
       rcases ZoS v u with h1 | h1
       ·exact HU.out v h1
       ·obtain rfl:v=u:=Za
        refine⟨by rw[HL.out,HNN.out],fun j hj=>HH.out j Za,?_⟩
        rw[<- hin,HHH.out]
        omega
      clear hin
      go_wp2
      go_roundw
      case rel=>exact⟨u+1,by go_num,Za,HU2,HEV⟩
      case measure=>exact Zj
  ·have huR:u=R:=Za
   have HYES:Hid (PlanOk t p):=by
    refine⟨HOK.out,by rw[HTL.out,HHL.out],fun v hv=>?_,fun v i hv hi=>?_,fun v hv=>?_⟩
    ·have h1:=(HU.out v (by rw[huR,<- HTL.out];exact hv)).1
     rw[show p[v]=p.getD v [] by simp[List.getD,hv],h1,HN.out]
    ·exact(HU.out v (by rw[huR,<- HTL.out];exact hv)).2.1 i (by rw[<- HN.out];exact hi)
    ·rw[HN.out]
     exact(HU.out v (by rw[huR,<- HTL.out];exact hv)).2.2
   clear huR HU
   go_wp2
   exact ZoN (v:=.bool true) (by simp[results,Tryz.f72,go_sem]) rfl ⟨true,rfl,⟨fun _=>HYES.out,fun _=>rfl⟩,HE.out.base⟩
theorem ZmZ {p:List (List Int)} {N:Nat} {pv:Value} {w:World} (h:IIL w pv p) (h0:0<p.length) (hN:0<N) (hrow:∀ u (h:u<p.length),p[u].length=N) :
  ∃ pb po pc gq gp gc,pv=.slice (some ⟨pb,po,none⟩) p.length pc/\∀ b V,w.heap.size<=b->Below w.heap.size w V->PlanW p N b pv pb po pc gq gp gc V:=by
 obtain⟨pb,po,pc,rfl,h1,h2,h3,h4⟩:=ZbN h h0
 obtain⟨z,hz⟩:∃ z:Nat->Nat×Nat×Nat,∀ u,u<p.length->w.cell? ⟨pb,po+u,none⟩=some (.slice (some ⟨(z u).1,(z u).2.1,none⟩) N (z u).2.2)/\N<=(z u).2.2/\(z u).2.2<=9223372036854775807/\
   (z u).1<w.heap.size/\∀ i,i<N->w.cell? ⟨(z u).1,(z u).2.1+i,none⟩=some (.int .i64 (pN p u i)):=by
  refine Zeq (Q:=fun u (z:Nat×Nat×Nat)=>w.cell? ⟨pb,po+u,none⟩=some (.slice (some ⟨z.1,z.2.1,none⟩) N z.2.2)/\N<=z.2.2/\z.2.2<=9223372036854775807/\
   z.1<w.heap.size/\∀ i,i<N->w.cell? ⟨z.1,z.2.1+i,none⟩=some (.int .i64 (pN p u i))) fun u hu=>?_
  obtain⟨v,h5,h6⟩:=h4 u hu
  have h7:=hrow u hu
  obtain⟨b,o,c,rfl,c1,c2,c3,c4⟩:=ZbN h6 Za
  rw[Nat.mul_one,h7] at h5
  refine⟨(b,o,c),h5,by rw[<- h7];exact c1,c2,c3,fun i hi=>?_⟩
  have hi':i<p[u].length:=Za
  have:=c4 i hi'
  unfold IntR at this
  rw[Nat.mul_one,Zoj hu hi'] at this
  exact this
 refine⟨pb,po,pc,fun u=>(z u).1,fun u=>(z u).2.1,fun u=>(z u).2.2,rfl,fun b V hb hV=>⟨rfl,⟨h1,h2⟩,fun u hu=>?_,Za,fun u hu=>?_⟩⟩
 ·obtain⟨b0,b1,b2,b3,b4⟩:=hz u hu
  exact⟨(hV.cell (p:=⟨pb,po+u,none⟩) h3).trans b0,b1,b2,fun i hi=>(hV.cell (p:=⟨(z u).1,(z u).2.1+i,none⟩) b3).trans (b4 i hi)⟩
 ·have:=(hz u hu).2.2.2.1
  show (z u).1≠b
  omega
structure SmIn (t:TaskP) (sv hv rv:Value) (w W W1:World) (b:Nat):Prop where
 sm:W1.heap[b]?=some (smO 0)
 task:Zbx b (TaskIn t sv hv rv) W1
 ge:w.heap.size<=b
 now:Below w.heap.size w W1
 keep:∀ V,Keeps (NotM b) W1 V->Below w.heap.size w V/\∀ (g:Nat) (o:Obj),W.heap[g]?=some o->V.heap[g]?=some o
theorem smIn {t:TaskP} {sv hv rv:Value} {w W W1:World} {b:Nat} (hT:TaskIn t sv hv rv w) (hB:Below w.heap.size w W) (hb:W.heap.size=b) (hw:W.alloc (smO 0)=W1):SmIn t sv hv rv w W W1 b:=by
 have hal:Below W.heap.size W W1:=by rw[<- hw];exact(ZoM _ W).alloc Zpq _
 have hB1:Below w.heap.size w W1:=hB.trans (hal.mono hB.size)
 have hbs:w.heap.size<=b:=by rw[<- hb];exact hB.size
 refine⟨by rw[<- hw,<- hb];exact ZoP W _,⟨w,hT,hB1,hbs⟩,hbs,hB1,fun V hV=>⟨hB1.trans (hV.below_of (fun c hc=>by show c≠b;omega) hB1.size),fun g o hg=>?_⟩⟩
 have hgl:=(Zpl hg)
 exact(hV.block g (ZoT hgl hal.size) (by show g≠b;omega)).trans ((hal.block g hgl).trans hg)
end Go.Proofs.YtmpaflidennnoaaGreatDoor
