/- The parts RETask, REPlan of a proof, put together by program (merge7.py). -/
import Derived.Test.YtmpaflidennnoaaGreatDoorK003
set_option maxRecDepth 100000
set_option maxHeartbeats 4000000
set_option linter.unusedVariables false
set_option linter.unusedSimpArgs false
namespace Go.Proofs.YtmpaflidennnoaaGreatDoor
open Go.RowKit Go.Shelf
attribute [local go_sem ↓] Go.wp_at_zero Go.wp_at_succ
def AskB (P:Prop) (w:World) (e:Ending) (w':World):Prop:=∃ r:Bool,e=.returned (.bool r)∧(r=true↔P)∧Below w.heap.size w w'
theorem ZcF {P:Prop} (h:¬ P):(false=true↔P):=⟨fun h2=>(by cases h2),fun h2=>absurd h2 h⟩
theorem ZgU {a b x:Int} (h:¬ (a≤x∧x≤b)):(decide (a≤x) && decide (x≤b))=false:=by
 rw[← Bool.not_eq_true]
 simp only[Bool.and_eq_true,decide_eq_true_eq]
 exact h
theorem Zfv {a b x:Int} (h:a≤x∧x≤b):(decide (a≤x) && decide (x≤b))=true:=by simp;exact h
theorem Zlo {t:TaskP} {sv hv rv:Value} {w:World} (h:TaskIn t sv hv rv w) (hz:LimT t) :
  Calls Tryz.prog 52 #[.agg #[sv,hv,rv]] w (AskB (TaskOk t) w):=by
 obtain⟨N,hN⟩:=ZnX t.sites.length
 obtain⟨T,hT⟩:=ZnX t.hours.length
 obtain⟨R,hR⟩:=ZnX t.rates.length
 obtain⟨ps,cs,rfl,hs1,hs2⟩:=h.sites.shape hN
 obtain⟨ph,ch,rfl,hh1,hh2⟩:=h.hours.shape hT
 obtain⟨pr,cr,rfl,hr1,hr2⟩:=h.rates.shape hR
 have HT:=ZnV h
 have HZ:=ZnV hz
 have HN:=ZnV hN
 have HTT:=ZnV hT
 have HR:=ZnV hR
 have HE0:Hid (Env w.heap.size w [(w.heap.size,efO (.slice ps N cs) (.slice ph T ch) (.slice pr R cr))] [] (w.alloc (efO (.slice ps N cs) (.slice ph T ch) (.slice pr R cr)))):=(Env.start w).push _ rfl
 clear h hz hN hT hR
 have b0:=HE0.out.cell 0 0 (v:=.slice ps N cs) rfl rfl
 have b1:=HE0.out.cell 0 1 (v:=.slice ph T ch) rfl rfl
 have b2:=HE0.out.cell 0 2 (v:=.slice pr R cr) rfl rfl
 go_enter Tryz.func52,Tryz.ntmps52
 go_wp2_with fail
 refine(Zfz N 1 24 _).mono ?_
 rintro e w1 ⟨rfl,hb⟩
 have HE1:=ZnV (HE0.out.step hb)
 clear hb HE0 b0 b1 b2
 by_cases hA:1≤N∧N≤24
 rotate_left
 ·have HNO:Hid (¬ TaskOk t):=fun k=>hA (by have:=k.sites;rw[HN.out] at this;exact this)
  rw[ZgU (by omega)]
  clear hA
  go_wp2
  exact bodyPost_ret (v:=.bool false) (by simp[results,Tryz.f52,go_sem]) rfl ⟨false,rfl,ZcF (HNO.out),HE1.out.base⟩
 rw[Zfv (by omega)]
 have b0:=HE1.out.cell 0 0 (v:=.slice ps N cs) rfl rfl
 have b1:=HE1.out.cell 0 1 (v:=.slice ph T ch) rfl rfl
 have b2:=HE1.out.cell 0 2 (v:=.slice pr R cr) rfl rfl
 go_wp2_with fail
 refine(Zfz T 1 8 _).mono ?_
 rintro e w2 ⟨rfl,hb⟩
 have HE2:=ZnV (HE1.out.step hb)
 clear hb HE1 b0 b1 b2
 by_cases hB:1≤T∧T≤8
 rotate_left
 ·have HNO:Hid (¬ TaskOk t):=fun k=>hB (by have:=k.teams;rw[HTT.out] at this;exact this)
  rw[ZgU (by omega)]
  clear hB
  go_wp2
  exact bodyPost_ret (v:=.bool false) (by simp[results,Tryz.f52,go_sem]) rfl ⟨false,rfl,ZcF (HNO.out),HE2.out.base⟩
 rw[Zfv (by omega)]
 have b0:=HE2.out.cell 0 0 (v:=.slice ps N cs) rfl rfl
 have b1:=HE2.out.cell 0 1 (v:=.slice ph T ch) rfl rfl
 have b2:=HE2.out.cell 0 2 (v:=.slice pr R cr) rfl rfl
 by_cases hC:R=T
 rotate_left
 ·have HNO:Hid (¬ TaskOk t):=fun k=>hC (by have:=k.rates;rw[HR.out,HTT.out] at this;exact this)
  have hc:((R:Int) !=(T:Int))=true:=by rw[bne_iff_ne];omega
  clear hC
  go_wp2
  exact bodyPost_ret (v:=.bool false) (by simp[results,Tryz.f52,go_sem]) rfl ⟨false,rfl,ZcF (HNO.out),HE2.out.base⟩
 subst hC
 have hc:((R:Int) !=(R:Int))=false:=by simp
 go_wp2_with fail
 clear b0 b1 b2 hc
 go_loopw [3] (fun iv wr=>∃ k:Nat,iv=.int .i64 k∧k≤N∧Hid (∀ i,i<k→Zh 9 (eS t i).weight=true∧CurveP (eS t i).curve)∧Hid (Env w.heap.size w [(w.heap.size,efO (.slice ps N cs) (.slice ph R ch) (.slice pr R cr))] [] wr)) (fun iv _=>N-(intOf iv).toNat)
 case atStart=>exact⟨0,rfl,Nat.zero_le _,fun i h=>absurd h (Nat.not_lt_zero _),HE2⟩
 case round=>
  obtain⟨k,rfl,hk,HK,HE⟩:=hrel
  clear HE2
  have b0:=HE.out.cell 0 0 (v:=.slice ps N cs) rfl rfl
  have b1:=HE.out.cell 0 1 (v:=.slice ph R ch) rfl rfl
  have b2:=HE.out.cell 0 2 (v:=.slice pr R cr) rfl rfl
  by_cases hlt:k<N
  ·obtain⟨sb,so,rfl,hsb,hat⟩:=HT.out.sites.at Zcm.stays HN.out (by omega)
   have hkl:k<t.sites.length:=by rw[HN.out];exact hlt
   have HAT:Hid (∀ V,Below w.heap.size w V→Zcm V sb (so+k*3) (eS t k)):=fun V hV=>by rw[← ZeM hkl];exact hat V hV k hkl
   obtain⟨e0,e1,v,e2,hbl⟩:=HAT.out wr HE.out.base
   obtain⟨⟨hz1,hz2⟩,hzb⟩:=HZ.out.1 _ (List.getElem_mem hkl)
   rw[ZeM hkl] at hz1 hz2 hzb
   obtain⟨⟨s1,t1⟩,hs1'⟩:∃ z,(eS t k).weight=z:=⟨_,rfl⟩
   rw[hs1'] at e0 e1 hz1 hz2
   have HSW:=ZnV hs1'
   have HZB:=ZnV hzb
   dsimp only at e0 e1 hz1 hz2
   have i0':(0:Int)≤(k:Int):=by omega
   have i1':(k:Int)<(N:Int):=by omega
   clear hat hbl hzb hs1' e2
   go_wp2_with fail
   refine(Zfd 9 s1 t1 hz1 hz2 _).mono ?_
   rintro e w4 ⟨rfl,hb⟩
   have HE4:=ZnV (HE.out.step hb)
   clear hb e0 e1 b0 b1 b2 HE
   obtain⟨_,_,v,e2,hbl⟩:=HAT.out w4 HE4.out.base
   obtain⟨pq,cq,rfl,_⟩:=id hbl
   obtain⟨nq,hnq⟩:=ZnX ((eS t k).curve.length)
   rw[hnq] at e2 hbl
   have b0:=HE4.out.cell 0 0 (v:=.slice (some ⟨sb,so,none⟩) N cs) rfl rfl
   obtain⟨r1,hr1⟩:=ZnX (Zh 9 (s1,t1))
   rw[hr1]
   have HBL:=ZnV hbl
   have HSM:=ZnV hr1
   clear hnq hr1 hbl
   go_wp2_with fail
   refine(Zgj HBL.out HZB.out).mono ?_
   rintro e w5 ⟨r2,rfl,hr2,hb⟩
   have HE5:=ZnV (HE4.out.step hb)
   have HR2:=ZnV hr2
   clear hb e2 b0 HE4 hr2
   cases r1 with
   | false=>
    have HNO:Hid (¬ TaskOk t):=fun h=>by
     have:=(h.site k (by rw[HN.out];exact hlt)).1
     rw[HSW.out,HSM.out] at this
     cases this
    go_wp2
    exact bodyPost_ret (v:=.bool false) (by simp[results,Tryz.f52,go_sem]) rfl ⟨false,rfl,ZcF (HNO.out),HE5.out.base⟩
   | true=>
    cases r2 with
    | false=>
     have HNO:Hid (¬ TaskOk t):=fun h=>by
      have:=HR2.out.2 (h.site k (by rw[HN.out];exact hlt)).2
      cases this
     go_wp2
     exact bodyPost_ret (v:=.bool false) (by simp[results,Tryz.f52,go_sem]) rfl ⟨false,rfl,ZcF (HNO.out),HE5.out.base⟩
    | true=>
     have HK2:Hid (∀ i,i<k+1→Zh 9 (eS t i).weight=true∧CurveP (eS t i).curve):=fun i hi=>by
      rcases Nat.lt_or_ge i k with h | h
      ·exact HK.out i h
      ·obtain rfl:i=k:=by omega
       exact⟨by rw[HSW.out];exact HSM.out,HR2.out.1 rfl⟩
     go_wp2
     go_roundw
     case rel=>exact⟨k+1,by go_num,by omega,HK2,HE5⟩
     case measure=>simp[intOf];omega
  ·have hkN:k=N:=by omega
   have HSI:Hid (∀ i,i<N→Zh 9 (eS t i).weight=true∧CurveP (eS t i).curve):=by rw[← hkN];exact HK.out
   clear HK hkN
   go_wp2_with fail
   clear b0 b1 b2
   go_loopw [6] (fun iv wr=>∃ u:Nat,iv=.int .i64 u∧u≤R∧Hid (∀ v (h:v<t.rates.length),v<u→(0≤eH t v∧eH t v≤48)∧t.rates[v].length=N∧∀ i,i<N→Zh 9 (eR t v i)=true)∧Hid (Env w.heap.size w [(w.heap.size,efO (.slice ps N cs) (.slice ph R ch) (.slice pr R cr))] [] wr)) (fun iv _=>R-(intOf iv).toNat)
   case atStart=>exact⟨0,rfl,Nat.zero_le _,fun v _ h=>absurd h (Nat.not_lt_zero _),HE⟩
   case round=>
    clear HE
    obtain⟨u,rfl,hu,HU,HE⟩:=hrel
    by_cases hlt2:u<R
    ·obtain⟨rb,ro,rfl,hrb,hrat⟩:=HT.out.rates.at PPL.stays HR.out (by omega)
     obtain⟨hb',ho,rfl,hhb,hhat⟩:=HT.out.hours.at IntR.stays HTT.out (by omega)
     have hul:u<t.rates.length:=by rw[HR.out];exact hlt2
     have hul2:u<t.hours.length:=by rw[HTT.out];exact hlt2
     obtain⟨q,g1,g2⟩:=hrat w (Below.refl _ w) u hul
     rw[Nat.mul_one] at g1
     obtain⟨l,hl⟩:=ZnX (t.rates[u].length)
     obtain⟨pl,cl,rfl,_,_,_⟩:=id g2
     rw[hl] at g1 g2
     have HL:=ZnV hl
     have HRA:Hid (∀ V,Below w.heap.size w V→V.cell? ⟨rb,ro+u,none⟩=some (.slice pl l cl)∧PL V (.slice pl l cl) t.rates[u]):=fun V hV=>⟨(hV.cell hrb).trans g1,g2.after hV ZnW⟩
     have HHA:Hid (∀ V,Below w.heap.size w V→V.cell? ⟨hb',ho+u,none⟩=some (.int .i64 (eH t u))):=fun V hV=>by
      have e1:=hhat _ hV u hul2
      unfold IntR at e1
      rw[Nat.mul_one,Zh5 hul2] at e1
      exact e1
     have HZL:=ZnV (HZ.out.2 _ (List.getElem_mem hul))
     obtain⟨hh,hhh⟩:=ZnX (eH t u)
     rw[hhh] at HHA
     have HHH:=ZnV hhh
     have i0':(0:Int)≤(u:Int):=by omega
     have i1':(u:Int)<(R:Int):=by omega
     clear hrat hhat hhh g1 g2 hl
     have b0:=HE.out.cell 0 0 (v:=.slice ps N cs) rfl rfl
     have b1:=HE.out.cell 0 1 (v:=.slice (some ⟨hb',ho,none⟩) R ch) rfl rfl
     have b2:=HE.out.cell 0 2 (v:=.slice (some ⟨rb,ro,none⟩) R cr) rfl rfl
     go_wp2_with fail
     refine ZF [(1,0),(1,1),(1,2),(1,3),(1,4),(0,5),(1,6),(1,7),(1,8),(1,9),(1,10),(1,11),(1,12),(1,13),(1,14),(1,15),(1,16),(1,17),(1,18)] (Env w.heap.size w [(w.heap.size,efO (.slice ps N cs) (.slice (some ⟨hb',ho,none⟩) R ch) (.slice (some ⟨rb,ro,none⟩) R cr))] []) (fun _=>false)
      (by kernel_rfl) (by kernel_rfl) (fun j hj=>rfl) (fun _ _ o _ _ h=>by cases o<;>exact h) HE.out.drew ?_
     obtain⟨w4,hw4⟩:=ZnX wr.drew
     have HE4:=ZnV HE.out.drew
     rw[hw4] at HE4 ⊢
     clear hw4 HE
     iterate 5
      refine Zk _ rfl rfl (fun w' hS=>by have b1:=hS.cell 0 1 (v:=.slice (some ⟨hb',ho,none⟩) R ch) rfl rfl;have e1:=HHA.out _ hS.base;go_simp;first | rfl | (rw[if_pos (by omega)])) ?_
      simp only[ZnP,ZnQ,ZnR,Act.put,ZnS,ZnT,ZnU]
     refine Zm 79 _ rfl rfl (by go_simp;rfl) ?_
     have HEC:=HE4
     refine(Zfz hh 0 48 _).mono ?_
     rintro e w5 ⟨rfl,hb⟩
     have HE5:=ZnV (HEC.out.step hb)
     refine .inl ⟨_,rfl,HE5.out,?_⟩
     clear hb HEC
     simp only[ZnP,ZnQ,ZnR,Act.put,ZnS,ZnT,ZnU]
     by_cases hw:0≤hh∧hh≤48
     rotate_left
     ·have HNO:Hid (¬ TaskOk t):=fun h=>hw (by have:=(h.team u hul).1;rw[HHH.out] at this;exact this)
      rw[ZgU hw]
      clear hw
      iterate 2
       refine Zk _ rfl rfl (fun w' hS=>by skip;go_simp;first | rfl | (rw[if_pos (by omega)])) ?_
       simp only[ZnP,ZnQ,ZnR,Act.put,ZnS,ZnT,ZnU]
      iterate 10
       refine ZbW rfl rfl ?_
       simp only[ZnP,ZnQ,ZnR,Act.put,ZnS,ZnT,ZnU]
      iterate 1
       refine Zk _ rfl rfl (fun w' hS=>by skip;go_simp;first | rfl | (rw[if_pos (by omega)])) ?_
       simp only[ZnP,ZnQ,ZnR,Act.put,ZnS,ZnT,ZnU]
      refine Zt ?_
      go_wp2
      exact bodyPost_ret (v:=.bool false) (by simp[results,Tryz.f52,go_sem]) rfl ⟨false,rfl,ZcF (HNO.out),HE5.out.base⟩
     rw[Zfv hw]
     iterate 13
      refine Zk _ rfl rfl (fun w' hS=>by have b0:=hS.cell 0 0 (v:=.slice ps N cs) rfl rfl;have b2:=hS.cell 0 2 (v:=.slice (some ⟨rb,ro,none⟩) R cr) rfl rfl;have e2:=(HRA.out _ hS.base).1;go_simp;first | rfl | (rw[if_pos (by omega)])) ?_
      simp only[ZnP,ZnQ,ZnR,Act.put,ZnS,ZnT,ZnU]
     refine Zt ?_
     by_cases hD:l=N
     rotate_left
     ·have HNO:Hid (¬ TaskOk t):=fun h=>hD (by have:=(h.team u hul).2.1;rw[HL.out,HN.out] at this;exact this)
      have hc:((l:Int) !=(N:Int))=true:=by rw[bne_iff_ne];omega
      clear hD
      go_wp2
      exact bodyPost_ret (v:=.bool false) (by simp[results,Tryz.f52,go_sem]) rfl ⟨false,rfl,ZcF (HNO.out),HE5.out.base⟩
     subst hD
     have hc:((l:Int) !=(l:Int))=false:=by simp
     rw[hc]
     obtain⟨c,o,_,hv9,_,_,hcl,hpat⟩:=ZdN (HRA.out _ (Below.refl _ w)).2 (by rw[HL.out];omega)
     injection hv9 with x1 x2 x3
     subst x1
     have HPA:Hid (∀ V,Below w.heap.size w V→PAt V c o t.rates[u]):=fun V hV=>hpat.below hV hcl
     clear HE4 hpat x2 x3
     clear hc
     go_wp2_with fail
     go_loopw [7] (fun iv wx=>∃ i:Nat,iv=.int .i64 i∧i≤l∧Hid (∀ j,j<i→Zh 9 (eR t u j)=true)∧Hid (Env w.heap.size w [(w.heap.size,efO (.slice ps l cs) (.slice (some ⟨hb',ho,none⟩) R ch) (.slice (some ⟨rb,ro,none⟩) R cr))] [] wx)) (fun iv _=>l-(intOf iv).toNat)
     case atStart=>exact⟨0,rfl,Nat.zero_le _,fun j h=>absurd h (Nat.not_lt_zero _),HE5⟩
     case round=>
      clear HE5
      obtain⟨i,rfl,hi,HI,HE⟩:=hrel
      have b0:=HE.out.cell 0 0 (v:=.slice ps l cs) rfl rfl
      have b2:=HE.out.cell 0 2 (v:=.slice (some ⟨rb,ro,none⟩) R cr) rfl rfl
      by_cases hlt3:i<l
      ·have hil:i<t.rates[u].length:=by rw[HL.out];exact hlt3
       obtain⟨e2,_⟩:=HRA.out _ HE.out.base
       obtain⟨f0,f1⟩:=HPA.out _ HE.out.base i hil
       have hzz:=HZL.out _ (List.getElem_mem hil)
       rw[ZfX hul hil] at f0 f1 hzz
       obtain⟨⟨s1,t1⟩,hs1'⟩:∃ z,eR t u i=z:=⟨_,rfl⟩
       rw[hs1'] at f0 f1 hzz
       have HRR:=ZnV hs1'
       dsimp only at f0 f1 hzz
       obtain⟨hz1,hz2⟩:=hzz
       have j0':(0:Int)≤(i:Int):=by omega
       have j1':(i:Int)<(l:Int):=by omega
       clear hs1'
       go_wp2_with fail
       refine(Zfd 9 s1 t1 hz1 hz2 _).mono ?_
       rintro e w6 ⟨rfl,hb⟩
       have HE6:=ZnV (HE.out.step hb)
       clear hb e2 f0 f1 b0 b2 HE
       cases hsm:Zh 9 (s1,t1)
       ·have HNO:Hid (¬ TaskOk t):=fun h=>by
         have h3:=(h.team u hul).2.2 i (by rw[HN.out];exact hlt3)
         rw[HRR.out,hsm] at h3
         cases h3
        clear hsm
        go_wp2
        exact bodyPost_ret (v:=.bool false) (by simp[results,Tryz.f52,go_sem]) rfl ⟨false,rfl,ZcF (HNO.out),HE6.out.base⟩
       ·have HI2:Hid (∀ j,j<i+1→Zh 9 (eR t u j)=true):=fun j hj=>by
         rcases Nat.lt_or_ge j i with h | h
         ·exact HI.out j h
         ·obtain rfl:j=i:=by omega
          rw[HRR.out]
          exact hsm
        clear hsm
        go_wp2
        go_roundw
        case rel=>exact⟨i+1,by go_num,by omega,HI2,HE6⟩
        case measure=>simp[intOf];omega
      ·have HU2:Hid (∀ v (h:v<t.rates.length),v<u+1→(0≤eH t v∧eH t v≤48)∧t.rates[v].length=l∧∀ i,i<l→Zh 9 (eR t v i)=true):=fun v hv hvu=>by
        rcases Nat.lt_or_ge v u with h | h
        ·exact HU.out v hv h
        ·obtain rfl:v=u:=by omega
         exact⟨by rw[HHH.out];exact hw,HL.out,fun j hj=>HI.out j (by omega)⟩
       clear hw
       go_wp2
       go_roundw
       case rel=>exact⟨u+1,by go_num,by omega,HU2,HE⟩
       case measure=>simp[intOf];omega
    ·have HYES:Hid (TaskOk t):=by
      have huR:u=R:=by omega
      refine⟨by rw[HN.out];exact hA,by rw[HTT.out];exact hB,by rw[HR.out,HTT.out],fun i hi=>HSI.out i (by rw[← HN.out];exact hi),fun v hv=>?_⟩
      obtain⟨h1,h2,h3⟩:=HU.out v hv (by rw[huR,← HR.out];exact hv)
      exact⟨h1,by rw[HN.out];exact h2,fun i hi=>h3 i (by rw[← HN.out];exact hi)⟩
     have b0:=HE.out.cell 0 0 (v:=.slice ps N cs) rfl rfl
     have b1:=HE.out.cell 0 1 (v:=.slice ph R ch) rfl rfl
     have b2:=HE.out.cell 0 2 (v:=.slice pr R cr) rfl rfl
     go_wp2
     exact bodyPost_ret (v:=.bool true) (by simp[results,Tryz.f52,go_sem]) rfl ⟨true,rfl,⟨fun _=>HYES.out,fun _=>rfl⟩,HE.out.base⟩
end Go.Proofs.YtmpaflidennnoaaGreatDoor
