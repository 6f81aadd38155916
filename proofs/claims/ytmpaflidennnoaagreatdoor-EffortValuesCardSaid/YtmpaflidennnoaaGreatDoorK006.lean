/- The parts REPlan, EGainX, REVals. -/
import Derived.Test.YtmpaflidennnoaaGreatDoorK005
import Derived.Test.YtmpaflidennnoaaGreatDoorH29
set_option maxRecDepth 100000
set_option maxHeartbeats 4000000
set_option linter.unusedVariables false
set_option linter.unusedSimpArgs false
namespace Go.Proofs.YtmpaflidennnoaaGreatDoor
open Go.RowKit Go.Shelf
attribute [local go_sem ↓] Go.wp_at_zero Go.wp_at_succ
theorem ZmM {t:TaskP} (ok:TaskOk t) {u i:Nat} (hu:u<t.rates.length) (hi:i<t.sites.length):((eR t u i).1.toList==[48])=decide (rR t u i=0):=by
 obtain⟨_,_,ho⟩:=Zai.1 ((ok.team u hu).2.2 i hi)
 obtain⟨a1,a2,a3⟩:=Za2 ho
 have hz:=ZcN (ZcV.1 ho).1
 by_cases h:rR t u i=0
 ·rw[decide_eq_true h]
  have h0:Zq (eR t u i).1.data.toList=0:=by
   rw[a2]
   show (rR t u i).num.toNat=0
   rw[h]
   rfl
  rw[hz.2 h0,ZoN]
  rfl
 ·rw[decide_eq_false h,beq_eq_false_iff_ne,ZoN]
  intro hc
  have h1:Zq (eR t u i).1.data.toList=0:=by rw[hc];rfl
  rw[a2] at h1
  have h2:0<=(rR t u i).num:=Rat.num_nonneg.2 a1
  exact h (Rat.num_eq_zero.1 (by have h3:(rR t u i).num.toNat=0:=h1;omega))
theorem ZdV {t:TaskP} {p:List (List Int)} {sv hv rv pv:Value} {w:World} (h:TaskIn t sv hv rv w) (hz:LimT t) (hI:IIL w pv p) :
  Calls Tryz.prog 72 #[.agg #[sv,hv,rv],pv] w (AskB (PlanOk t p) w):=by
 obtain⟨N,hN⟩:=Zpg t.sites.length
 obtain⟨H,hH⟩:=Zpg t.hours.length
 obtain⟨R,hR⟩:=Zpg t.rates.length
 obtain⟨T,hT⟩:=Zpg p.length
 obtain⟨ps,cs,rfl,hs1,hs2⟩:=h.sites.shape hN
 obtain⟨ph,ch,rfl,hh1,hh2⟩:=h.hours.shape hH
 obtain⟨pr,cr,rfl,hr1,hr2⟩:=h.rates.shape hR
 obtain⟨pp,cp,rfl,hp1,hp2⟩:=hI.shape hT
 have HT:=Zpe h
 have HZ:=Zpe hz
 have HP:=Zpe hI
 have HN:=Zpe hN
 have HHL:=Zpe hH
 have HRL:=Zpe hR
 have HTL:=Zpe hT
 have HE0:Hid (Env w.heap.size w [(w.heap.size,efO (.slice ps N cs) (.slice ph H ch) (.slice pr R cr))] [] (w.alloc (efO (.slice ps N cs) (.slice ph H ch) (.slice pr R cr)))):=(Env.start w).push _ rfl
 clear h hz hN hH hR hT hI
 go_enter Tryz.func72,Tryz.ntmps72
 go_wp2_with fail
 refine(Zhz (HT.out.below HE0.out.base Zpf) HZ.out).mono ?_
 rintro e w1 ⟨r,rfl,hr,hb⟩
 have HE1:=Zpe (HE0.out.step hb)
 have HRR:=Zpe hr
 clear hb hr HE0
 cases r with
 | false=>
  have HNO:Hid (¬ PlanOk t p):=fun k=>by have:=HRR.out.2 k.task;cases this
  go_wp2
  exact Zor (v:=.bool false) (by simp[results,Tryz.f72,go_sem]) rfl ⟨false,rfl,Zbh (HNO.out),HE1.out.base⟩
 | true=>
 have HOK:Hid (TaskOk t):=HRR.out.1 rfl
 have b1:=HE1.out.cell 0 1 (v:=.slice ph H ch) rfl rfl
 by_cases hTH:T=H
 rotate_left
 ·have HNO:Hid (¬ PlanOk t p):=fun k=>hTH (by have:=k.teams;rw[HTL.out,HHL.out] at this;exact this)
  have hc:((T:Int) !=(H:Int))=true:=by rw[bne_iff_ne];omega
  clear hTH
  go_wp2
  exact Zor (v:=.bool false) (by simp[results,Tryz.f72,go_sem]) rfl ⟨false,rfl,Zbh (HNO.out),HE1.out.base⟩
 subst hTH
 have hc:((T:Int) !=(T:Int))=false:=Zc
 have hRT:R=T:=by rw[<- HRL.out,HOK.out.rates,HHL.out]
 subst hRT
 obtain⟨sb,so,sc,hb',ho,hc',rb,ro,rk,cv,rq,rp,rc,es,eh,er,k1,k2,k3,hA⟩:=HT.out.open HOK.out
 rw[HN.out] at es
 rw[HHL.out] at eh
 rw[HRL.out] at er
 injection es with es1 es2 es3
 injection eh with eh1 eh2 eh3
 injection er with er1 er2 er3
 subst es1 eh1 er1
 have HA:=Zpe hA
 have hN24:1<=N/\N<=24:=by rw[<- HN.out];exact HOK.out.sites
 have hT8:1<=R/\R<=8:=by rw[<- HHL.out];exact HOK.out.teams
 clear hA k1 k2 k3 es2 es3 eh2 eh3 er2 er3
 go_wp2_with fail
 clear b1 hc
 go_loopw [6] (fun iv wr=>∃ k:Nat,iv=.int .i64 k/\k<=R/\Hid (∀ u,u<k->(p.getD u []).length=N/\(∀ i,i<N->Zbj t p u i)/\ZZ p u N<=eH t u)/\Hid (Env w.heap.size w [(w.heap.size,efO (.slice (some ⟨sb,so,none⟩) N cs) (.slice (some ⟨hb',ho,none⟩) R ch) (.slice (some ⟨rb,ro,none⟩) R cr))] [] wr)) (fun iv _=>R-(intOf iv).toNat)
 case atStart=>exact⟨0,rfl,ZoD _,fun i h=>Zo4 h (ZoQ _),HE1⟩
 case round=>
  clear HE1
  obtain⟨u,rfl,hu,HU,HE⟩:=hrel
  by_cases hlt:u<R
  ·obtain⟨qb,qo,rfl,hqb,hat⟩:=HP.out.at IIL.stays HTL.out Za
   have hul:u<p.length:=by rw[HTL.out];exact hlt
   obtain⟨v,e0',hil⟩:=hat w (Zoq _ w) u hul
   rw[Zo2] at e0'
   obtain⟨l,hl⟩:=Zpg (p[u])
   rw[hl] at hil
   obtain⟨n,hn⟩:=Zpg l.length
   obtain⟨lp,lc,rfl,hlc1,hlc2⟩:=hil.shape hn
   have HL:Hid (p.getD u []=l):=by show _=_;rw[<- hl];simp[List.getD,hul]
   have HLG:Hid (p[u]'(hul)=l):=hl
   have HNN:=Zpe hn
   have HIL:Hid (∀ V,Below w.heap.size w V->IL V (.slice lp n lc) l):=fun V hV=>hil.after IntR.stays hV Zpf
   have HROW:Hid (∀ V,Below w.heap.size w V->V.cell? ⟨qb,qo+u,none⟩=some (.slice lp n lc)):=fun V hV=>(hV.cell (p:=⟨qb,qo+u,none⟩) hqb).trans e0'
   have i0':(0:Int)<=(u:Int):=Za
   have i1':(u:Int)<(R:Int):=Za
   clear hat hl hn hil e0'
   go_wp2_with fail
   refine ZP [(1,0),(1,1),(1,2),(1,3),(1,4),(1,5),(1,6),(1,7),(1,8)] (Env w.heap.size w [(w.heap.size,efO (.slice (some ⟨sb,so,none⟩) N cs) (.slice (some ⟨hb',ho,none⟩) R ch) (.slice (some ⟨rb,ro,none⟩) R cr))] []) (fun _=>false)
    Zb Zb (fun _ _=>rfl) Zi HE.out.drew ?_
   obtain⟨w4,hw4⟩:=Zpg wr.drew
   have HE4:=Zpe HE.out.drew
   rw[hw4] at HE4 ⊢
   clear hw4 HE
   iterate 9
    refine Zx _ rfl rfl (fun w' hS=>by have b0:=hS.cell 0 0 (v:=.slice (some ⟨sb,so,none⟩) N cs) rfl rfl;have e0:=HROW.out _ hS.base;exact Ze) ?_
    simp only[Act.put,Zl]
   refine ZD ?_
   by_cases hnN:n=N
   rotate_left
   ·have HNO:Hid (¬ PlanOk t p):=fun k=>hnN (by have:=k.row u hul;rw[HLG.out,HNN.out,HN.out] at this;exact this)
    have hc:((n:Int) !=(N:Int))=true:=by rw[bne_iff_ne];omega
    clear hnN
    go_wp2
    exact Zor (v:=.bool false) (by simp[results,Tryz.f72,go_sem]) rfl ⟨false,rfl,Zbh (HNO.out),HE4.out.base⟩
   subst hnN
   rw[show ((n:Int) !=(n:Int))=false by simp]
   obtain⟨lb,lo,rfl,hlb,hlat⟩:=(HIL.out w (Zoq _ _)).at IntR.stays HNN.out Za
   have HLA:Hid (∀ V,Below w.heap.size w V->∀ j,j<n->V.cell? ⟨lb,lo+j,none⟩=some (.int .i64 (pN p u j))):=fun V hV j hj=>by
    have h1:=hlat V hV j (by rw[HNN.out];exact hj)
    unfold IntR at h1
    rw[Zo2] at h1
    rw[show pN p u j=l[j]'(by rw[HNN.out];exact hj) by unfold pN;rw[HL.out];simp[List.getD,HNN.out,hj]]
    exact h1
   have HRT:Hid (∀ i,i<n->∀ V,Below w.heap.size w V->V.cell? ⟨rb,ro+u,none⟩=some (.slice (some ⟨rq u,rp u,none⟩) n (rc u))/\V.cell? ⟨rq u,rp u+i*2,none⟩=some (.string (eR t u i).1)):=fun i hi V hV=>by
    obtain⟨a1,_,_,a2⟩:=(HA.out V hV).rate u (by rw[HRL.out];exact hlt)
    rw[HN.out] at a1 a2
    exact⟨a1,(a2 i hi).1⟩
   obtain⟨_,hrc1,hrc2,_⟩:=(HA.out w (Zoq _ _)).rate u (by rw[HRL.out];exact hlt)
   rw[HN.out] at hrc1
   obtain⟨q1,hq1⟩:=Zpg (rq u)
   obtain⟨o1,ho1⟩:=Zpg (rp u)
   obtain⟨c1,hc1⟩:=Zpg (rc u)
   rw[hq1,ho1,hc1] at HRT
   rw[hc1] at hrc1 hrc2
   clear hlat hq1 ho1 hc1
   go_wp2_with fail
   go_loopw [7,8] (fun sv iv wv=>∃ i:Nat,iv=.int .i64 i/\i<=n/\sv=.int .i64 (ZZ p u i)/\Hid (∀ j,j<i->Zbj t p u j)/\Hid (Env w.heap.size w [(w.heap.size,efO (.slice (some ⟨sb,so,none⟩) n cs) (.slice (some ⟨hb',ho,none⟩) R ch) (.slice (some ⟨rb,ro,none⟩) R cr))] [] wv)) (fun _ iv _=>n-(intOf iv).toNat)
   case atStart=>exact⟨0,rfl,ZoD _,rfl,fun i h=>Zo4 h (ZoQ _),HE4⟩
   case round=>
    clear HE4
    obtain⟨i,rfl,hi,rfl,HH,HEV⟩:=hrel
    have e0:=HROW.out _ HEV.out.base
    by_cases hlt2:i<n
    ·have c0:=HLA.out _ HEV.out.base i hlt2
     have HRX:=Zpe (HRT.out i hlt2)
     have hrn:=ZmM HOK.out (u:=u) (i:=i) (by rw[HRL.out];exact hlt) (by rw[HN.out];exact hlt2)
     obtain⟨m,hm⟩:=Zpg (pN p u i)
     obtain⟨⟨s1,t1⟩,hs1'⟩:∃ z,eR t u i=z:=⟨_,rfl⟩
     rw[hm] at c0
     rw[hs1'] at HRX hrn
     dsimp only at HRX hrn
     have HM:=Zpe hm
     have HRN:=Zpe hrn
     have j0':(0:Int)<=(i:Int):=Za
     have j1':(i:Int)<(n:Int):=Za
     clear hm hs1' hrn
     go_wp2_with fail
     refine(ZcT m 0 48 _).mono ?_
     rintro e w5 ⟨rfl,hb⟩
     have HE5:=Zpe (HEV.out.step hb)
     clear hb e0 c0 HEV
     by_cases hw:0<=m/\m<=48
     rotate_left
     ·have HNO:Hid (¬ PlanOk t p):=fun k=>hw (by have:=(k.hour u i hul (by rw[HN.out];exact hlt2)).1;rw[HM.out] at this;exact this)
      rw[ZdB hw]
      clear hw
      go_wp2
      exact Zor (v:=.bool false) (by simp[results,Tryz.f72,go_sem]) rfl ⟨false,rfl,Zbh (HNO.out),HE5.out.base⟩
     rw[ZcQ hw]
     have hs1:=Zex (p:=p) (u:=u) (N:=i) (fun j hj=>(HH.out j hj).1) i Zpf
     have e1:Hid (IntKind.i64.wrap (ZZ p u i+m)=ZZ p u (i+1)):=by
      show _=_
      rw[Zo1 _ Za]
      show _=ZZ p u i+pN p u i
      rw[HM.out]
     have HHN:Hid (Zbj t p u i->∀ j,j<i+1->Zbj t p u j):=fun h j hj=>by
      rcases Zow j i with h1 | h1
      ·exact HH.out j h1
      ·obtain rfl:j=i:=Za
       exact h
     have e0:=HROW.out _ HE5.out.base
     have c0:=HLA.out _ HE5.out.base i hlt2
     rw[HM.out] at c0
     obtain⟨d0,d1⟩:=HRX.out _ HE5.out.base
     have d2:=HE5.out.cell 0 2 (v:=.slice (some ⟨rb,ro,none⟩) R cr) rfl rfl
     have e1':=e1.out
     clear hs1
     by_cases hm0:0<m
     ·by_cases hr0:rR t u i=0
      ·have HNO:Hid (¬ PlanOk t p):=fun k=>(k.hour u i hul (by rw[HN.out];exact hlt2)).2 (by rw[HM.out];exact hm0) hr0
       have hzz:(s1.toList==[48])=true:=by rw[HRN.out,decide_eq_true hr0]
       clear hw hr0 e1'
       go_wp2
       exact Zor (v:=.bool false) (by simp[results,Tryz.f72,go_sem]) rfl ⟨false,rfl,Zbh (HNO.out),HE5.out.base⟩
      ·have HOKI:=Zpe (HHN.out ⟨by rw[HM.out];exact hw,fun _=>hr0⟩)
       have hzz:(s1.toList==[48])=false:=by rw[HRN.out,decide_eq_false hr0]
       clear hw hr0
       go_wp2
       go_roundw
       case rel=>exact⟨i+1,by go_num,Za,by first | rfl | rw[e1.out],HOKI,HE5⟩
       case measure=>exact Zj
     ·have HOKI:=Zpe (HHN.out ⟨by rw[HM.out];exact hw,fun h=>Zo4 (by rw[HM.out] at h;exact h) hm0⟩)
      clear hw
      go_wp2
      go_roundw
      case rel=>exact⟨i+1,by go_num,Za,by first | rfl | rw[e1.out],HOKI,HE5⟩
      case measure=>exact Zj
    ·have hin:i=n:=Za
     have hh1:=HEV.out.cell 0 1 (v:=.slice (some ⟨hb',ho,none⟩) R ch) rfl rfl
     have a1:=(HA.out _ HEV.out.base).hour u (by rw[HHL.out];exact hlt)
     obtain⟨hh,hhh⟩:=Zpg (eH t u)
     rw[hhh] at a1
     have HHH:=Zpe hhh
     clear hhh
     by_cases hs:hh<ZZ p u i
     ·have HNO:Hid (¬ PlanOk t p):=fun k=>by
       have:=k.sum u hul
       rw[HN.out,HHH.out,<- hin] at this
       omega
      clear hin
      go_wp2
      exact Zor (v:=.bool false) (by simp[results,Tryz.f72,go_sem]) rfl ⟨false,rfl,Zbh (HNO.out),HEV.out.base⟩
     ·have HU2:Hid (∀ v,v<u+1->(p.getD v []).length=n/\(∀ i,i<n->Zbj t p v i)/\ZZ p v n<=eH t v):=fun v hv=>by
       rcases Zow v u with h1 | h1
       ·exact HU.out v h1
       ·obtain rfl:v=u:=Za
        refine⟨by rw[HL.out,HNN.out],fun j hj=>HH.out j Za,?_⟩
        rw[<- hin,HHH.out]
        omega
      clear hin
      go_wp2
      go_roundw
      case rel=>exact⟨u+1,by go_num,Za,HU2,HEV⟩
      case measure=>exact Zj
  ·have huR:u=R:=Za
   have HYES:Hid (PlanOk t p):=by
    refine⟨HOK.out,by rw[HTL.out,HHL.out],fun v hv=>?_,fun v i hv hi=>?_,fun v hv=>?_⟩
    ·have h1:=(HU.out v (by rw[huR,<- HTL.out];exact hv)).1
     rw[show p[v]=p.getD v [] by simp[List.getD,hv],h1,HN.out]
    ·exact(HU.out v (by rw[huR,<- HTL.out];exact hv)).2.1 i (by rw[<- HN.out];exact hi)
    ·rw[HN.out]
     exact(HU.out v (by rw[huR,<- HTL.out];exact hv)).2.2
   clear huR HU
   go_wp2
   exact Zor (v:=.bool true) (by simp[results,Tryz.f72,go_sem]) rfl ⟨true,rfl,⟨fun _=>HYES.out,fun _=>rfl⟩,HE.out.base⟩
theorem ZjS {t:TaskP} {sv hv rv:Value} {w:World} (h:TaskIn t sv hv rv w) (hz:LimT t) :
  Calls Tryz.prog 30 #[.agg #[sv,hv,rv]] w (Zdx (TaskOk t) w):=by
 have HE0:Hid (Env w.heap.size w [(w.heap.size,efO sv hv rv)] [] (w.alloc (efO sv hv rv))):=(Env.start w).push _ rfl
 have HC:=Zpe (Zhz (h.below HE0.out.base Zpf) hz)
 clear h hz
 go_enter Tryz.func30,Tryz.ntmps30
 go_wp2_with fail
 refine HC.out.mono ?_
 rintro e w1 ⟨r,rfl,hr,hb⟩
 have HE1:=Zpe (HE0.out.step hb)
 have HRR:=Zpe hr
 clear hb hr HE0 HC
 cases r with
 | false=>
  have HNO:Hid (¬ _):=fun k=>by have:=HRR.out.2 k;cases this
  clear HRR
  go_wp2
  exact Zor (v:=.int .i64 2) (by simp[results,Tryz.f30,go_sem]) rfl ⟨.inr ⟨HNO.out,rfl⟩,HE1.out.base⟩
 | true=>
  have HYES:=Zpe (HRR.out.1 rfl)
  clear HRR
  go_wp2
  exact Zor (v:=.int .i64 0) (by simp[results,Tryz.f30,go_sem]) rfl ⟨.inl ⟨HYES.out,rfl⟩,HE1.out.base⟩
theorem Zgj {t:TaskP} {p:List (List Int)} {sv hv rv pv:Value} {w:World} (h:TaskIn t sv hv rv w) (hz:LimT t) (hI:IIL w pv p) :
  Calls Tryz.prog 32 #[.agg #[sv,hv,rv],pv] w (Zdx (PlanOk t p) w):=by
 have HE0:Hid (Env w.heap.size w [(w.heap.size,efO sv hv rv)] [] (w.alloc (efO sv hv rv))):=(Env.start w).push _ rfl
 have HC:=Zpe (ZdV (h.below HE0.out.base Zpf) hz (IIL.stay2 hI HE0.out.base Zpf))
 clear h hz hI
 go_enter Tryz.func32,Tryz.ntmps32
 go_wp2_with fail
 refine HC.out.mono ?_
 rintro e w1 ⟨r,rfl,hr,hb⟩
 have HE1:=Zpe (HE0.out.step hb)
 have HRR:=Zpe hr
 clear hb hr HE0 HC
 cases r with
 | false=>
  have HNO:Hid (¬ _):=fun k=>by have:=HRR.out.2 k;cases this
  clear HRR
  go_wp2
  exact Zor (v:=.int .i64 2) (by simp[results,Tryz.f32,go_sem]) rfl ⟨.inr ⟨HNO.out,rfl⟩,HE1.out.base⟩
 | true=>
  have HYES:=Zpe (HRR.out.1 rfl)
  clear HRR
  go_wp2
  exact Zor (v:=.int .i64 0) (by simp[results,Tryz.f32,go_sem]) rfl ⟨.inl ⟨HYES.out,rfl⟩,HE1.out.base⟩
abbrev inO (n:Int):Obj:=.cells #[.int .i64 n] 3
theorem Zmb {t:TaskP} {p:List (List Int)} {u i:Nat} {Ge Gp Gu Gi Gr:Nat} {ps ph pr pp:Option Addr} {ns nh nr np cs ch cr cp:Nat} {W:World} (he:W.heap[Ge]?=some (efO (.slice ps ns cs) (.slice ph nh ch) (.slice pr nr cr))) (hp:W.heap[Gp]?=some (plO (.slice pp np cp))) (hu':W.heap[Gu]?=some (inO u)) (hi':W.heap[Gi]?=some (inO i)) (hr:W.heap[Gr]?=some (pObj Zpa Zpa))
  (hT:TaskIn t (.slice ps ns cs) (.slice ph nh ch) (.slice pr nr cr) W) (hI:IIL W (.slice pp np cp) p) (ok:PlanOk t p) (hu:u<t.hours.length) (hi:i<t.sites.length) :
  Calls Tryz.prog 77 #[.pointer (some ⟨Ge,0,none⟩),.pointer (some ⟨Gp,0,none⟩),.pointer (some ⟨Gu,0,none⟩),.pointer (some ⟨Gi,0,none⟩),.pointer (some ⟨Gr,0,none⟩)] W (ZfA (ResQ (fun x y n=>n=0/\IsP (Zay t p u i) x y) Gr) (fun b=>b≠Gr) W):=by
 have HS0:Hid (∀ V,Below W.heap.size W V->V.heap[Ge]?=some (efO (.slice ps ns cs) (.slice ph nh ch) (.slice pr nr cr))/\V.heap[Gp]?=some (plO (.slice pp np cp))/\V.heap[Gu]?=some (inO u)/\V.heap[Gi]?=some (inO i)/\V.heap[Gr]?=some (pObj Zpa Zpa)/\TaskIn t (.slice ps ns cs) (.slice ph nh ch) (.slice pr nr cr) V/\IIL V (.slice pp np cp) p):=fun V hV=>
  ⟨(hV.block _ (Zo9 he)).trans he,(hV.block _ (Zo9 hp)).trans hp,(hV.block _ (Zo9 hu')).trans hu',(hV.block _ (Zo9 hi')).trans hi',(hV.block _ (Zo9 hr)).trans hr,hT.below hV Zpf,IIL.stay2 hI hV Zpf⟩
 have HOK:=Zpe ok
 have HUI:=Zpe (Zo5 hu hi)
 have hgr:=(Zo9 hr)
 clear he hp hr hT hI ok hu hi hu' hi'
 go_enter Tryz.func77,Tryz.ntmps77
 go_wp2_with fail
 refine ZP [(1,0),(1,1),(1,3),(1,4),(0,2),(0,5),(0,6)] (fun V=>Below W.heap.size W V) (fun i=>i==6)
  Zb Zb (fun j hj=>by have h:7<=j:=hj;simp;omega) Zi (Zoq _ W).drew ?_
 have HB0:Hid (Below W.heap.size W W.drew):=(Zoq _ W).drew
 obtain⟨V,hV⟩:=Zpg W.drew
 rw[hV] at HB0 ⊢
 clear hV
 iterate 4
  refine Zx _ rfl rfl (fun w' hS=>by obtain⟨q1,q2,q3,q4,_⟩:=HS0.out _ hS;have e0:=Zn q1 0 (v:=.slice ps ns cs) rfl;have e1:=Zn q1 1 (v:=.slice ph nh ch) rfl;have e2:=Zn q1 2 (v:=.slice pr nr cr) rfl;have p0:=Zn q2 0 (v:=.slice pp np cp) rfl;have u0:=Zn q3 0 (v:=.int .i64 u) rfl;have i0:=Zn q4 0 (v:=.int .i64 i) rfl;exact Ze) ?_
  simp only[Act.put,Zl]
 refine Zy 48 _ rfl rfl Zf ?_
 refine(Zde (HS0.out _ HB0.out).2.2.2.2.2.1 (HS0.out _ HB0.out).2.2.2.2.2.2 HOK.out.len8.2 HOK.out.task.sites (fun u h=>HOK.out.row u h)).mono ?_
 rintro e V1 ⟨b,m,sv,hv,rv,pv,gq,gc,rfl,hW,hP,hM,hm,hb1,hb⟩
 obtain⟨pb,pc,_,hPW⟩:=hP.toW HOK.out.len8.1
 have HB1:Zo8 W V1:=HB0.out.trans (hb.mono HB0.out.size)
 have HC:=Zpe (ZhH hW hPW hM Zd HOK.out.task HOK.out.inn (by rw[HOK.out.task.rates];exact HUI.out.1) HUI.out.2)
 have hmw:W.heap.size<=m:=Zoz HB0.out.size hm
 refine .inl ⟨_,rfl,HB1.out,?_⟩
 clear hb hW hP hM hPW hm hb1 HB0
 simp only[Act.put,Zl]
 refine Zy 78 _ rfl rfl Zf ?_
 refine HC.out.mono ?_
 rintro e V2 ⟨x,y,rfl,hx,hk,_⟩
 have HB2:Zo8 W V2:=HB1.out.trans (hk.below_of (fun c hc=>by show c≠m;omega) HB1.out.size)
 have HX:=Zpe hx
 have HR:=Zpe (HS0.out _ HB2.out).2.2.2.2.1
 refine .inl ⟨_,rfl,HB2.out,?_⟩
 clear hk hx HB1 HC
 simp only[Act.put,Zl]
 have r0:=Zn HR.out 0 (v:=.string Zpa) rfl
 have r1:=Zn HR.out 1 (v:=.string Zpa) rfl
 have f0:=Zo HR.out 0
 have f1:=Zo HR.out 1
 refine ZB rfl rfl fun K hK=>?_
 go_simp
 obtain⟨V3,hV3⟩:=Zpg ((V2.setCell ⟨Gr,0,none⟩ (.string x)).setCell ⟨Gr,1,none⟩ (.string y))
 have hR3:V3.heap[Gr]?=some (pObj x y):=by rw[<- hV3];exact Zah HR.out _ _
 have hK3:Keeps (fun b=>b≠Gr) W V3:=by rw[<- hV3];exact((HB2.out.keepsS (fun b=>b≠Gr)).setCell (p:=⟨Gr,0,none⟩) Zc _).setCell (p:=⟨Gr,1,none⟩) Zc _
 have HF3:=Zpe (Zo5 hR3 hK3)
 rw[hV3]
 refine hK _ _ (.inl rfl) ?_
 clear hK K hV3 r0 r1 f0 f1 hR3 hK3
 refine ZD ?_
 go_wp2
 exact Zor (results_none rfl _ _ _) rfl ⟨0,.inl ⟨rfl,rfl⟩,⟨x,y,HF3.out.1,rfl,HX.out⟩,HF3.out.2⟩
def Zc2 (t:TaskP) (p:List (List Int)) (u i:Int):Prop:=PlanOk t p/\(0<=u/\u<=t.hours.length-1)/\(0<=i/\i<=t.sites.length-1)
def Zb5 (t:TaskP) (p:List (List Int)) (u i:Int) (x y:ByteArray) (n:Int):Prop:=(¬ Zc2 t p u i/\x=Zpa/\y=Zpa/\n=2)\/(Zc2 t p u i/\n=0/\IsP (Zay t p u.toNat i.toNat) x y)
theorem Zl5 {t:TaskP} {p:List (List Int)} {u i:Int} {sv hv rv pv:Value} {w:World} (hT:TaskIn t sv hv rv w) (hz:LimT t) (hI:IIL w pv p) :
  Calls Tryz.prog 27 #[.agg #[sv,hv,rv],pv,.int .i64 u,.int .i64 i] w (ZL (Zb5 t p u i) w):=by
 obtain⟨ps,cs,rfl,_⟩:=hT.sites.shape rfl
 obtain⟨ph,ch,rfl,_⟩:=hT.hours.shape rfl
 obtain⟨pr,cr,rfl,_⟩:=hT.rates.shape rfl
 obtain⟨pp,pc,rfl,_⟩:=hI.shape rfl
 obtain⟨ns,hns⟩:=Zpg t.sites.length
 obtain⟨nh,hnh⟩:=Zpg t.hours.length
 obtain⟨nr,hnr⟩:=Zpg t.rates.length
 obtain⟨np,hnp⟩:=Zpg p.length
 rw[hns,hnh,hnr] at hT ⊢
 rw[hnp] at hI ⊢
 have HT:=Zpe hT
 have HI:=Zpe hI
 have HZ:=Zpe hz
 have HL:=Zpe (Zo5 hns hnh)
 have hmf:∀ (fn:Fn) (first cap:Array Value) (w:World),(Instr.makeFunc fn first cap).run Tryz.prog w=.ok (.func fn first cap) w:=fun _ _ _ _=>rfl
 obtain⟨G,hG⟩:=Zpg w.heap.size
 obtain⟨w1,hw1⟩:=Zpg ((((((w.alloc (efO (.slice ps ns cs) (.slice ph nh ch) (.slice pr nr cr))).alloc (plO (.slice pp np pc))).alloc (inO u)).alloc (inO i)).alloc (pObj Zpa Zpa)))
 have HE1:Hid (Env w.heap.size w [(G+1+1+1+1,pObj Zpa Zpa),(G+1+1+1,inO i),(G+1+1,inO u),(G+1,plO (.slice pp np pc)),(G,efO (.slice ps ns cs) (.slice ph nh ch) (.slice pr nr cr))] [] w1):=by
  rw[<- hw1,<- hG]
  exact(((((Env.start w).push _ rfl).push _ Zc).push _ Zc).push _ Zc).push _ Zc
 have HGG:=Zpe hG
 have e0:=HE1.out.cell 4 0 (v:=.slice ps ns cs) rfl rfl
 have e1:=HE1.out.cell 4 1 (v:=.slice ph nh ch) rfl rfl
 have e2:=HE1.out.cell 4 2 (v:=.slice pr nr cr) rfl rfl
 have p0:=HE1.out.cell 3 0 (v:=.slice pp np pc) rfl rfl
 clear hT hI hz hns hnh hnr hnp
 go_enter Tryz.func27,Tryz.ntmps27
 go_wp2_with fail
 refine(Zb7 (HT.out.below HE1.out.base Zpf) HZ.out (IIL.stay2 HI.out HE1.out.base Zpf)).mono ?_
 rintro e w2 ⟨hE,hb⟩
 have HE2:=Zpe (HE1.out.step hb)
 clear hb HE1 e0 e1 e2 p0 hw1 hG
 rcases hE with ⟨hok,rfl⟩ | ⟨hok,rfl⟩
 rotate_left
 ·have HNO:Hid (¬ Zc2 t p u i):=fun h=>hok h.1
  clear hok
  have HA:Hid (Zb5 t p u i Zpa Zpa 2):=.inl ⟨HNO.out,rfl,rfl,rfl⟩
  have r0:=HE2.out.cell 0 0 (v:=.string Zpa) rfl rfl
  have r1:=HE2.out.cell 0 1 (v:=.string Zpa) rfl rfl
  have f0:=HE2.out.free 0 0 rfl
  have f1:=HE2.out.free 0 1 rfl
  go_wp2
  have HE9:=Zpe (HE2.out.fill (.string Zpa) (.string Zpa))
  have q0:=HE9.out.cell 0 0 (v:=.string Zpa) rfl rfl
  have q1:=HE9.out.cell 0 1 (v:=.string Zpa) rfl rfl
  exact Zor (v:=.tuple #[Zpb Zpa Zpa,.int .i64 2]) (by simp[results,Tryz.f27,go_sem,q0,q1]) rfl ⟨Zpa,Zpa,2,rfl,HA.out,HE9.out.base⟩
 have HOK:=Zpe hok
 have hT8:1<=nh/\nh<=8:=by rw[<- HL.out.2];exact hok.task.teams
 have hN24:1<=ns/\ns<=24:=by rw[<- HL.out.1];exact hok.task.sites
 have e1:=HE2.out.cell 4 1 (v:=.slice ph nh ch) rfl rfl
 have u0:=HE2.out.cell 2 0 (v:=.int .i64 u) rfl rfl
 clear hok
 go_wp2_with fail
 refine(ZbK u 0 ((nh:Int)-1) _).mono ?_
 rintro e w3 ⟨rfl,hb⟩
 have HE3:=Zpe (HE2.out.step hb)
 clear hb HE2 e1 u0
 by_cases hU:0<=u/\u<=(nh:Int)-1
 rotate_left
 ·have HNO:Hid (¬ Zc2 t p u i):=fun h=>hU (by have:=h.2.1;rw[HL.out.2] at this;exact this)
  have hw:(decide ((0:Int)<=u) && decide (u<=(nh:Int)-1))=false:=by
   rw[<- Bool.not_eq_true]
   simp only[ZoY,ZoZ]
   exact hU
  rw[hw]
  clear hU hw
  have HA:Hid (Zb5 t p u i Zpa Zpa 2):=.inl ⟨HNO.out,rfl,rfl,rfl⟩
  have r0:=HE3.out.cell 0 0 (v:=.string Zpa) rfl rfl
  have r1:=HE3.out.cell 0 1 (v:=.string Zpa) rfl rfl
  have f0:=HE3.out.free 0 0 rfl
  have f1:=HE3.out.free 0 1 rfl
  go_wp2
  have HE9:=Zpe (HE3.out.fill (.string Zpa) (.string Zpa))
  have q0:=HE9.out.cell 0 0 (v:=.string Zpa) rfl rfl
  have q1:=HE9.out.cell 0 1 (v:=.string Zpa) rfl rfl
  exact Zor (v:=.tuple #[Zpb Zpa Zpa,.int .i64 2]) (by simp[results,Tryz.f27,go_sem,q0,q1]) rfl ⟨Zpa,Zpa,2,rfl,HA.out,HE9.out.base⟩
 have hw:(decide ((0:Int)<=u) && decide (u<=(nh:Int)-1))=true:=by simp;exact hU
 rw[hw]
 clear hw
 have e0:=HE3.out.cell 4 0 (v:=.slice ps ns cs) rfl rfl
 have i0:=HE3.out.cell 1 0 (v:=.int .i64 i) rfl rfl
 go_wp2_with fail
 refine(ZbK i 0 ((ns:Int)-1) _).mono ?_
 rintro e w4 ⟨rfl,hb⟩
 have HE4:=Zpe (HE3.out.step hb)
 clear hb HE3 e0 i0
 by_cases hX:0<=i/\i<=(ns:Int)-1
 rotate_left
 ·have HNO:Hid (¬ Zc2 t p u i):=fun h=>hX (by have:=h.2.2;rw[HL.out.1] at this;exact this)
  have hw:(decide ((0:Int)<=i) && decide (i<=(ns:Int)-1))=false:=by
   rw[<- Bool.not_eq_true]
   simp only[ZoY,ZoZ]
   exact hX
  rw[hw]
  clear hX hw
  have HA:Hid (Zb5 t p u i Zpa Zpa 2):=.inl ⟨HNO.out,rfl,rfl,rfl⟩
  have r0:=HE4.out.cell 0 0 (v:=.string Zpa) rfl rfl
  have r1:=HE4.out.cell 0 1 (v:=.string Zpa) rfl rfl
  have f0:=HE4.out.free 0 0 rfl
  have f1:=HE4.out.free 0 1 rfl
  go_wp2
  have HE9:=Zpe (HE4.out.fill (.string Zpa) (.string Zpa))
  have q0:=HE9.out.cell 0 0 (v:=.string Zpa) rfl rfl
  have q1:=HE9.out.cell 0 1 (v:=.string Zpa) rfl rfl
  exact Zor (v:=.tuple #[Zpb Zpa Zpa,.int .i64 2]) (by simp[results,Tryz.f27,go_sem,q0,q1]) rfl ⟨Zpa,Zpa,2,rfl,HA.out,HE9.out.base⟩
 have hw:(decide ((0:Int)<=i) && decide (i<=(ns:Int)-1))=true:=by simp;exact hX
 rw[hw]
 clear hw
 obtain⟨u,rfl⟩:∃ n:Nat,u=n:=⟨u.toNat,Za⟩
 obtain⟨i,rfl⟩:∃ n:Nat,i=n:=⟨i.toNat,Za⟩
 have HAO:Hid (Zc2 t p u i):=⟨HOK.out,by rw[HL.out.2];exact hU,by rw[HL.out.1];exact hX⟩
 have HUI:Hid (u<t.hours.length/\i<t.sites.length):=by
  show _/\_
  rw[HL.out.1,HL.out.2]
  omega
 have hs1:G+5<=w4.heap.size:=by
  have:=HE4.out.lt 0 rfl
  omega
 have HTR:Hid (Calls Tryz.prog 50 #[.func (.func 77) #[] #[.pointer (some ⟨G,0,none⟩),.pointer (some ⟨G+1,0,none⟩),.pointer (some ⟨G+1+1,0,none⟩),.pointer (some ⟨G+1+1+1,0,none⟩),.pointer (some ⟨G+1+1+1+1,0,none⟩)]] w4 (ZdF (ResQ (fun x y n=>n=0/\IsP (Zay t p u i) x y) (G+1+1+1+1)) (fun b=>b≠G+1+1+1+1) w4)):=by
  have hal:Below w4.heap.size w4 (w4.alloc (erO 0)):=(Zoq _ w4).alloc Zpf _
  have hE2:=HE4.out.step hal
  refine Zds (enters_of Tryz.func77 Zb rfl) (fun b hb=>by show b≠G+1+1+1+1;omega) (fun n W W'=>ResQ.stay Za n W W') ?_
  have hbw:Below w.heap.size w (w4.alloc (erO 0)):=HE4.out.base.trans (hal.mono HE4.out.own)
  exact Zmb (hE2.block 4 rfl) (hE2.block 3 rfl) (hE2.block 2 rfl) (hE2.block 1 rfl) (hE2.block 0 rfl) (HT.out.below hbw Zpf) (IIL.stay2 HI.out hbw Zpf) HOK.out HUI.out.1 HUI.out.2
 clear hU hX
 go_wp2_with fail
 refine HTR.out.mono ?_
 rintro e w5 ⟨n,rfl,⟨x,y,hxy,rfl,hS⟩,hk⟩
 have HA:Hid (Zb5 t p u i x y 0):=.inr ⟨HAO.out,rfl,hS⟩
 have HXY:=Zpe hxy
 have HB5:Zo8 w w5:=HE4.out.base.trans (hk.below_of (fun b hb=>by have:=HGG.out;show b≠G+1+1+1+1;omega) HE4.out.own)
 clear hS hk HTR
 have r0:=Zn HXY.out 0 (v:=.string x) rfl
 have r1:=Zn HXY.out 1 (v:=.string y) rfl
 have f0:=Zo HXY.out 0
 have f1:=Zo HXY.out 1
 clear hxy
 go_wp2
 obtain⟨q0,q1⟩:=Zu HXY.out (.string x) (.string y)
 exact Zor (v:=.tuple #[Zpb x y,.int .i64 0]) (by simp[results,Tryz.f27,go_sem,q0,q1]) rfl ⟨x,y,0,rfl,HA.out,Zs HB5.out (by have:=HGG.out;omega) (.string x) (.string y)⟩
theorem Zfj {p:List (List Int)} {N:Nat} {pv:Value} {w:World} (h:IIL w pv p) (h0:0<p.length) (hN:0<N) (hrow:∀ u (h:u<p.length),p[u].length=N) :
  ∃ pb po pc gq gp gc,pv=.slice (some ⟨pb,po,none⟩) p.length pc/\∀ b V,w.heap.size<=b->Below w.heap.size w V->PlanW p N b pv pb po pc gq gp gc V:=by
 obtain⟨pb,po,pc,rfl,h1,h2,h3,h4⟩:=Zbm h h0
 obtain⟨z,hz⟩:∃ z:Nat->Nat×Nat×Nat,∀ u,u<p.length->w.cell? ⟨pb,po+u,none⟩=some (.slice (some ⟨(z u).1,(z u).2.1,none⟩) N (z u).2.2)/\N<=(z u).2.2/\(z u).2.2<=9223372036854775807/\
   (z u).1<w.heap.size/\∀ i,i<N->w.cell? ⟨(z u).1,(z u).2.1+i,none⟩=some (.int .i64 (pN p u i)):=by
  refine Zem (Q:=fun u (z:Nat×Nat×Nat)=>w.cell? ⟨pb,po+u,none⟩=some (.slice (some ⟨z.1,z.2.1,none⟩) N z.2.2)/\N<=z.2.2/\z.2.2<=9223372036854775807/\
   z.1<w.heap.size/\∀ i,i<N->w.cell? ⟨z.1,z.2.1+i,none⟩=some (.int .i64 (pN p u i))) fun u hu=>?_
  obtain⟨v,h5,h6⟩:=h4 u hu
  have h7:=hrow u hu
  obtain⟨b,o,c,rfl,c1,c2,c3,c4⟩:=Zbm h6 Za
  rw[Zo2,h7] at h5
  refine⟨(b,o,c),h5,by rw[<- h7];exact c1,c2,c3,fun i hi=>?_⟩
  have hi':i<p[u].length:=Za
  have:=c4 i hi'
  unfold IntR at this
  rw[Zo2,Zn3 hu hi'] at this
  exact this
 refine⟨pb,po,pc,fun u=>(z u).1,fun u=>(z u).2.1,fun u=>(z u).2.2,rfl,fun b V hb hV=>⟨rfl,⟨h1,h2⟩,fun u hu=>?_,Za,fun u hu=>?_⟩⟩
 ·obtain⟨b0,b1,b2,b3,b4⟩:=hz u hu
  exact⟨(hV.cell (p:=⟨pb,po+u,none⟩) h3).trans b0,b1,b2,fun i hi=>(hV.cell (p:=⟨(z u).1,(z u).2.1+i,none⟩) b3).trans (b4 i hi)⟩
 ·have:=(hz u hu).2.2.2.1
  show (z u).1≠b
  omega
structure SmIn (t:TaskP) (sv hv rv:Value) (w W W1:World) (b:Nat):Prop where
 sm:W1.heap[b]?=some (smO 0)
 task:Zb0 b (TaskIn t sv hv rv) W1
 ge:w.heap.size<=b
 now:Below w.heap.size w W1
 keep:∀ V,Keeps (NotM b) W1 V->Below w.heap.size w V/\∀ (g:Nat) (o:Obj),W.heap[g]?=some o->V.heap[g]?=some o
theorem smIn {t:TaskP} {sv hv rv:Value} {w W W1:World} {b:Nat} (hT:TaskIn t sv hv rv w) (hB:Below w.heap.size w W) (hb:W.heap.size=b) (hw:W.alloc (smO 0)=W1):SmIn t sv hv rv w W W1 b:=by
 have hal:Below W.heap.size W W1:=by rw[<- hw];exact(Zoq _ W).alloc Zpf _
 have hB1:Below w.heap.size w W1:=hB.trans (hal.mono hB.size)
 have hbs:w.heap.size<=b:=by rw[<- hb];exact hB.size
 refine⟨by rw[<- hw,<- hb];exact Zot W _,⟨w,hT,hB1,hbs⟩,hbs,hB1,fun V hV=>⟨hB1.trans (hV.below_of (fun c hc=>by show c≠b;omega) hB1.size),fun g o hg=>?_⟩⟩
 have hgl:=(Zo9 hg)
 exact(hV.block g (Zox hgl hal.size) (by show g≠b;omega)).trans ((hal.block g hgl).trans hg)
theorem Zlj {t:TaskP} {p:List (List Int)} {sv hv rv pv:Value} {w:World} (hT:TaskIn t sv hv rv w) (hz:LimT t) (hI:IIL w pv p) :
  Calls Tryz.prog 26 #[.agg #[sv,hv,rv],pv] w (ZL (ZcC t p) w):=by
 have HT:=Zpe hT
 have HZ:=Zpe hz
 have HI:=Zpe hI
 obtain⟨ps,cs,rfl,_⟩:=hT.sites.shape rfl
 obtain⟨ph,ch,rfl,_⟩:=hT.hours.shape rfl
 obtain⟨pr,cr,rfl,_⟩:=hT.rates.shape rfl
 obtain⟨pp,pc,rfl,_⟩:=hI.shape rfl
 obtain⟨ns,hns⟩:=Zpg t.sites.length
 obtain⟨nh,hnh⟩:=Zpg t.hours.length
 obtain⟨nr,hnr⟩:=Zpg t.rates.length
 obtain⟨np,hnp⟩:=Zpg p.length
 rw[hns,hnh,hnr] at HT ⊢
 rw[hnp] at HI ⊢
 obtain⟨G,hG⟩:=Zpg w.heap.size
 have HGG:=Zpe hG
 have HE0:Hid (Env w.heap.size w [(G+1,pObj Zpa Zpa),(G,efO (.slice ps ns cs) (.slice ph nh ch) (.slice pr nr cr))] [] ((w.alloc (efO (.slice ps ns cs) (.slice ph nh ch) (.slice pr nr cr))).alloc (pObj Zpa Zpa))):=((Env.start w).push _ hG.symm).push _ (by simp[hG])
 clear hT hz hI hns hnh hnr hnp
 go_enter Tryz.func26,Tryz.ntmps26
 go_wp2_with fail
 refine(ZdV (HT.out.below HE0.out.base Zpf) HZ.out (IIL.stay2 HI.out HE0.out.base Zpf)).mono ?_
 rintro e w1 ⟨r,rfl,hr,hb⟩
 have HE1:=Zpe (HE0.out.step hb)
 have HRR:=Zpe hr
 clear hb hr HE0
 try rw[hG]
 clear hG
 cases r with
 | false=>
  have HNO:Hid (¬ PlanOk t p):=fun k=>by have:=HRR.out.2 k;cases this
  clear HRR
  have HA:Hid (ZcC t p Zpa Zpa 2):=.inl ⟨HNO.out,rfl,rfl,rfl⟩
  have r0:=HE1.out.cell 0 0 (v:=.string Zpa) rfl rfl
  have r1:=HE1.out.cell 0 1 (v:=.string Zpa) rfl rfl
  have f0:=HE1.out.free 0 0 rfl
  have f1:=HE1.out.free 0 1 rfl
  go_wp2
  have HE9:=Zpe (HE1.out.fill (.string Zpa) (.string Zpa))
  have q0:=HE9.out.cell 0 0 (v:=.string Zpa) rfl rfl
  have q1:=HE9.out.cell 0 1 (v:=.string Zpa) rfl rfl
  exact Zor (v:=.tuple #[Zpb Zpa Zpa,.int .i64 2]) (by simp[results,Tryz.f26,go_sem,q0,q1]) rfl ⟨Zpa,Zpa,2,rfl,HA.out,HE9.out.base⟩
 | true=>
 have HOK:Hid (PlanOk t p):=HRR.out.1 rfl
 clear HRR
 obtain⟨pb,po,pc',gq,gp,gc,_,hPW⟩:=Zfj HI.out HOK.out.len8.1 HOK.out.task.sites.1 (fun u h=>HOK.out.row u h)
 obtain⟨b,hb⟩:=Zpg w1.heap.size
 obtain⟨w2,hw2⟩:=Zpg (w1.alloc (smO 0))
 have HS:=Zpe (smIn HT.out HE1.out.base hb hw2)
 have HR0:=Zpe (HE1.out.block 0 rfl)
 have hg1:=HS.out.keep _ (Keeps.refl _ _)
 have g1:=hg1.2 _ _ (HE1.out.block 1 rfl)
 have e0:=Zn g1 0 (v:=.slice ps ns cs) rfl
 have e1:=Zn g1 1 (v:=.slice ph nh ch) rfl
 have e2:=Zn g1 2 (v:=.slice pr nr cr) rfl
 have HVL:=Zpe (Zk9 HS.out.task (hPW b w2 HS.out.ge HS.out.now) HS.out.sm HOK.out.task HOK.out.inn)
 clear hg1 g1 hPW HE1
 go_wp2_with fail
 try rw[hb]
 try rw[hw2]
 clear hb hw2
 refine HVL.out.mono ?_
 rintro e w3 ⟨x,y,E,hvs,rfl,hk,hsm⟩
 have HVS:=Zpe hvs
 have HK:=Zpe hk
 clear hvs hk HVL e0 e1 e2
 go_wp2_with fail
 refine(Zgp x y hsm).mono ?_
 rintro e w4 ⟨rfl,hb4⟩
 have KK:=HS.out.keep w4 (HK.out.trans (hb4.keepsS _))
 have HA:Hid (ZcC t p (if E=0 then x else Zpa) (if E=0 then y else Zpa) E):=.inr ⟨HOK.out,HVS.out.sum⟩
 obtain⟨x',hx'⟩:∃ z,(if E=0 then x else Zpa)=z:=⟨_,rfl⟩
 obtain⟨y',hy'⟩:∃ z,(if E=0 then y else Zpa)=z:=⟨_,rfl⟩
 rw[hx',hy'] at HA ⊢
 clear hb4 hsm hx' hy'
 obtain⟨hbv,hgv⟩:=KK
 have g0:=hgv _ _ HR0.out
 have r0:=Zn g0 0 (v:=.string Zpa) rfl
 have r1:=Zn g0 1 (v:=.string Zpa) rfl
 have f0:=Zo g0 0
 have f1:=Zo g0 1
 have HBV:=Zpe hbv
 have HG0:=Zpe g0
 clear hbv hgv g0
 go_wp2
 obtain⟨q0,q1⟩:=Zu HG0.out (.string x') (.string y')
 exact Zor (v:=.tuple #[Zpb x' y',.int .i64 E]) (by simp[results,Tryz.f26,go_sem,q0,q1]) rfl ⟨x',y',E,rfl,HA.out,Zs HBV.out (by have:=HGG.out;omega) (.string x') (.string y')⟩
theorem Zmm {t:TaskP} {p:List (List Int)} {u i:Int} {sv hv rv pv:Value} {w:World} (hT:TaskIn t sv hv rv w) (hz:LimT t) (hI:IIL w pv p) :
  Calls Tryz.prog 28 #[.agg #[sv,hv,rv],pv,.int .i64 u,.int .i64 i] w (ZL (Zb5 t p u i) w):=by
 have HT:=Zpe hT
 have HZ:=Zpe hz
 have HI:=Zpe hI
 obtain⟨ps,cs,rfl,_⟩:=hT.sites.shape rfl
 obtain⟨ph,ch,rfl,_⟩:=hT.hours.shape rfl
 obtain⟨pr,cr,rfl,_⟩:=hT.rates.shape rfl
 obtain⟨pp,pc,rfl,_⟩:=hI.shape rfl
 obtain⟨ns,hns⟩:=Zpg t.sites.length
 obtain⟨nh,hnh⟩:=Zpg t.hours.length
 obtain⟨nr,hnr⟩:=Zpg t.rates.length
 obtain⟨np,hnp⟩:=Zpg p.length
 rw[hns,hnh,hnr] at HT ⊢
 rw[hnp] at HI ⊢
 obtain⟨G,hG⟩:=Zpg w.heap.size
 have HGG:=Zpe hG
 have HE0:Hid (Env w.heap.size w [(G+1,pObj Zpa Zpa),(G,efO (.slice ps ns cs) (.slice ph nh ch) (.slice pr nr cr))] [] ((w.alloc (efO (.slice ps ns cs) (.slice ph nh ch) (.slice pr nr cr))).alloc (pObj Zpa Zpa))):=((Env.start w).push _ hG.symm).push _ (by simp[hG])
 have HL:=Zpe (Zo5 hns hnh)
 clear hT hz hI hns hnh hnr hnp
 go_enter Tryz.func28,Tryz.ntmps28
 go_wp2_with fail
 refine(ZdV (HT.out.below HE0.out.base Zpf) HZ.out (IIL.stay2 HI.out HE0.out.base Zpf)).mono ?_
 rintro e w1 ⟨r,rfl,hr,hb⟩
 have HE1:=Zpe (HE0.out.step hb)
 have HRR:=Zpe hr
 clear hb hr HE0
 try rw[hG]
 clear hG
 cases r with
 | false=>
  have HNO:Hid (¬ Zc2 t p u i):=fun k=>by have:=HRR.out.2 k.1;cases this
  clear HRR
  have HA:Hid (Zb5 t p u i Zpa Zpa 2):=.inl ⟨HNO.out,rfl,rfl,rfl⟩
  have r0:=HE1.out.cell 0 0 (v:=.string Zpa) rfl rfl
  have r1:=HE1.out.cell 0 1 (v:=.string Zpa) rfl rfl
  have f0:=HE1.out.free 0 0 rfl
  have f1:=HE1.out.free 0 1 rfl
  go_wp2
  have HE9:=Zpe (HE1.out.fill (.string Zpa) (.string Zpa))
  have q0:=HE9.out.cell 0 0 (v:=.string Zpa) rfl rfl
  have q1:=HE9.out.cell 0 1 (v:=.string Zpa) rfl rfl
  exact Zor (v:=.tuple #[Zpb Zpa Zpa,.int .i64 2]) (by simp[results,Tryz.f28,go_sem,q0,q1]) rfl ⟨Zpa,Zpa,2,rfl,HA.out,HE9.out.base⟩
 | true=>
 have HOK:Hid (PlanOk t p):=HRR.out.1 rfl
 clear HRR
 have hT8:1<=nh/\nh<=8:=by rw[<- HL.out.2];exact HOK.out.task.teams
 have hN24:1<=ns/\ns<=24:=by rw[<- HL.out.1];exact HOK.out.task.sites
 have e1:=HE1.out.cell 1 1 (v:=.slice ph nh ch) rfl rfl
 go_wp2_with fail
 refine(ZcT u 0 ((nh:Int)-1) _).mono ?_
 rintro e w5 ⟨rfl,hb⟩
 have HE2:=Zpe (HE1.out.step hb)
 clear hb HE1 e1
 by_cases hU:0<=u/\u<=(nh:Int)-1
 rotate_left
 ·have HNO:Hid (¬ Zc2 t p u i):=fun h=>hU (by have:=h.2.1;rw[HL.out.2] at this;exact this)
  rw[ZdB hU]
  clear hU
  have HA:Hid (Zb5 t p u i Zpa Zpa 2):=.inl ⟨HNO.out,rfl,rfl,rfl⟩
  have r0:=HE2.out.cell 0 0 (v:=.string Zpa) rfl rfl
  have r1:=HE2.out.cell 0 1 (v:=.string Zpa) rfl rfl
  have f0:=HE2.out.free 0 0 rfl
  have f1:=HE2.out.free 0 1 rfl
  go_wp2
  have HE9:=Zpe (HE2.out.fill (.string Zpa) (.string Zpa))
  have q0:=HE9.out.cell 0 0 (v:=.string Zpa) rfl rfl
  have q1:=HE9.out.cell 0 1 (v:=.string Zpa) rfl rfl
  exact Zor (v:=.tuple #[Zpb Zpa Zpa,.int .i64 2]) (by simp[results,Tryz.f28,go_sem,q0,q1]) rfl ⟨Zpa,Zpa,2,rfl,HA.out,HE9.out.base⟩
 rw[ZcQ hU]
 have e0:=HE2.out.cell 1 0 (v:=.slice ps ns cs) rfl rfl
 go_wp2_with fail
 refine(ZcT i 0 ((ns:Int)-1) _).mono ?_
 rintro e w6 ⟨rfl,hb⟩
 have HE1:=Zpe (HE2.out.step hb)
 clear hb HE2 e0
 by_cases hX:0<=i/\i<=(ns:Int)-1
 rotate_left
 ·have HNO:Hid (¬ Zc2 t p u i):=fun h=>hX (by have:=h.2.2;rw[HL.out.1] at this;exact this)
  rw[ZdB hX]
  clear hX
  have HA:Hid (Zb5 t p u i Zpa Zpa 2):=.inl ⟨HNO.out,rfl,rfl,rfl⟩
  have r0:=HE1.out.cell 0 0 (v:=.string Zpa) rfl rfl
  have r1:=HE1.out.cell 0 1 (v:=.string Zpa) rfl rfl
  have f0:=HE1.out.free 0 0 rfl
  have f1:=HE1.out.free 0 1 rfl
  go_wp2
  have HE9:=Zpe (HE1.out.fill (.string Zpa) (.string Zpa))
  have q0:=HE9.out.cell 0 0 (v:=.string Zpa) rfl rfl
  have q1:=HE9.out.cell 0 1 (v:=.string Zpa) rfl rfl
  exact Zor (v:=.tuple #[Zpb Zpa Zpa,.int .i64 2]) (by simp[results,Tryz.f28,go_sem,q0,q1]) rfl ⟨Zpa,Zpa,2,rfl,HA.out,HE9.out.base⟩
 rw[ZcQ hX]
 obtain⟨u,rfl⟩:∃ n:Nat,u=n:=⟨u.toNat,Za⟩
 obtain⟨i,rfl⟩:∃ n:Nat,i=n:=⟨i.toNat,Za⟩
 have HAO:Hid (Zc2 t p u i):=⟨HOK.out,by rw[HL.out.2];exact hU,by rw[HL.out.1];exact hX⟩
 have hUI:u<t.rates.length/\i<t.sites.length:=by
  rw[HOK.out.task.rates,HL.out.1,HL.out.2]
  omega
 obtain⟨pb,po,pc',gq,gp,gc,_,hPW⟩:=Zfj HI.out HOK.out.len8.1 HOK.out.task.sites.1 (fun u h=>HOK.out.row u h)
 obtain⟨b,hb⟩:=Zpg w6.heap.size
 obtain⟨w2,hw2⟩:=Zpg (w6.alloc (smO 0))
 have HS:=Zpe (smIn HT.out HE1.out.base hb hw2)
 have HR0:=Zpe (HE1.out.block 0 rfl)
 have hg1:=HS.out.keep _ (Keeps.refl _ _)
 have g1:=hg1.2 _ _ (HE1.out.block 1 rfl)
 have e0:=Zn g1 0 (v:=.slice ps ns cs) rfl
 have e1:=Zn g1 1 (v:=.slice ph nh ch) rfl
 have e2:=Zn g1 2 (v:=.slice pr nr cr) rfl
 have HVL:=Zpe (Zma HS.out.task (hPW b w2 HS.out.ge HS.out.now) HS.out.sm HOK.out.task HOK.out.inn hUI.1 hUI.2)
 clear hg1 g1 hPW HE1 hUI hU hX
 go_wp2_with fail
 try rw[hb]
 try rw[hw2]
 clear hb hw2
 refine HVL.out.mono ?_
 rintro e w3 ⟨x,y,hvs,rfl,hk,hsm⟩
 have HVS:=Zpe hvs
 have HK:=Zpe hk
 clear hvs hk HVL e0 e1 e2
 go_wp2_with fail
 refine(Zgp x y hsm).mono ?_
 rintro e w4 ⟨rfl,hb4⟩
 have KK:=HS.out.keep w4 (HK.out.trans (hb4.keepsS _))
 have HA:Hid (Zb5 t p u i x y 0):=.inr ⟨HAO.out,rfl,HVS.out⟩
 clear hb4 hsm
 obtain⟨hbv,hgv⟩:=KK
 have g0:=hgv _ _ HR0.out
 have r0:=Zn g0 0 (v:=.string Zpa) rfl
 have r1:=Zn g0 1 (v:=.string Zpa) rfl
 have f0:=Zo g0 0
 have f1:=Zo g0 1
 have HBV:=Zpe hbv
 have HG0:=Zpe g0
 clear hbv hgv g0
 go_wp2
 obtain⟨q0,q1⟩:=Zu HG0.out (.string x) (.string y)
 exact Zor (v:=.tuple #[Zpb x y,.int .i64 0]) (by simp[results,Tryz.f28,go_sem,q0,q1]) rfl ⟨x,y,0,rfl,HA.out,Zs HBV.out (by have:=HGG.out;omega) (.string x) (.string y)⟩
end Go.Proofs.YtmpaflidennnoaaGreatDoor
