/- The parts EffBd, LawEBound, LawEBoundLift of a proof, put together by program (merge6.py). -/
import Derived.Test.YtmpaflidennnoaaGreatDoorH30
import Derived.Test.YtmpaflidennnoaaGreatDoorH32
import Derived.Test.YtmpaflidennnoaaGreatDoorH31
set_option maxRecDepth 100000
set_option maxHeartbeats 8000000
set_option linter.unusedVariables false
set_option linter.unusedSimpArgs false
namespace Go.Proofs.YtmpaflidennnoaaGreatDoor
open Go.RowKit Go.Shelf
theorem Ze8 (f:Nat→Rat) (T:Nat):∀ N,sumF f (T+N)=sumF f T+sumF (fun i=>f (T+i)) N
 | 0=>by
  show sumF f T=sumF f T+0
  rw[Rat.add_zero]
 | N+1=>by
  have h:=Ze8 f T N
  show sumF f (T+N)+f (T+N)=sumF f T+(sumF (fun i=>f (T+i)) N+f (T+N))
  rw[h,Rat.add_assoc]
theorem LeastQ.ex (q:Nat→Rat) (ok:Nat→Prop):∀ n,∃ r,LeastQ q ok n r
 | 0=>⟨none,LeastQ.zero q ok⟩
 | n+1=>by
  obtain⟨r,h⟩:=LeastQ.ex q ok n
  by_cases hk:ok n
  ·cases r with
   | none=>exact⟨_,h.take hk (fun c hc=>by cases hc)⟩
   | some c=>
    by_cases hl:q n<c
    ·exact⟨_,h.take hk (fun d hd=>by obtain rfl:=Option.some.inj hd;exact hl)⟩
    ·exact⟨_,h.keep (Rat.not_lt.1 hl)⟩
  ·exact⟨_,h.skip hk⟩
theorem Best.ex (g:Nat→Rat):∀ n,∃ r m,Best g n r m
 | 0=>⟨none,0,Best.zero g⟩
 | n+1=>by
  obtain⟨r,m,h⟩:=Best.ex g n
  by_cases hl:m<g n
  ·exact⟨_,_,h.up hl⟩
  ·exact⟨_,_,h.keep (Rat.not_lt.1 hl)⟩
theorem SurR.ex (t:TaskP) (qs:List PP) (i:Nat):∃ s,SurR t qs i s:=by
 obtain⟨r,h⟩:=LeastQ.ex (fun u=>prR qs u/rR t u i) (fun u=>rR t u i≠0) t.hours.length
 cases r with
 | none=>exact⟨0,none,h,.inl ⟨rfl,rfl⟩⟩
 | some c=>
  obtain⟨b,m,hb⟩:=Best.ex (fun k=>posR (wR t i*hR (eS t i).curve k-c*cR (eS t i).curve k)) (eS t i).curve.length
  exact⟨m,some c,h,.inr ⟨c,rfl,b,hb⟩⟩
theorem ZjD (t:TaskP) (qs:List PP):sumF (Zw t qs) (t.hours.length+t.sites.length)=sumF (fun u=>prR qs u*((eH t u:Int):Rat)) t.hours.length+sumF (surF t qs) t.sites.length:=by
 rw[Ze8]
 have e1:sumF (Zw t qs) t.hours.length=sumF (fun u=>prR qs u*((eH t u:Int):Rat)) t.hours.length:=by
  refine Rat.le_antisymm (ZbT fun u hu=>?_) (ZbT fun u hu=>?_)
  ·unfold Zw
   rw[if_pos hu]
   exact Rat.le_refl
  ·unfold Zw
   rw[if_pos hu]
   exact Rat.le_refl
 have e2:(fun i=>Zw t qs (t.hours.length+i))=surF t qs:=by
  funext i
  unfold Zw
  rw[if_neg (by omega),show t.hours.length+i-t.hours.length=i by omega]
 rw[e1,e2]
theorem ZkZ {bs:List BB} (h:CurveP bs):chF bs 0=0:=by
 have c0:cR bs 0=0:=by unfold cR;rw[h.first];exact ZcM
 have h0:hR bs 0=0:=by unfold hR;rw[h.first];exact ZcM
 have hl:=h.len
 refine Zd2 h ⟨0,⟨by omega,fun j hj=>absurd hj (Nat.not_lt_zero _),fun hn=>?_⟩,?_⟩
 ·have:=(h.up 0 hn).1
  rw[c0] at this
  exact this
 ·unfold lin
  rw[c0,h0,Rat.sub_self,Rat.mul_zero,Rat.add_zero]
theorem Zlp (x:Rat):x≤posR x:=by
 unfold posR
 split
 ·assumption
 ·exact Rat.le_refl
theorem Zg3 {f:Nat→Rat} : ∀ {n:Nat},(∀ i,i<n→f i=0)→sumF f n=0
 | 0,_=>rfl
 | n+1,h=>by
  show sumF f n+f n=0
  rw[Zg3 fun i hi=>h i (by omega),h n (by omega),Rat.add_zero]
theorem Zh2 {t:TaskP} {p:List (List Int)} {qs:List PP} (ok:PlanOk t p) (okp:PricesOk t qs) {i:Nat} (hi:i<t.sites.length) :
  ∃ lam:Rat,valF t p i≤lam*covR t p i+surF t qs i∧∀ u,u<t.hours.length→lam*(rR t u i*((pN p u i:Int):Rat))≤prR qs u*((pN p u i:Int):Rat):=by
 obtain⟨s,hs⟩:=SurR.ex t qs i
 rw[Zek hs]
 have hn:∀ u,u<t.hours.length→(0:Rat)≤((pN p u i:Int):Rat):=fun u hu=>by
  have:=(ok.hour u i (by rw[ok.teams];exact hu) hi).1
  exact(ZcK this.1 this.2).2.2
 have hp:∀ u,u<t.hours.length→0≤prR qs u:=fun u hu=>(Zfn okp (u:=u) (by rw[okp.len];exact hu)).1.nn
 have hr:∀ u,u<t.hours.length→0≤rR t u i:=fun u hu=>(Zdf ok.task (by rw[ok.task.rates];exact hu) hi).1.nn
 have hw:0≤wR t i:=(Zfp ok.task hi).1.nn
 have hC:=(ok.task.site i hi).2
 obtain⟨r,hl,h⟩:=hs
 rcases h with ⟨rfl,rfl⟩ | ⟨c,rfl,b,hb⟩
 ·refine⟨0,?_,fun u hu=>?_⟩
  ·have hz:covR t p i=0:=by
    show Zas t p i p.length=0
    rw[Zd6]
    refine Zg3 fun u hu=>?_
    have h0:rR t u i=0:=Classical.byContradiction fun h=>hl.no rfl u (by rw[← ok.teams];exact hu) h
    rw[h0,Rat.zero_mul]
   unfold valF
   rw[hz,ZkZ hC,Rat.mul_zero,Rat.mul_zero,Rat.add_zero]
   exact Rat.le_refl
  ·rw[Rat.zero_mul]
   exact Rat.mul_nonneg (hp u hu) (hn u hu)
 ·obtain⟨⟨v,v1,v2,v3⟩,hle⟩:=hl.yes c rfl
  have hc:0≤c:=by rw[v3];exact Go.Proofs.YtmpaflidennnoaaGreatDoor.Zdn (hp v v1) (hr v v1)
  refine⟨c,?_,fun u hu=>?_⟩
  ·have hq:0≤covR t p i:=(Zc4 ok.task ok.inn hi (Nat.le_refl _)).2.2
   refine ZiM hC hw hc (fun j hj=>?_) hq
   have h1:=hb.le hj
   have h2:=Zlp (wR t i*hR (eS t i).curve j-c*cR (eS t i).curve j)
   grind
  ·by_cases h0:rR t u i=0
   ·rw[h0,Rat.zero_mul,Rat.mul_zero]
    exact Rat.mul_nonneg (hp u hu) (hn u hu)
   ·have h1:=hle u hu h0
    have hpos:0<rR t u i:=by
     have:=hr u hu
     grind
    have h2:c*rR t u i≤prR qs u:=by
     have h3:=Rat.mul_le_mul_of_nonneg_right h1 (hr u hu)
     rw[Rat.div_mul_cancel h0] at h3
     exact h3
    rw[← Rat.mul_assoc]
    exact Rat.mul_le_mul_of_nonneg_right h2 (hn u hu)
theorem ZfL {t:TaskP} {p:List (List Int)} {qs:List PP} (ok:PlanOk t p) (okp:PricesOk t qs):sumF (valF t p) t.sites.length≤sumF (Zw t qs) (t.hours.length+t.sites.length):=by
 rw[ZjD]
 obtain⟨lam,hlam⟩:=Zdi (n:=t.sites.length) fun i hi=>Zh2 ok okp hi
 refine ZhW (c:=covR t p) (lam:=lam) (rate:=rR t) (n:=fun u i=>((pN p u i:Int):Rat)) (fun i hi=>?_) (fun i hi=>(hlam i hi).1) (fun u i hu hi=>(hlam i hi).2 u hu) (fun u hu=>⟨?_,(Zfn okp (u:=u) (by rw[okp.len];exact hu)).1.nn⟩)
 ·show Zas t p i p.length=_
  rw[Zd6,ok.teams]
 ·rw[← Zf8]
  exact Rat.intCast_le_intCast.2 (ok.sum u (by rw[ok.teams];exact hu))
end Go.Proofs.YtmpaflidennnoaaGreatDoor
namespace Go.Proofs.YtmpaflidennnoaaGreatDoor
open Go.RowKit Go.Shelf
attribute [local go_sem ↓] Go.wp_at_zero Go.wp_at_succ
theorem Zkh {t:TaskP} {p:List (List Int)} {qs:List PP} {sv hv rv pv qv:Value} {w:World} (hT:TaskIn t sv hv rv w) (hI:IIL w pv p) (hq:PL w qv qs) :
  Calls Tryz.prog 4 #[.agg #[sv,hv,rv],pv,qv] w (ZU w true):=by
 obtain⟨ps,cs,rfl,_⟩:=hT.sites.shape rfl
 obtain⟨ph,ch,rfl,_⟩:=hT.hours.shape rfl
 obtain⟨pr,cr,rfl,_⟩:=hT.rates.shape rfl
 obtain⟨ns,hns⟩:∃ n,t.sites.length=n:=⟨_,rfl⟩
 obtain⟨nh,hnh⟩:∃ n,t.hours.length=n:=⟨_,rfl⟩
 obtain⟨nr,hnr⟩:∃ n,t.rates.length=n:=⟨_,rfl⟩
 obtain⟨np,hnp⟩:∃ n,qs.length=n:=⟨_,rfl⟩
 obtain⟨pp,pc,rfl⟩:∃ p c,qv=.slice p np c:=by obtain⟨p,c,h,_⟩:=id hq;exact⟨_,_,by rw[← hnp];exact h⟩
 rw[hns,hnh,hnr] at hT ⊢
 have HT:=Lib.hid hT
 have HI:=Lib.hid hI
 have HQ:=Lib.hid hq
 have HNP:=Lib.hid hnp
 obtain⟨w1,hw1⟩:∃ z,w.alloc (efO (.slice ps ns cs) (.slice ph nh ch) (.slice pr nr cr))=z:=⟨_,rfl⟩
 obtain⟨G,hG⟩:∃ g,w.heap.size=g:=⟨_,rfl⟩
 have HG:=Lib.hid hG
 have HE1:Hid (Env w.heap.size w [(G,efO (.slice ps ns cs) (.slice ph nh ch) (.slice pr nr cr))] [] w1):=by rw[← hw1];exact(Env.start w).push _ hG.symm
 clear hT hI hq hns hnh hnr hnp
 go_enter Tryz.func4,Tryz.ntmps4
 go_wp2_with fail
 have hT1:=HT.out.below HE1.out.base (Nat.le_refl _)
 refine(ZiR _ hT1.det hT1.tabs hT1.eff).mono ?_
 rintro e w2 ⟨rfl,hb⟩
 have HE2:=Lib.hid (HE1.out.step hb)
 clear hb HE1 hT1 hw1 hG
 have c0:=HE2.out.cell 0 0 (v:=.slice ps ns cs) rfl rfl
 have c1:=HE2.out.cell 0 1 (v:=.slice ph nh ch) rfl rfl
 have c2:=HE2.out.cell 0 2 (v:=.slice pr nr cr) rfl rfl
 go_wp2_with fail
 refine(Zi5 (HT.out.below HE2.out.base (Nat.le_refl _)) 6 3 60 (by decide) (by decide) (by decide)).mono ?_
 rintro e w3 ⟨r,rfl,hS,hb⟩
 have HE3:=Lib.hid (HE2.out.step hb)
 clear hb HE2 c0 c1 c2
 cases r with
 | true=>
  go_wp2
  exact bodyPost_ret (by simp[results,Tryz.f4,go_sem]) rfl ⟨rfl,HE3.out.base⟩
 | false=>
  have HZ:=Lib.hid (hS rfl).lim
  clear hS
  go_wp2_with fail
  refine(ZkW (IIL.stay2 HI.out HE3.out.base (Nat.le_refl _))).mono ?_
  rintro e w4 ⟨r,rfl,hW,hb⟩
  have HE4:=Lib.hid (HE3.out.step hb)
  clear hb HE3 hW
  cases r with
  | true=>
   go_wp2
   exact bodyPost_ret (by simp[results,Tryz.f4,go_sem]) rfl ⟨rfl,HE4.out.base⟩
  | false=>
   by_cases h12:(12:Int)<(np:Int)
   ·skip
    go_wp2
    exact bodyPost_ret (by simp[results,Tryz.f4,go_sem]) rfl ⟨rfl,HE4.out.base⟩
   ·go_wp2_with fail
    go_loopw [33] (fun iv wr=>∃ k:Nat,iv=.int .i64 k∧k≤np∧Hid (∀ j (hj:j<qs.length),j<k→qs[j].1.size≤20∧qs[j].2.size≤20)∧Hid (Env w.heap.size w [(G,efO (.slice ps ns cs) (.slice ph nh ch) (.slice pr nr cr))] [] wr)) (fun iv _=>np-(intOf iv).toNat)
    case atStart=>exact⟨0,rfl,Nat.zero_le _,fun j _ h=>absurd h (Nat.not_lt_zero _),HE4⟩
    case round=>
     obtain⟨k,rfl,hk,HK,HE⟩:=hrel
     clear HE4
     by_cases hlt:k<np
     ·have hkl:k<qs.length:=by rw[HNP.out];exact hlt
      obtain⟨b,o,_,hv9,_,_,hbl,hat⟩:=Zc0 (HQ.out.after HE.out.base (Nat.le_refl _)) (by rw[HNP.out];omega)
      injection hv9 with e1 e2 e3
      subst e1
      obtain⟨d0,d1⟩:=hat k hkl
      obtain⟨⟨s,u⟩,hsu⟩:∃ z,qs[k]=z:=⟨_,rfl⟩
      rw[hsu] at d0 d1
      have HSU:=Lib.hid hsu
      dsimp only at d0 d1
      obtain⟨A,hA⟩:∃ g,wr.heap.size=g:=⟨_,rfl⟩
      obtain⟨V,hV⟩:∃ z,wr.alloc (pObj s u)=z:=⟨_,rfl⟩
      have HE5:Hid (Env w.heap.size w [(A,pObj s u),(G,efO (.slice ps ns cs) (.slice ph nh ch) (.slice pr nr cr))] [] V):=by rw[← hV];exact HE.out.push _ hA.symm
      have a0:=HE5.out.cell 0 0 (v:=.string s) rfl rfl
      have a1:=HE5.out.cell 0 1 (v:=.string u) rfl rfl
      have i0':(0:Int)≤(k:Int):=by omega
      have i1':(k:Int)<(np:Int):=by omega
      clear hat hbl hsu e2 e3 HE
      by_cases h1:(20:Int)<(s.size:Int)
      ·skip
       go_wp2
       exact bodyPost_ret (by simp[results,Tryz.f4,go_sem]) rfl ⟨rfl,HE5.out.base⟩
      ·by_cases h2:(20:Int)<(u.size:Int)
       ·skip
        go_wp2
        exact bodyPost_ret (by simp[results,Tryz.f4,go_sem]) rfl ⟨rfl,HE5.out.base⟩
       ·have HK2:Hid (∀ j (hj:j<qs.length),j<k+1→qs[j].1.size≤20∧qs[j].2.size≤20):=fun j hj hl=>by
         rcases Nat.lt_or_ge j k with h | h
         ·exact HK.out j hj h
         ·obtain rfl:j=k:=by omega
          rw[HSU.out]
          show s.size≤20∧u.size≤20
          omega
        have HE6:=Lib.hid (HE5.out.only [1] _ rfl (by decide))
        clear HE5
        go_wp2
        go_roundw
        case rel=>exact⟨k+1,by go_num,by omega,HK2,by first | exact HE6 | (rw[hV];exact HE6)⟩
        case measure=>simp[intOf];omega
     ·obtain rfl:k=np:=by omega
      have HZQ:Hid (LimP qs):=fun q hq=>by
       obtain⟨j,hj,rfl⟩:=List.getElem_of_mem hq
       have:=HK.out j hj (by rw[← HNP.out];exact hj)
       omega
      clear HK
      have c0:=HE.out.cell 0 0 (v:=.slice ps ns cs) rfl rfl
      have c1:=HE.out.cell 0 1 (v:=.slice ph nh ch) rfl rfl
      have c2:=HE.out.cell 0 2 (v:=.slice pr nr cr) rfl rfl
      go_wp2_with fail
      refine(ZfA (HT.out.below HE.out.base (Nat.le_refl _)) HZ.out (IIL.stay2 HI.out HE.out.base (Nat.le_refl _))).mono ?_
      rintro e w5 ⟨x,y,n,rfl,hA,hb⟩
      have HA:=Lib.hid hA
      obtain⟨A,hAs⟩:∃ g,w5.heap.size=g:=⟨_,rfl⟩
      obtain⟨w6,hw6⟩:∃ z,w5.alloc (pObj x y)=z:=⟨_,rfl⟩
      have HE6:Hid (Env w.heap.size w [(A,pObj x y),(G,efO (.slice ps ns cs) (.slice ph nh ch) (.slice pr nr cr))] [] w6):=by rw[← hw6];exact(HE.out.step hb).push _ hAs.symm
      clear hA hb HE c0 c1 c2
      have c0:=HE6.out.cell 1 0 (v:=.slice ps ns cs) rfl rfl
      have c1:=HE6.out.cell 1 1 (v:=.slice ph nh ch) rfl rfl
      have c2:=HE6.out.cell 1 2 (v:=.slice pr nr cr) rfl rfl
      go_wp2_with fail
      try rw[hw6]
      try rw[hAs]
      clear hw6 hAs
      refine(Ze9 (HT.out.below HE6.out.base (Nat.le_refl _)) HZ.out (HQ.out.after HE6.out.base (Nat.le_refl _)) HZQ.out).mono ?_
      rintro e w7 ⟨u,v,m,rfl,hB,hb⟩
      have HB:=Lib.hid hB
      obtain⟨B,hBs⟩:∃ g,w7.heap.size=g:=⟨_,rfl⟩
      obtain⟨w8,hw8⟩:∃ z,w7.alloc (pObj u v)=z:=⟨_,rfl⟩
      have HE8:Hid (Env w.heap.size w [(B,pObj u v),(A,pObj x y),(G,efO (.slice ps ns cs) (.slice ph nh ch) (.slice pr nr cr))] [] w8):=by rw[← hw8];exact(HE6.out.step hb).push _ hBs.symm
      clear hB hb HE6 c0 c1 c2
      have d0:=HE8.out.cell 1 0 (v:=.string x) rfl rfl
      have d1:=HE8.out.cell 1 1 (v:=.string y) rfl rfl
      have e0:=HE8.out.cell 0 0 (v:=.string u) rfl rfl
      have e1:=HE8.out.cell 0 1 (v:=.string v) rfl rfl
      by_cases hn:n=0
      ·by_cases hm:m=0
       ·subst hn hm
        have hle:sgnR (sumF (valF t p) t.sites.length) (sumF (Zw t qs) (t.hours.length+t.sites.length))≤0∧IsP (sumF (valF t p) t.sites.length) x y∧IsP (sumF (Zw t qs) (t.hours.length+t.sites.length)) u v:=by
         rcases HA.out with ⟨_,_,_,h⟩ | ⟨ok,h⟩
         ·cases h
         ·rcases HB.out with ⟨_,_,_,g⟩ | ⟨⟨_,okp⟩,g⟩
          ·cases g
          ·exact⟨Int.not_lt.1 (Zcu (ZfL ok okp)),h.fine.2,g.fine.2⟩
        obtain⟨g,hg⟩:∃ g,sgnR (sumF (valF t p) t.sites.length) (sumF (Zw t qs) (t.hours.length+t.sites.length))=g:=⟨_,rfl⟩
        rw[hg] at hle
        obtain⟨hle,hx,hu⟩:=hle
        have HX:=Lib.hid (And.intro hx hu)
        have HGG:=Lib.hid hg
        clear hx hu hg
        go_wp2_with fail
        try rw[hw8]
        try rw[hBs]
        refine(ZaQ HX.out.1 HX.out.2 HGG.out _).mono ?_
        rintro e w9 ⟨rfl,hb⟩
        have HB9:=Lib.hid (HE8.out.base.trans (hb.mono HE8.out.own))
        clear hb
        go_wp2
        exact bodyPost_ret (by simp[results,Tryz.f4,go_sem]) rfl ⟨rfl,HB9.out⟩
       ·have h0:(m !=0)=true:=by rw[bne_iff_ne];exact hm
        subst hn
        have hz:((0:Int) !=0)=false:=rfl
        have HBB:=Lib.hid HE8.out.base
        clear hm
        go_wp2
        exact bodyPost_ret (by simp[results,Tryz.f4,go_sem]) rfl ⟨rfl,HBB.out⟩
      ·have h0:(n !=0)=true:=by rw[bne_iff_ne];exact hn
       have HBB:=Lib.hid HE8.out.base
       clear hn
       go_wp2
       exact bodyPost_ret (by simp[results,Tryz.f4,go_sem]) rfl ⟨rfl,HBB.out⟩
end Go.Proofs.YtmpaflidennnoaaGreatDoor
namespace Go.Proofs.YtmpaflidennnoaaGreatDoor
open Go.ChangeShapes Go.WideShapes Go.ChangeAt Go.RowKit
theorem Zhm (os:Os) (started:os.Started) (H:Type) (enc:TypeId×Value→H) :
  ReturnsInHanded {} Tryz.checked os 4 .any (fun w args=>(Rows.effortBoundSpec.pre enc Tryz.prog Tryz.f4 Rows.effortBoundRow.domain false w args∧laidMetH Tryz.prog ZaE w)∧sizedMet enc Tryz.prog Tryz.f4 (OpenSpec.ofChange Rows.effortBoundSpec) false w args)
   (Rows.effortBoundSpec.post enc Tryz.prog Tryz.f4 false true false false):=by
 refine returnsInHanded_of_change_and (C:=Tryz.checked) (X:=fun w _=>laidMetH Tryz.prog ZaE w) (fun _ _ _ hh h=>h.of_heap hh) ZkG started (by kernel_rfl) Tryz.func4
  (ChangeSpec.witness_shaped (enc:=enc) (C:=Tryz.checked) (os:=os) (X:=fun w _=>laidMetH Tryz.prog ZaE w) false (World.laidAll Tryz.prog os ZaE) #[.agg #[.slice none 0 0,.slice none 0 0,.slice none 0 0],.slice none 0 0,.slice none 0 0] 8 (World.laidAll_os _ _ _)
   (World.shaped_of_ZipB (by kernel_rfl) (by kernel_rfl)) (by kernel_rfl) (by kernel_rfl) (by kernel_rfl) (met9 os _)) ?_
 intro W base args ds gs before hval0 hW hc _ hL _
 have hval:∀ (j:Nat) t v,Tryz.f4.params[j]?=some t→args[j]?=some v→Value.okWide Tryz.prog W .any base t v:=hval0
 have hW':=hW
 obtain⟨p,q,hA0,hV,rfl,_,_⟩:=hW
 have hA:DataW.TrodAll enc Tryz.prog W 0 (fun _=>true) true Tryz.f4.params.toList args.toList ds p:=hA0
 rw[Tryz.params4] at hA hval
 obtain⟨v0,v1,v2,d0,d1,d2,p0,p1,p2,rfl,rfl,rfl,h0,h1,h2⟩:=trodAll_three hA
 obtain⟨rfl,rfl⟩:=trodVars_none hV
 obtain⟨t0,x0,y0,z0,rfl,hT0⟩:=Zlw (hval 0 _ v0 rfl rfl) h0 hL
 obtain⟨n1,hn1⟩:=ZjL (hval 1 _ v1 rfl rfl) h1
 obtain⟨q2,hq2⟩:=Zjc (hval 2 _ v2 rfl rfl) h2
 clear hA0 hval0
 simp only[List.append_nil] at hW'
 refine(Zkh hT0 hn1 hq2).mono fun e W' ⟨he,bel⟩=>?_
 subst he
 have nx:∀ x ∈ ([]:List MemPlace),x.block<W.heap.size:=fun _ h=>by cases h
 have hlt0:∀ x ∈ p0,x.block<W.heap.size:=fun x hx=>by first | (have:=hW'.lt x hx;simpa using this) | (have:=hW'.lt x (by simp[hx]);simpa using this)
 have hlt1:∀ x ∈ p1,x.block<W.heap.size:=fun x hx=>by first | (have:=hW'.lt x hx;simpa using this) | (have:=hW'.lt x (by simp[hx]);simpa using this)
 have hlt2:∀ x ∈ p2,x.block<W.heap.size:=fun x hx=>by first | (have:=hW'.lt x hx;simpa using this) | (have:=hW'.lt x (by simp[hx]);simpa using this)
 refine⟨_,rfl,_,_,_,[],p0++p1++p2,[],hW',?_,?_,?_,bel.frame _,fun h=>by cases h⟩
 ·exact trodAll_mk1 (shut_bool Tryz.underlying4 _)
 ·have h9:=trodAll_mk3 (Below.trod ZeY (by kernel_rfl) (of_decide_eq_true (by kernel_rfl)) h0 bel hlt0) (Below.trod ZeY (by kernel_rfl) (of_decide_eq_true (by kernel_rfl)) h1 bel hlt1) (Below.trod ZeY (by kernel_rfl) (of_decide_eq_true (by kernel_rfl)) h2 bel hlt2)
  first | exact h9 | (simp only[List.append_nil,List.nil_append] at h9;exact h9) | (simp only[← List.append_assoc,List.append_nil,List.nil_append] at h9;exact h9) | (simpa using h9)
 ·rfl
end Go.Proofs.YtmpaflidennnoaaGreatDoor
