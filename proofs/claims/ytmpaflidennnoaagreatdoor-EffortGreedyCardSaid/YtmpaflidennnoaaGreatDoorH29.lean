/- The parts EBnd, EBound, BendL, DHalv, Sights, AliveM, LawOf of a proof, put together by program (merge7.py). -/
import Derived.Test.YtmpaflidennnoaaGreatDoorH28
set_option maxRecDepth 100000
set_option maxHeartbeats 8000000
set_option linter.unusedVariables false
set_option linter.unusedSimpArgs false
namespace Go.Proofs.YtmpaflidennnoaaGreatDoor
open Go.RowKit Go.Shelf
attribute [local go_sem ↓] Go.wp_at_zero Go.wp_at_succ
open Classical in
noncomputable def surF (t:TaskP) (qs:List PP) (i:Nat):Rat:=if h:∃ s,SurR t qs i s then Classical.choose h else 0
theorem ZgI {t:TaskP} {qs:List PP} {i:Nat} {s:Rat} (h:SurR t qs i s):surF t qs i=s:=by
 have hx:∃ s,SurR t qs i s:=⟨s,h⟩
 unfold surF
 rw[dif_pos hx]
 exact(Classical.choose_spec hx).det h
noncomputable def ZS (t:TaskP) (qs:List PP) (k:Nat):Rat:=if k<t.hours.length then prR qs k*((eH t k:Int):Rat) else surF t qs (k-t.hours.length)
def Znu (t:TaskP) (qs:List PP) (w:World) (e:Ending) (w':World):Prop:=
 ∃ x y k,((k=0∧e=.returned (pV x y))∨(k≠0∧e=Zdb k))∧SumE (ZS t qs) (t.hours.length+t.sites.length) x y k∧Below w.heap.size w w'
theorem Zkx {t:TaskP} {b m:Nat} {sv hv rv pv qv:Value} {qs:List PP} {w:World} (h:WorkW t b m sv hv rv pv w) (ok:TaskOk t) (hq:PL w qv qs) (hp:PricesOk t qs) :
  Calls Tryz.prog 65 #[.pointer (some ⟨b,0,none⟩),qv] w (Znu t qs w):=by
 have HSU:Hid (∀ V,Below w.heap.size w V→∀ i,i<t.sites.length→Calls Tryz.prog 122 #[.pointer (some ⟨b,0,none⟩),qv,.int .i64 i] V (fun e w'=>∃ x y s,e=.returned (pV x y)∧SurR t qs i s∧IsP s x y∧Below V.heap.size V w')):=fun V hV i hi=>
  ZiZ (h.keep (hV.keepsS _)) ok (hq.after hV ZnW) hp hi
 obtain⟨sb,so,sc,hb,ho,hc,rb,ro,rk,cv,rq,rp,rc,k1,k2,k3,hA⟩:=h.open ok
 obtain⟨qb,qo,qc,rfl,q1,q2,q3,q4⟩:=ZdN hq (by rw[hp.len];exact ok.teams.1)
 obtain⟨N,hN⟩:=ZnX t.sites.length
 obtain⟨T,hT⟩:=ZnX t.hours.length
 have hTq:=hp.len
 have hTr:=ok.rates
 have hT8:=ok.teams
 have hN24:=ok.sites
 rw[hT] at hTq hTr hT8
 rw[hN] at hN24 HSU
 rw[hTq] at q1 HSU ⊢
 have HFA:Hid (∀ V,Below w.heap.size w V→V.cell? ⟨b,0,none⟩=some (.slice (some ⟨sb,so,none⟩) N sc)∧V.cell? ⟨b,1,none⟩=some (.slice (some ⟨hb,ho,none⟩) T hc)∧(∀ u,u<T→V.cell? ⟨hb,ho+u,none⟩=some (.int .i64 (eH t u)))∧Tabs V∧EffZ V):=fun V hV=>by
  have A:=hA V (hV.keepsS _)
  exact⟨by rw[← hN];exact A.w0,by rw[← hT];exact A.w1,fun u hu=>A.at'.hour u (by rw[hT];exact hu),A.at'.tabs,A.at'.eff⟩
 have HQ:Hid (∀ V,Below w.heap.size w V→∀ u,u<T→V.cell? ⟨qb,qo+u*2,none⟩=some (.string (qs.getD u (⟨#[]⟩,⟨#[]⟩)).1)∧V.cell? ⟨qb,qo+u*2+1,none⟩=some (.string (qs.getD u (⟨#[]⟩,⟨#[]⟩)).2)):=fun V hV u hu=>by
  have hu':u<qs.length:=by omega
  obtain⟨a1,a2⟩:=q4 u hu'
  rw[show qs.getD u (⟨#[]⟩,⟨#[]⟩)=qs[u] by simp[List.getD,hu']]
  exact⟨(hV.cell (p:=⟨qb,qo+u*2,none⟩) q3).trans a1,(hV.cell (p:=⟨qb,qo+u*2+1,none⟩) q3).trans a2⟩
 have HTM:Hid (∀ u,u<T→IsP (prR qs u) (qs.getD u (⟨#[]⟩,⟨#[]⟩)).1 (qs.getD u (⟨#[]⟩,⟨#[]⟩)).2∧(∃ x y,IsP ((eH t u:Int):Rat) x y)∧(∃ x y,IsP (prR qs u*((eH t u:Int):Rat)) x y)∧(0≤eH t u∧eH t u≤48)∧ZS t qs u=prR qs u*((eH t u:Int):Rat)):=fun u hu=>by
  obtain⟨p1,p2⟩:=ZkZ hp (u:=u) (by omega)
  have h48:=(ok.team u (by rw[ok.rates,hT];exact hu)).1
  obtain⟨w1,w2,w3⟩:=ZdA h48.1 h48.2
  exact⟨p1,w1,ZV (Rat.mul_nonneg p1.nn w3) (Sz.mul p1.nn w3 p2 w2) (by decide) (by decide),h48,by unfold ZS;rw[if_pos (by rw[hT];exact hu)]⟩
 have HSF:Hid (∀ i s,SurR t qs i s→ZS t qs (T+i)=s):=fun i s hs=>by
  unfold ZS
  rw[hT,if_neg (by omega),show T+i-T=i by omega]
  exact ZgI hs
 have HN:=ZnV hN
 have HTT:=ZnV hT
 have hsc:N≤sc∧sc≤9223372036854775807:=by rw[← hN];exact k1
 have hhc:T≤hc∧hc≤9223372036854775807:=by rw[← hT];exact k2
 have HE0:Hid (Env w.heap.size w [(w.heap.size,pObj ⟨#[]⟩ ⟨#[]⟩)] [] (w.alloc (pObj ⟨#[]⟩ ⟨#[]⟩))):=(Env.start w).push _ rfl
 obtain⟨_,_,_,_,z⟩:=HFA.out _ HE0.out.base
 have z0:=z.z0
 have z1:=z.z1
 have HE1:Hid (Env w.heap.size w [(w.heap.size+1,pObj ⟨#[48]⟩ ⟨#[49]⟩),(w.heap.size,pObj ⟨#[]⟩ ⟨#[]⟩)] [] ((w.alloc (pObj ⟨#[]⟩ ⟨#[]⟩)).alloc (pObj ⟨#[48]⟩ ⟨#[49]⟩))):=HE0.out.push _ (by simp)
 clear h ok hq hp hA q4 hN hT hTq hTr z HE0 k1 k2 k3
 go_enter Tryz.func65,Tryz.ntmps65
 go_wp2_with fail
 clear z0 z1
 go_loopw [14] (fun v wr=>∃ (k:Nat) (x y:ByteArray),v=.int .i64 k∧k≤T∧Hid (IsP (sumF (ZS t qs) k) x y)∧Hid (Zae (ZS t qs) k)∧Hid (Env w.heap.size w [(w.heap.size+1,pObj x y),(w.heap.size,pObj ⟨#[]⟩ ⟨#[]⟩)] [] wr)) (fun v _=>T-(intOf v).toNat)
 case atStart=>exact⟨0,_,_,rfl,Nat.zero_le _,ZY,Zae.zero _,HE1⟩
 case round=>
  obtain⟨k,x,y,rfl,hk,HIA,HAF,HE⟩:=hrel
  clear HE1
  by_cases hlt:k<T
  ·obtain⟨hpi,⟨xh,yh,hxh⟩,⟨x8,y8,hx8⟩,h48,hfk⟩:=HTM.out k hlt
   obtain⟨e0,e1⟩:=HQ.out _ HE.out.base k hlt
   obtain⟨⟨p1,p2⟩,hpp⟩:∃ z,qs.getD k (⟨#[]⟩,⟨#[]⟩)=z:=⟨_,rfl⟩
   rw[hpp] at e0 e1 hpi
   dsimp only at e0 e1 hpi
   have HPI:=ZnV hpi
   have HXH:=ZnV hxh
   have HX8:=ZnV hx8
   have HFK:=ZnV hfk
   have H48:=ZnV h48
   have i0':(0:Int)≤(k:Int):=by omega
   have i1':(k:Int)<(T:Int):=by omega
   obtain⟨g,hg⟩:=ZnX wr.heap.size
   obtain⟨w2,hw2⟩:=ZnX (wr.alloc (pObj p1 p2))
   have HE2:Hid (Env w.heap.size w [(g,pObj p1 p2),(w.heap.size+1,pObj x y),(w.heap.size,pObj ⟨#[]⟩ ⟨#[]⟩)] [] w2):=by rw[← hw2];exact HE.out.push _ hg.symm
   obtain⟨a0,a1,a2,_⟩:=HFA.out _ HE2.out.base
   have a3:=a2 k hlt
   obtain⟨hh,hhh⟩:=ZnX (eH t k)
   have HHH:=ZnV hhh
   rw[hhh] at a3
   clear hpi hxh hx8 h48 hfk hpp HE a2 hhh
   go_wp2_with fail
   have hrt:=Zie H48.out.1 H48.out.2 HXH.out w2 (HFA.out _ HE2.out.base).2.2.2.1
   rw[HHH.out] at hrt
   refine hrt.mono ?_
   rintro e w3 ⟨rfl,hb⟩
   have HE3:=ZnV (HE2.out.step hb)
   clear hb hrt a0 a1 a3 e0 e1 HE2 hw2
   try rw[hg]
   clear hg
   obtain⟨g2,hg2⟩:=ZnX w3.heap.size
   obtain⟨w4,hw4⟩:=ZnX (w3.alloc (pObj xh yh))
   have HE4:Hid (Env w.heap.size w [(g2,pObj xh yh),(g,pObj p1 p2),(w.heap.size+1,pObj x y),(w.heap.size,pObj ⟨#[]⟩ ⟨#[]⟩)] [] w4):=by rw[← hw4];exact HE3.out.push _ hg2.symm
   clear HE3
   go_wp2_with fail
   try rw[hg2]
   try rw[hw4]
   clear hg2 hw4
   refine ZF [(1,0),(1,1),(1,2),(0,3),(1,4),(1,5),(0,6),(0,7),(1,8),(1,9),(0,10),(0,11)] (Env w.heap.size w [(g2,pObj xh yh),(g,pObj p1 p2),(w.heap.size+1,pObj x y),(w.heap.size,pObj ⟨#[]⟩ ⟨#[]⟩)] []) (fun i=>i==11)
    (by kernel_rfl) (by kernel_rfl) (fun j hj=>by have h:12≤j:=hj;simp;omega) (fun _ _ o _ _ h=>by cases o<;>exact h) HE4.out.drew ?_
   obtain⟨w5,hw5⟩:=ZnX w4.drew
   have HE5:Hid (Env w.heap.size w [(g2,pObj xh yh),(g,pObj p1 p2),(w.heap.size+1,pObj x y),(w.heap.size,pObj ⟨#[]⟩ ⟨#[]⟩)] [] w5):=by rw[← hw5];exact HE4.out.drew
   rw[hw5]
   clear hw5 HE4
   iterate 3
    refine Zk _ rfl rfl (fun w' hS=>by have c0:=hS.cell 2 0 (v:=.string x) rfl rfl;have c1:=hS.cell 2 1 (v:=.string y) rfl rfl;have d0:=hS.cell 1 0 (v:=.string p1) rfl rfl;have d1:=hS.cell 1 1 (v:=.string p2) rfl rfl;have d2:=hS.cell 0 0 (v:=.string xh) rfl rfl;have d3:=hS.cell 0 1 (v:=.string yh) rfl rfl;go_simp;first | rfl | (rw[if_pos (by omega)])) ?_
    simp only[ZnP,ZnQ,ZnR,Act.put,ZnS,ZnT,ZnU]
   refine Zm 119 _ rfl rfl (by go_simp;rfl) ?_
   have HEC:=HE5
   refine(Zc8 HPI.out HXH.out HX8.out rfl _ (HFA.out _ HEC.out.base).2.2.2.1).mono ?_
   rintro e w6 ⟨rfl,hb⟩
   have HE6:=ZnV (HEC.out.step hb)
   refine .inl ⟨_,rfl,HE6.out,?_⟩
   clear hb HEC
   simp only[ZnP,ZnQ,ZnR,Act.put,ZnS,ZnT,ZnU]
   iterate 2
    refine Zk _ rfl rfl (fun w' hS=>by skip;go_simp;first | rfl | (rw[if_pos (by omega)])) ?_
    simp only[ZnP,ZnQ,ZnR,Act.put,ZnS,ZnT,ZnU]
   refine Zm 103 _ rfl rfl (by go_simp;rfl) ?_
   have HEC:=HE6
   refine(Zaw x8 y8 _).mono ?_
   rintro e w7 ⟨rfl,hb⟩
   have HE7:=ZnV (HEC.out.step hb)
   refine .inl ⟨_,rfl,HE7.out,?_⟩
   clear hb HEC
   simp only[ZnP,ZnQ,ZnR,Act.put,ZnS,ZnT,ZnU]
   refine Zm 42 _ rfl rfl (by go_simp;rfl) ?_
   have HEC:=HE7
   refine(Zft HIA.out HX8.out _ (HFA.out _ HEC.out.base).2.2.2.1).mono ?_
   rintro e w9 ⟨x9,y9,n9,rfl,hA9,hb⟩
   have HE9:=ZnV (HEC.out.step hb)
   refine .inl ⟨_,rfl,HE9.out,?_⟩
   clear hb HEC
   simp only[ZnP,ZnQ,ZnR,Act.put,ZnS,ZnT,ZnU]
   rw[← HFK.out] at hA9
   have HA9:=ZnV hA9
   clear hA9 HE5 HE6 HE7
   iterate 2
    refine Zk _ rfl rfl (fun w' hS=>by skip;go_simp;first | rfl | (rw[if_pos (by omega)])) ?_
    simp only[ZnP,ZnQ,ZnR,Act.put,ZnS,ZnT,ZnU]
   refine Zm 103 _ rfl rfl (by go_simp;rfl) ?_
   refine(ZdC x9 y9 n9 _).mono ?_
   rintro e w10 ⟨hE,hb⟩
   have HE10:=ZnV (HE9.out.step hb)
   clear HE9 hb
   rcases hE with ⟨h0,rfl⟩ | ⟨h0,rfl⟩
   ·refine .inl ⟨_,rfl,HE10.out,?_⟩
    have HX9:Hid (IsP (sumF (ZS t qs) (k+1)) x9 y9):=HA9.out.zero h0
    clear h0 HA9
    simp only[ZnP,ZnQ,ZnR,Act.put,ZnS,ZnT,ZnU]
    have HE9:=ZnV (HE10.out.only [2,3] _ rfl (by decide))
    have r0:=HE9.out.cell 0 0 rfl rfl
    have r1:=HE9.out.cell 0 1 rfl rfl
    have f0:=HE9.out.free 0 0 rfl
    have f1:=HE9.out.free 0 1 rfl
    refine Zq rfl rfl fun K hK=>?_
    go_simp
    have HE11:=ZnV (HE9.out.fill (.string x9) (.string y9))
    refine hK _ _ (.inl rfl) ?_
    clear hK K r0 r1 f0 f1 HE9 HE10
    refine Zt ?_
    go_wp2
    go_roundw
    case rel=>exact⟨k+1,x9,y9,by go_num,by omega,HX9,HAF.out.step HX9.out.fits,HE11⟩
    case measure=>simp[intOf];omega
   ·refine .inr ⟨_,rfl,?_⟩
    rcases HA9.out with ⟨_,h1⟩ | ⟨h1,_,_,h2⟩
    ·exact absurd h1 h0
    ·subst h2
     exact⟨rfl,⟨#[]⟩,⟨#[]⟩,4,.inr ⟨by decide,rfl⟩,.inr ⟨by rw[HTT.out,HN.out];exact Zae.not h1 (by omega),rfl,rfl,rfl⟩,HE10.out.base⟩
  ·obtain rfl:k=T:=by omega
   obtain⟨a0,_⟩:=HFA.out _ HE.out.base
   go_wp2_with fail
   clear a0
   go_loopw [49] (fun v wr=>∃ (i:Nat) (x y:ByteArray),v=.int .i64 i∧i≤N∧Hid (IsP (sumF (ZS t qs) (k+i)) x y)∧Hid (Zae (ZS t qs) (k+i))∧Hid (Env w.heap.size w [(w.heap.size+1,pObj x y),(w.heap.size,pObj ⟨#[]⟩ ⟨#[]⟩)] [] wr)) (fun v _=>N-(intOf v).toNat)
   case atStart=>exact⟨0,x,y,rfl,Nat.zero_le _,HIA,HAF,HE⟩
   case round=>
    clear HIA HAF HE
    obtain⟨i,x,y,rfl,hi,HIA,HAF,HE⟩:=hrel
    by_cases hlt2:i<N
    ·have i0':(0:Int)≤(i:Int):=by omega
     have i1':(i:Int)<(N:Int):=by omega
     go_wp2_with fail
     refine ZF [(1,0),(1,1),(1,2),(1,3),(0,4),(0,5),(1,6),(1,7),(0,8),(0,9)] (Env w.heap.size w [(w.heap.size+1,pObj x y),(w.heap.size,pObj ⟨#[]⟩ ⟨#[]⟩)] []) (fun i=>i==9)
      (by kernel_rfl) (by kernel_rfl) (fun j hj=>by have h:10≤j:=hj;simp;omega) (fun _ _ o _ _ h=>by cases o<;>exact h) HE.out.drew ?_
     obtain⟨w5,hw5⟩:=ZnX wr.drew
     have HE5:Hid (Env w.heap.size w [(w.heap.size+1,pObj x y),(w.heap.size,pObj ⟨#[]⟩ ⟨#[]⟩)] [] w5):=by rw[← hw5];exact HE.out.drew
     rw[hw5]
     clear hw5 HE
     iterate 4
      refine Zk _ rfl rfl (fun w' hS=>by have c0:=hS.cell 0 0 (v:=.string x) rfl rfl;have c1:=hS.cell 0 1 (v:=.string y) rfl rfl;go_simp;first | rfl | (rw[if_pos (by omega)])) ?_
      simp only[ZnP,ZnQ,ZnR,Act.put,ZnS,ZnT,ZnU]
     refine Zm 122 _ rfl rfl (by go_simp;rfl) ?_
     refine(HSU.out _ HE5.out.base i hlt2).mono ?_
     rintro e w6 ⟨x8,y8,s,rfl,hs,hx8,hb⟩
     have HE6:=ZnV (HE5.out.step hb)
     have HX8:=ZnV hx8
     have HFK:=ZnV (HSF.out _ _ hs)
     refine .inl ⟨_,rfl,HE6.out,?_⟩
     clear hb hs hx8 HE5
     simp only[ZnP,ZnQ,ZnR,Act.put,ZnS,ZnT,ZnU]
     refine Zm 42 _ rfl rfl (by go_simp;rfl) ?_
     have HEC:=HE6
     refine(Zft HIA.out HX8.out _ (HFA.out _ HEC.out.base).2.2.2.1).mono ?_
     rintro e w9 ⟨x9,y9,n9,rfl,hA9,hb⟩
     have HE9:=ZnV (HEC.out.step hb)
     refine .inl ⟨_,rfl,HE9.out,?_⟩
     clear hb HEC
     simp only[ZnP,ZnQ,ZnR,Act.put,ZnS,ZnT,ZnU]
     rw[← HFK.out] at hA9
     have HA9:=ZnV hA9
     clear hA9 HE6
     iterate 2
      refine Zk _ rfl rfl (fun w' hS=>by skip;go_simp;first | rfl | (rw[if_pos (by omega)])) ?_
      simp only[ZnP,ZnQ,ZnR,Act.put,ZnS,ZnT,ZnU]
     refine Zm 103 _ rfl rfl (by go_simp;rfl) ?_
     refine(ZdC x9 y9 n9 _).mono ?_
     rintro e w10 ⟨hE,hb⟩
     have HE10:=ZnV (HE9.out.step hb)
     clear HE9 hb
     rcases hE with ⟨h0,rfl⟩ | ⟨h0,rfl⟩
     ·refine .inl ⟨_,rfl,HE10.out,?_⟩
      have HX9:Hid (IsP (sumF (ZS t qs) (k+i+1)) x9 y9):=HA9.out.zero h0
      clear h0 HA9
      simp only[ZnP,ZnQ,ZnR,Act.put,ZnS,ZnT,ZnU]
      have r0:=HE10.out.cell 0 0 rfl rfl
      have r1:=HE10.out.cell 0 1 rfl rfl
      have f0:=HE10.out.free 0 0 rfl
      have f1:=HE10.out.free 0 1 rfl
      refine Zq rfl rfl fun K hK=>?_
      go_simp
      have HE11:=ZnV (HE10.out.fill (.string x9) (.string y9))
      refine hK _ _ (.inl rfl) ?_
      clear hK K r0 r1 f0 f1 HE10
      refine Zt ?_
      go_wp2
      go_roundw
      case rel=>exact⟨i+1,x9,y9,by go_num,by omega,HX9,HAF.out.step HX9.out.fits,HE11⟩
      case measure=>simp[intOf];omega
     ·refine .inr ⟨_,rfl,?_⟩
      rcases HA9.out with ⟨_,h1⟩ | ⟨h1,_,_,h2⟩
      ·exact absurd h1 h0
      ·subst h2
       exact⟨rfl,⟨#[]⟩,⟨#[]⟩,4,.inr ⟨by decide,rfl⟩,.inr ⟨by rw[HTT.out,HN.out];exact Zae.not h1 (by omega),rfl,rfl,rfl⟩,HE10.out.base⟩
    ·obtain rfl:i=N:=by omega
     have c0:=HE.out.cell 0 0 (v:=.string x) rfl rfl
     have c1:=HE.out.cell 0 1 (v:=.string y) rfl rfl
     have HE1:=ZnV (HE.out.only [1,0] _ rfl (by decide))
     have r0:=HE1.out.cell 0 0 rfl rfl
     have r1:=HE1.out.cell 0 1 rfl rfl
     have f0:=HE1.out.free 0 0 rfl
     have f1:=HE1.out.free 0 1 rfl
     go_wp2
     have HE9:=ZnV (HE1.out.fill (.string x) (.string y))
     have q0:=HE9.out.cell 0 0 (v:=.string x) rfl rfl
     have q1:=HE9.out.cell 0 1 (v:=.string y) rfl rfl
     exact bodyPost_ret (v:=.agg #[.string x,.string y]) (by simp[results,Tryz.f65,go_sem,q0,q1]) rfl ⟨x,y,0,.inl ⟨rfl,rfl⟩,.inl ⟨by rw[HTT.out,HN.out];exact HAF.out,by rw[HTT.out,HN.out];exact HIA.out,rfl⟩,HE9.out.base⟩
abbrev paO (v:Value):Obj:=.cells #[v] 37
theorem ZkD (s t:ByteArray) (hs:s.size≤1000000) (ht:t.size≤1000000) (w:World):Calls Tryz.prog 62 #[pV s t] w (ZP w (!Zh 300 (s,t))):=by
 obtain⟨w1,hw1⟩:=ZnX (w.alloc (pObj s t))
 have hb1:Below w.heap.size w w1:=by rw[← hw1];exact(Below.refl _ w).alloc ZnW _
 have hn:w1.heap[w.heap.size]?=some (pObj s t):=by rw[← hw1];exact World.alloc_heap_new w _
 obtain⟨G,hG⟩:=ZnX w.heap.size
 have HB1:=ZnV hb1
 rw[hG] at hn
 have c0:=Za hn 0 (v:=.string s) rfl
 have c1:=Za hn 1 (v:=.string t) rfl
 clear hb1 hn
 go_enter Tryz.func62,Tryz.ntmps62
 go_wp2_with fail
 refine(Zeb 300 s t hs ht _).mono ?_
 rintro e w2 ⟨rfl,hb⟩
 have HB2:Hid (Below w.heap.size w w2):=HB1.out.trans (hb.mono HB1.out.size)
 clear hb c0 c1
 go_wp2
 exact bodyPost_ret (by simp[results,Tryz.f62,go_sem]) rfl ⟨rfl,HB2.out⟩
theorem Zj7 {t:TaskP} {qs:List PP} {Ge Gp Gr:Nat} {ps ph pr pp:Option Addr} {ns nh nr np cs ch cr cp:Nat} {W:World} (he:W.heap[Ge]?=some (efO (.slice ps ns cs) (.slice ph nh ch) (.slice pr nr cr))) (hp:W.heap[Gp]?=some (paO (.slice pp np cp))) (hr:W.heap[Gr]?=some (pObj ⟨#[]⟩ ⟨#[]⟩))
  (hT:TaskIn t (.slice ps ns cs) (.slice ph nh ch) (.slice pr nr cr) W) (hq:PL W (.slice pp np cp) qs) (ok:TaskOk t) (okp:PricesOk t qs) :
  Calls Tryz.prog 64 #[.pointer (some ⟨Ge,0,none⟩),.pointer (some ⟨Gp,0,none⟩),.pointer (some ⟨Gr,0,none⟩)] W (ZhN (ResQ (SumE (ZS t qs) (t.hours.length+t.sites.length)) Gr) (fun b=>b≠Gr) W):=by
 have HS0:Hid (∀ V,Below W.heap.size W V→V.heap[Ge]?=some (efO (.slice ps ns cs) (.slice ph nh ch) (.slice pr nr cr))∧V.heap[Gp]?=some (paO (.slice pp np cp))∧V.heap[Gr]?=some (pObj ⟨#[]⟩ ⟨#[]⟩)∧TaskIn t (.slice ps ns cs) (.slice ph nh ch) (.slice pr nr cr) V∧PL V (.slice pp np cp) qs):=fun V hV=>
  ⟨(hV.block _ (Array.getElem?_eq_some_iff.1 he).1).trans he,(hV.block _ (Array.getElem?_eq_some_iff.1 hp).1).trans hp,(hV.block _ (Array.getElem?_eq_some_iff.1 hr).1).trans hr,hT.below hV ZnW,hq.after hV ZnW⟩
 have HOK:=ZnV (And.intro ok okp)
 have hgr:=(Array.getElem?_eq_some_iff.1 hr).1
 clear he hp hr hT hq ok okp
 go_enter Tryz.func64,Tryz.ntmps64
 go_wp2_with fail
 refine ZF [(1,0),(1,2),(0,1),(0,3),(0,4)] (fun V=>Below W.heap.size W V) (fun i=>i==4)
  (by kernel_rfl) (by kernel_rfl) (fun j hj=>by have h:5≤j:=hj;simp;omega) (fun _ _ o _ _ h=>by cases o<;>exact h) (Below.refl _ W).drew ?_
 have HB0:Hid (Below W.heap.size W W.drew):=(Below.refl _ W).drew
 obtain⟨V,hV⟩:=ZnX W.drew
 rw[hV] at HB0 ⊢
 clear hV
 iterate 2
  refine Zk _ rfl rfl (fun w' hS=>by obtain⟨q1,q2,_⟩:=HS0.out _ hS;have e0:=Za q1 0 (v:=.slice ps ns cs) rfl;have e1:=Za q1 1 (v:=.slice ph nh ch) rfl;have e2:=Za q1 2 (v:=.slice pr nr cr) rfl;have p0:=Za q2 0 (v:=.slice pp np cp) rfl;go_simp;first | rfl | (rw[if_pos (by omega)])) ?_
  simp only[ZnP,ZnQ,ZnR,Act.put,ZnS,ZnT,ZnU]
 refine Zm 48 _ rfl rfl (by go_simp;rfl) ?_
 refine(ZeS (p:=[]) (N:=1) (HS0.out _ HB0.out).2.2.2.1 (⟨none,0,rfl,Nat.le_refl _,by decide,fun h=>absurd rfl h⟩) (by decide) (by decide) (fun u h=>absurd h (Nat.not_lt_zero _))).mono ?_
 rintro e V1 ⟨b,m,sv,hv,rv,pv,gq,gc,rfl,hW,_,_,_,_,hb⟩
 have HB1:Hid (Below W.heap.size W V1):=HB0.out.trans (hb.mono HB0.out.size)
 have HW:=ZnV hW
 refine .inl ⟨_,rfl,HB1.out,?_⟩
 clear hb hW HB0
 simp only[ZnP,ZnQ,ZnR,Act.put,ZnS,ZnT,ZnU]
 refine Zm 65 _ rfl rfl (by go_simp;rfl) ?_
 refine(Zkx HW.out HOK.out.1 (HS0.out _ HB1.out).2.2.2.2 HOK.out.2).mono ?_
 rintro e V2 ⟨x,y,n,hE,hS,hb⟩
 have HB2:Hid (Below W.heap.size W V2):=HB1.out.trans (hb.mono HB1.out.size)
 have HSE:=ZnV hS
 have HR:=ZnV (HS0.out _ HB2.out).2.2.1
 clear hb hS HB1 HW
 rcases hE with ⟨rfl,rfl⟩ | ⟨hn,rfl⟩
 ·refine .inl ⟨_,rfl,HB2.out,?_⟩
  simp only[ZnP,ZnQ,ZnR,Act.put,ZnS,ZnT,ZnU]
  have r0:=Za HR.out 0 (v:=.string ⟨#[]⟩) rfl
  have r1:=Za HR.out 1 (v:=.string ⟨#[]⟩) rfl
  have f0:=Zc HR.out 0
  have f1:=Zc HR.out 1
  refine Zq rfl rfl fun K hK=>?_
  go_simp
  obtain⟨V3,hV3⟩:=ZnX ((V2.setCell ⟨Gr,0,none⟩ (.string x)).setCell ⟨Gr,1,none⟩ (.string y))
  have hR3:V3.heap[Gr]?=some (pObj x y):=by rw[← hV3];exact Z5 HR.out _ _
  have hK3:Keeps (fun b=>b≠Gr) W V3:=by rw[← hV3];exact((HB2.out.keepsS (fun b=>b≠Gr)).setCell (p:=⟨Gr,0,none⟩) (by simp) _).setCell (p:=⟨Gr,1,none⟩) (by simp) _
  have HF3:=ZnV (And.intro hR3 hK3)
  rw[hV3]
  refine hK _ _ (.inl rfl) ?_
  clear hK K hV3 r0 r1 f0 f1 hR3 hK3
  refine Zt ?_
  go_wp2
  exact bodyPost_ret (results_none rfl _ _ _) rfl ⟨0,.inl ⟨rfl,rfl⟩,⟨x,y,HF3.out.1,HSE.out⟩,HF3.out.2⟩
 ·have hxy:x=⟨#[]⟩∧y=⟨#[]⟩:=by
   rcases HSE.out with ⟨_,_,h⟩ | ⟨_,h1,h2,_⟩
   ·exact absurd h hn
   ·exact⟨h1,h2⟩
  obtain⟨rfl,rfl⟩:=hxy
  refine .inr ⟨_,rfl,?_⟩
  exact⟨rfl,n,.inr ⟨hn,rfl⟩,⟨_,_,HR.out,HSE.out⟩,HB2.out.keepsS _⟩
def ZeL (t:TaskP) (qs:List PP) (x y:ByteArray) (n:Int):Prop:=(¬ (TaskOk t∧PricesOk t qs)∧x=⟨#[]⟩∧y=⟨#[]⟩∧n=2)∨((TaskOk t∧PricesOk t qs)∧SumE (ZS t qs) (t.hours.length+t.sites.length) x y n)
theorem ZkW {t:TaskP} {qs:List PP} {sv hv rv qv:Value} {w:World} (hT:TaskIn t sv hv rv w) (hz:LimT t) (hq:PL w qv qs) (hzq:LimP qs) :
  Calls Tryz.prog 21 #[.agg #[sv,hv,rv],qv] w (Zx (ZeL t qs) w):=by
 obtain⟨ps,cs,rfl,_⟩:=hT.sites.shape rfl
 obtain⟨ph,ch,rfl,_⟩:=hT.hours.shape rfl
 obtain⟨pr,cr,rfl,_⟩:=hT.rates.shape rfl
 obtain⟨ns,hns⟩:=ZnX t.sites.length
 obtain⟨nh,hnh⟩:=ZnX t.hours.length
 obtain⟨nr,hnr⟩:=ZnX t.rates.length
 obtain⟨np,hnp⟩:=ZnX qs.length
 obtain⟨pp,pc,rfl⟩:∃ p c,qv=.slice p np c:=by obtain⟨p,c,h,_⟩:=id hq;exact⟨_,_,by rw[← hnp];exact h⟩
 rw[hns,hnh,hnr] at hT ⊢
 have HT:=ZnV hT
 have HQ:=ZnV hq
 have HZ:=ZnV hz
 have HZQ:=ZnV hzq
 have HNP:=ZnV hnp
 have HNH:=ZnV hnh
 have hmf:∀ (fn:Fn) (first cap:Array Value) (w:World),(Instr.makeFunc fn first cap).run Tryz.prog w=.ok (.func fn first cap) w:=fun _ _ _ _=>rfl
 have HE0:Hid (Env w.heap.size w [(w.heap.size+1+1,pObj ⟨#[]⟩ ⟨#[]⟩),(w.heap.size+1,paO (.slice pp np pc)),(w.heap.size,efO (.slice ps ns cs) (.slice ph nh ch) (.slice pr nr cr))] []
  (((w.alloc (efO (.slice ps ns cs) (.slice ph nh ch) (.slice pr nr cr))).alloc (paO (.slice pp np pc))).alloc (pObj ⟨#[]⟩ ⟨#[]⟩))):=(((Env.start w).push _ rfl).push _ (by simp)).push _ (by simp)
 have e0:=HE0.out.cell 2 0 (v:=.slice ps ns cs) rfl rfl
 have e1:=HE0.out.cell 2 1 (v:=.slice ph nh ch) rfl rfl
 have e2:=HE0.out.cell 2 2 (v:=.slice pr nr cr) rfl rfl
 have hfn:∀ k,Fence.wide.fn k:=fun _=>trivial
 clear hT hz hns hnh hnr hnp hq hzq
 go_enter Tryz.func21,Tryz.ntmps21
 go_wp2_with fail
 refine(ZdX (HT.out.below HE0.out.base ZnW) HZ.out).mono ?_
 rintro e w1 ⟨hE,hb⟩
 have HE1:=ZnV (HE0.out.step hb)
 clear hb HE0 e0 e1 e2
 have r0:=HE1.out.cell 0 0 (v:=.string ⟨#[]⟩) rfl rfl
 have r1:=HE1.out.cell 0 1 (v:=.string ⟨#[]⟩) rfl rfl
 have f0:=HE1.out.free 0 0 rfl
 have f1:=HE1.out.free 0 1 rfl
 have p0:=HE1.out.cell 1 0 (v:=.slice pp np pc) rfl rfl
 have h0:=HE1.out.cell 2 1 (v:=.slice ph nh ch) rfl rfl
 rcases hE with ⟨hok,rfl⟩ | ⟨hok,rfl⟩
 rotate_left
 ·have HA:Hid (ZeL t qs ⟨#[]⟩ ⟨#[]⟩ 2):=.inl ⟨fun h=>hok h.1,rfl,rfl,rfl⟩
  clear hok
  go_wp2
  have HE9:=ZnV (HE1.out.fill (.string ⟨#[]⟩) (.string ⟨#[]⟩))
  have q0:=HE9.out.cell 0 0 (v:=.string ⟨#[]⟩) rfl rfl
  have q1:=HE9.out.cell 0 1 (v:=.string ⟨#[]⟩) rfl rfl
  exact bodyPost_ret (v:=.tuple #[.agg #[.string ⟨#[]⟩,.string ⟨#[]⟩],.int .i64 2]) (by simp[results,Tryz.f21,go_sem,q0,q1]) rfl ⟨⟨#[]⟩,⟨#[]⟩,2,rfl,HA.out,HE9.out.base⟩
 ·have HOK:=ZnV hok
  clear hok
  by_cases hlen:np=nh
  ·subst hlen
   have HCO:Hid (Calls Tryz.prog 61 #[.slice pp np pc,.func (.func 62) #[] #[]] w1 (ZdI w1 np (fun j=>!Zh 300 (qs.getD j (⟨#[]⟩,⟨#[]⟩))))):=by
    refine ZcQ (enters_of Tryz.func62 (by kernel_rfl) rfl) (HQ.out.after HE1.out.base ZnW) HNP.out fun j hj W hW=>?_
    obtain⟨z1,z2⟩:=HZQ.out _ (List.getElem_mem hj)
    have e:qs.getD j (⟨#[]⟩,⟨#[]⟩)=qs[j]:=by simp[List.getD,hj]
    rw[e]
    exact ZkD _ _ z1 z2 W
   go_wp2_with fail
   refine HCO.out.mono ?_
   rintro e w2 ⟨bb,rfl,hbb,hb⟩
   have HE2:=ZnV (HE1.out.step hb)
   clear hb r0 r1 f0 f1 p0 h0 HCO
   have r0:=HE2.out.cell 0 0 (v:=.string ⟨#[]⟩) rfl rfl
   have r1:=HE2.out.cell 0 1 (v:=.string ⟨#[]⟩) rfl rfl
   have f0:=HE2.out.free 0 0 rfl
   have f1:=HE2.out.free 0 1 rfl
   rcases hbb with ⟨rfl,j,hj,hbad⟩ | ⟨rfl,hgood⟩
   ·have HA:Hid (ZeL t qs ⟨#[]⟩ ⟨#[]⟩ 2):=.inl ⟨fun h=>(by
     have h1:=h.2.small j (by rw[HNP.out];exact hj)
     have h2:(!Zh 300 (qs.getD j (⟨#[]⟩,⟨#[]⟩)))=true:=hbad
     rw[h1] at h2
     cases h2),rfl,rfl,rfl⟩
    clear hj hbad
    go_wp2
    have HE9:=ZnV (HE2.out.fill (.string ⟨#[]⟩) (.string ⟨#[]⟩))
    have q0:=HE9.out.cell 0 0 (v:=.string ⟨#[]⟩) rfl rfl
    have q1:=HE9.out.cell 0 1 (v:=.string ⟨#[]⟩) rfl rfl
    exact bodyPost_ret (v:=.tuple #[.agg #[.string ⟨#[]⟩,.string ⟨#[]⟩],.int .i64 2]) (by simp[results,Tryz.f21,go_sem,q0,q1]) rfl ⟨⟨#[]⟩,⟨#[]⟩,2,rfl,HA.out,HE9.out.base⟩
   ·have HPO:Hid (PricesOk t qs):=⟨by rw[HNP.out,HNH.out],fun u hu=>by
     have:=hgood u (by rw[← HNP.out];exact hu)
     simpa using this⟩
    obtain⟨G,hG⟩:=ZnX w.heap.size
    have HGG:=ZnV hG
    have hGE:=HE2.out
    rw[hG] at hGE
    have hs1:G+3≤w2.heap.size:=by
     have:=hGE.lt 0 rfl
     omega
    have HTR:Hid (Calls Tryz.prog 50 #[.func (.func 64) #[] #[.pointer (some ⟨G,0,none⟩),.pointer (some ⟨G+1,0,none⟩),.pointer (some ⟨G+1+1,0,none⟩)]] w2 (ZeN (ResQ (SumE (ZS t qs) (t.hours.length+t.sites.length)) (G+1+1)) (fun b=>b≠G+1+1) w2)):=by
     have hal:Below w2.heap.size w2 (w2.alloc (erO 0)):=(Below.refl _ w2).alloc ZnW _
     have hE2:=hGE.step hal
     refine Zf9 (enters_of Tryz.func64 (by kernel_rfl) rfl) (fun b hb=>by show b≠G+1+1;omega) (fun n W W'=>ResQ.stay (by omega) n W W') ?_
     have hbw:Below w.heap.size w (w2.alloc (erO 0)):=HE2.out.base.trans (hal.mono HE2.out.own)
     exact Zj7 (hE2.block 2 rfl) (hE2.block 1 rfl) (hE2.block 0 rfl) (HT.out.below hbw ZnW) (HQ.out.after hbw ZnW) HOK.out HPO.out
    rw[hG] at r0 r1 f0 f1 ⊢
    clear hgood hGE r0 r1 f0 f1 hG
    go_wp2_with fail
    refine HTR.out.mono ?_
    rintro e w3 ⟨n,rfl,⟨x,y,hxy,hS⟩,hk⟩
    have HA:Hid (ZeL t qs x y n):=.inr ⟨⟨HOK.out,HPO.out⟩,hS⟩
    have HXY:=ZnV hxy
    have HB2:Hid (Below w.heap.size w w3):=HE2.out.base.trans (hk.below_of (fun b hb=>by have:=HGG.out;show b≠G+1+1;omega) HE2.out.own)
    clear hS hk HTR
    have r0:=Za HXY.out 0 (v:=.string x) rfl
    have r1:=Za HXY.out 1 (v:=.string y) rfl
    have f0:=Zc HXY.out 0
    have f1:=Zc HXY.out 1
    clear hxy
    go_wp2
    obtain⟨q0,q1⟩:=Zi HXY.out (.string x) (.string y)
    exact bodyPost_ret (v:=.tuple #[.agg #[.string x,.string y],.int .i64 n]) (by simp[results,Tryz.f21,go_sem,q0,q1]) rfl ⟨x,y,n,rfl,HA.out,Zf HB2.out (by have:=HGG.out;omega) (.string x) (.string y)⟩
  ·have hli:¬ (np:Int)=(nh:Int):=by omega
   have HA:Hid (ZeL t qs ⟨#[]⟩ ⟨#[]⟩ 2):=.inl ⟨fun h=>hlen (by rw[← HNP.out,← HNH.out];exact h.2.len),rfl,rfl,rfl⟩
   go_wp2
   all_goals try (refine⟨(fun _ h=>by cases h),?_⟩)
   all_goals try go_wp2
   have HE9:=ZnV (HE1.out.fill (.string ⟨#[]⟩) (.string ⟨#[]⟩))
   have q0:=HE9.out.cell 0 0 (v:=.string ⟨#[]⟩) rfl rfl
   have q1:=HE9.out.cell 0 1 (v:=.string ⟨#[]⟩) rfl rfl
   exact bodyPost_ret (v:=.tuple #[.agg #[.string ⟨#[]⟩,.string ⟨#[]⟩],.int .i64 2]) (by simp[results,Tryz.f21,go_sem,q0,q1]) rfl ⟨⟨#[]⟩,⟨#[]⟩,2,rfl,HA.out,HE9.out.base⟩
theorem Zlc:(Tryz.prog.info? 138).map (fun i=>(i.zero,i.size,i.bytes))=some (some (.agg #[.string ⟨#[]⟩,.string ⟨#[]⟩,.string ⟨#[]⟩,.string ⟨#[]⟩]),4,64):=by kernel_rfl
def Za5:List BB→List Value
 | []=>[]
 | b::l=>.string b.1.1::.string b.1.2::.string b.2.1::.string b.2.2::Za5 l
theorem ZhD (a b:List BB):Za5 (a++b)=Za5 a++Za5 b:=by
 induction a with
 | nil=>rfl
 | cons s a ih=>simp[Za5,ih]
theorem Zhm:∀ (l:List BB) (j:Nat),j<l.length→(Za5 l)[j*4]?=some (.string (bAt l j).1.1)∧(Za5 l)[j*4+1]?=some (.string (bAt l j).1.2)∧(Za5 l)[j*4+2]?=some (.string (bAt l j).2.1)∧
  (Za5 l)[j*4+3]?=some (.string (bAt l j).2.2)
 | s::l,0,_=>⟨rfl,rfl,rfl,rfl⟩
 | s::l,j+1,h=>by
  have ih:=Zhm l j (by simpa using h)
  have e:bAt (s::l) (j+1)=bAt l j:=by simp[bAt]
  rw[e]
  have e0:(j+1)*4=j*4+1+1+1+1:=by omega
  simp only[Za5,e0]
  exact ih
def OwnB (w:World) (base:Nat) (v:Value) (l:List BB):Prop:=w.ownsRow base 138 4 v l.length (Za5 l)
theorem OwnB.nil (w:World) (base:Nat):OwnB w base (.slice none 0 0) []:=World.ownsRow_nil w base _ 4
theorem OwnB.bl {w:World} {base:Nat} {v:Value} {l:List BB} (h:OwnB w base v l):BL w v l:=by
 have h0:=h
 rcases h.2 with ⟨rfl,h1⟩ | ⟨g,cap,cur,rfl,hb,hg,hle,hcap,hr⟩
 ·obtain rfl:l=[]:=List.eq_nil_of_length_eq_zero h1
  exact BL.nil w
 ·refine⟨_,cap,rfl,hle,hcap,fun _=>⟨g,0,rfl,(Array.getElem?_eq_some_iff.1 hg).1,fun j hj=>?_⟩⟩
  have h2:=Zhm l j hj
  rw[Zc3 hj] at h2
  have e1:=World.ownsRow.cellAt h0 (j*4) (by omega)
  have e2:=World.ownsRow.cellAt h0 (j*4+1) (by omega)
  have e3:=World.ownsRow.cellAt h0 (j*4+2) (by omega)
  have e4:=World.ownsRow.cellAt h0 (j*4+3) (by omega)
  rw[Nat.zero_add,e1,e2,e3,e4]
  exact h2
theorem OwnB.after {w w':World} {base:Nat} {v:Value} {l:List BB} (h:OwnB w base v l) (hb:Below w.heap.size w w'):OwnB w' base v l:=by
 obtain⟨h1,h2⟩:=h
 refine⟨h1,?_⟩
 rcases h2 with h2 | ⟨g,cap,cur,rfl,hbb,hg,hr⟩
 ·exact .inl h2
 ·exact .inr ⟨g,cap,cur,rfl,hbb,by rw[hb.block g (Array.getElem?_eq_some_iff.1 hg).1];exact hg,hr⟩
theorem ZgB (k:Nat) (hk:k≤9223372036854775807) (w:World) (hT:Tabs w):Calls Tryz.prog 157 #[.int .i64 (k:Nat)] w (ZM (.string (str (Lib.decDigits k))) w):=by
 refine(Tryz.strconv_Itoa (k:Nat) (by omega) (by omega) w hT).mono ?_
 rintro e w' ⟨rfl,n,os,rfl⟩
 refine⟨?_,Lib.below_grow _ _ ZnW _ _⟩
 rw[Lib.itoa_nonneg]
 rfl
def ZmF (n:Int) (w:World) (e:Ending) (w':World):Prop:=
 ((¬ (1≤n∧n≤40)∧e=.returned (.tuple #[.slice none 0 0,.int .i64 2]))∨((1≤n∧n≤40)∧∃ v,e=.returned (.tuple #[v,.int .i64 0])∧OwnB w' w.heap.size v (Z4 n.toNat)))∧Below w.heap.size w w'
theorem Zit {k:Nat} (hk:k≤40):IntKind.i64.wrap (2 ^ k:Int)=((2 ^ k:Nat):Int):=by
 have h:2 ^ k≤2 ^ 40:=Nat.pow_le_pow_right (by decide) hk
 have e:(2:Int) ^ k=((2 ^ k:Nat):Int):=by rw[Int.natCast_pow];rfl
 rw[e]
 obtain⟨m,hm⟩:=ZnX (2 ^ k)
 rw[hm] at h ⊢
 exact IntWalk.i64_in _ (by omega)
theorem Zlh {k:Nat} (hk:k≤40):IntKind.i64.wrap ((2 ^ k:Int)-1)=((2 ^ k-1:Nat):Int):=by
 have h:2 ^ k≤2 ^ 40:=Nat.pow_le_pow_right (by decide) hk
 have h0:0<2 ^ k:=Nat.two_pow_pos k
 have e:(2:Int) ^ k=((2 ^ k:Nat):Int):=by rw[Int.natCast_pow];rfl
 rw[e]
 obtain⟨m,hm⟩:=ZnX (2 ^ k)
 rw[hm] at h h0 ⊢
 rw[IntWalk.i64_in _ (by omega)]
 omega
theorem ZjO {k:Nat} (hk:k≤40):2 ^ k≤9223372036854775807:=Nat.le_trans (Nat.pow_le_pow_right (by decide) hk) (by decide)
theorem OwnB.snoc {w:World} {base:Nat} {v:Value} {l:List BB} {s t x y:ByteArray} (h:w.ownsRow base 138 4 v (l.length+1) (Za5 l++[.string s,.string t,.string x,.string y])):OwnB w base v (l++[((s,t),(x,y))]):=by
 unfold OwnB
 rw[List.length_append,ZhD]
 exact h
theorem Zje (n:Int) (w:World) (hD:DetV w) (hT:Tabs w):Calls Tryz.prog 106 #[.int .i64 n] w (ZmF n w):=by
 have HD:=ZnV hD
 have HT:=ZnV hT
 clear hD hT
 by_cases hn:1≤n∧n≤40
 ·obtain⟨n,rfl⟩:∃ m:Nat,n=m:=⟨n.toNat,by omega⟩
  have hn1:1≤n∧n≤40:=by omega
  have HNN:Hid ((1:Int)≤(n:Int)∧(n:Int)≤40):=hn
  have hb:(decide ((1:Int)≤(n:Int)) && decide ((n:Int)≤40))=true:=by simp;omega
  have HBT:=ZnV hb
  clear hn hb
  obtain⟨i0,hi,hz0,hz1,hz2⟩:=info_parts Zlc
  go_enter Tryz.func106,Tryz.ntmps106
  go_wp2_with fail
  refine(Zbm _ 1 40 _).mono ?_
  rintro e w2 ⟨rfl,hb⟩
  rw[HBT.out]
  have HB2:=ZnV hb
  have z0:=(HD.out.below hb ZnW).z0
  have z1:=(HD.out.below hb ZnW).z1
  clear hb
  go_wp2
  obtain⟨g,hg⟩:=ZnX w2.heap.size
  obtain⟨w3,hw3⟩:=ZnX (w2.alloc (bO ⟨#[48]⟩ ⟨#[49]⟩ ⟨#[48]⟩ ⟨#[49]⟩))
  have HB3:Hid (Below w.heap.size w w3):=by rw[← hw3];exact HB2.out.alloc HB2.out.size _
  have HO3:Hid (OwnB w3 w.heap.size (.slice (some ⟨g,0,none⟩) 1 1) (Z4 0)):=by
   rw[← hw3,← hg]
   have h:=World.ownsRow_lit w2 (base:=w.heap.size) #[.string ⟨#[48]⟩,.string ⟨#[49]⟩,.string ⟨#[48]⟩,.string ⟨#[49]⟩] 1 HB2.out.size (by simp[maxLen]) (e:=138) (size:=4) rfl
   have e:Z4 0=[ZbO]:=by
    unfold Z4
    rw[← ZjZ]
    rfl
   rw[e]
   exact h
  rw[hg,hw3]
  clear hw3 hg z0 z1 HB2
  go_loopw [4,5] (fun vo i wr=>∃ (k:Nat),i=.int .i64 ((k+1:Nat):Int)∧k≤n∧Hid (OwnB wr w.heap.size vo (Z4 k))∧Hid (Below w.heap.size w wr)) (fun _ i _=>n+1-(intOf i).toNat)
  case atStart=>exact⟨0,rfl,Nat.zero_le _,HO3,HB3⟩
  case round=>
   obtain⟨k,rfl,hk,HO,HB⟩:=hrel
   by_cases hlt:k<n
   ·have h1:((k+1:Nat):Int)≤(n:Int):=by omega
    have hk40:k+1≤40:=by omega
    go_wp2_with fail
    refine ZL [(true,0),(true,1),(true,2),(true,4),(true,5),(false,3),(false,6),(false,7),(false,8)] (fun _=>True) (fun _=>false)
     (by kernel_rfl) (by kernel_rfl) (by kernel_rfl) (fun _ _=>rfl) (fun _ _ o _ _ h=>by cases o<;>exact h) trivial ?_
    refine Ze _ rfl rfl (fun w' hS=>by go_simp;rfl) ?_
    simp only[ZnP,ZnQ,ZnR,Act.put,ZnS,ZnT,ZnU]
    refine Ze (.int .i64 ((2 ^ (k+1):Nat):Int)) rfl rfl (fun w' hS=>by go_simp;exact(Zit hk40).trans (by rw[Int.natCast_pow];rfl)) ?_
    simp only[ZnP,ZnQ,ZnR,Act.put,ZnS,ZnT,ZnU]
    refine Ze (.int .i64 ((2 ^ (k+1)-1:Nat):Int)) rfl rfl (fun w' hS=>by go_simp;exact Zlh hk40) ?_
    simp only[ZnP,ZnQ,ZnR,Act.put,ZnS,ZnT,ZnU]
    refine Ze _ rfl rfl (fun w' hS=>by go_simp;rfl) ?_
    simp only[ZnP,ZnQ,ZnR,Act.put,ZnS,ZnT,ZnU]
    refine Ze (.int .i64 ((2 ^ (k+1):Nat):Int)) rfl rfl (fun w' hS=>by go_simp;exact(Zit hk40).trans (by rw[Int.natCast_pow];rfl)) ?_
    simp only[ZnP,ZnQ,ZnR,Act.put,ZnS,ZnT,ZnU]
    have I1:=ZnV (fun W=>ZgB (2 ^ (k+1)-1) (Nat.le_trans (Nat.sub_le _ _) (ZjO hk40)) W)
    have I2:=ZnV (fun W=>ZgB (2 ^ (k+1)) (ZjO hk40) W)
    have I3:=ZnV (fun W=>ZgB (k+1) (by omega) W)
    obtain⟨x,hx⟩:=ZnX (str (Lib.decDigits (2 ^ (k+1)-1)))
    obtain⟨y,hy⟩:=ZnX (str (Lib.decDigits (2 ^ (k+1))))
    obtain⟨s,hs⟩:=ZnX (str (Lib.decDigits (k+1)))
    have HXY:Hid (ZhJ (k+1)=((s,⟨#[49]⟩),(x,y))):=by rw[← hx,← hy,← hs];exact rfl
    obtain⟨n1,hn1'⟩:=ZnX (2 ^ (k+1)-1)
    obtain⟨n2,hn2'⟩:=ZnX (2 ^ (k+1))
    rw[hx,hn1'] at I1
    rw[hy,hn2'] at I2
    rw[hs] at I3
    rw[hn1',hn2']
    clear hx hy hs hn1' hn2'
    refine Zg rfl rfl fun K hK=>?_
    go_simp
    go_at_call 157
    refine(I1.out _ (HT.out.below HB.out.drew ZnW)).mono ?_
    rintro e w4 ⟨rfl,hb⟩
    have HB4:Hid (Below w.heap.size w w4):=HB.out.drew.trans (hb.mono HB.out.size)
    have HO4:Hid (OwnB w4 w.heap.size u4 (Z4 k)):=HO.out.after (((Below.refl _ wr).drew).trans hb)
    refine hK _ _ (.inr trivial) ?_
    clear hK K hb
    refine Zg rfl rfl fun K hK=>?_
    go_simp
    go_at_call 157
    refine(I2.out _ (HT.out.below HB4.out ZnW)).mono ?_
    rintro e w5 ⟨rfl,hb⟩
    have HB5:Hid (Below w.heap.size w w5):=HB4.out.trans (hb.mono HB4.out.size)
    have HO5:Hid (OwnB w5 w.heap.size u4 (Z4 k)):=HO4.out.after hb
    refine hK _ _ (.inr trivial) ?_
    clear hK K hb HB4 HO4
    refine Zg rfl rfl fun K hK=>?_
    go_simp
    refine hK _ _ (.inr trivial) ?_
    clear hK K
    refine Zg rfl rfl fun K hK=>?_
    go_simp
    refine hK _ _ (.inr trivial) ?_
    clear hK K
    refine Zw ?_
    obtain⟨po,no,co,rfl⟩:∃ p n c,u4=.slice p n c:=by
     rcases HO.out.2 with ⟨h,_⟩ | ⟨g,cap,cur,h,_⟩
     ·exact⟨_,_,_,h⟩
     ·exact⟨_,_,_,h⟩
    go_wp2_with fail
    refine(I3.out _ (HT.out.below HB5.out ZnW)).mono ?_
    rintro e w6 ⟨rfl,hb⟩
    have HB6:Hid (Below w.heap.size w w6):=HB5.out.trans (hb.mono HB5.out.size)
    have HO6:Hid (OwnB w6 w.heap.size (.slice po no co) (Z4 k)):=HO5.out.after hb
    clear hb HB5 HO5
    have hlen:(Z4 k).length=k+1:=ZbG k
    have hownA:(w6.alloc (bO s ⟨#[49]⟩ x y)).ownsRow w.heap.size 138 4 (.slice po no co) (Z4 k).length (Za5 (Z4 k)):=HO6.out.alloc _
    have hm1:(Z4 k).length+1≤maxLen:=by rw[hlen];unfold maxLen;omega
    have hm2:((Z4 k).length+1)*64≤140737488355328:=by rw[hlen];omega
    have hm3:w.heap.size≤(w6.alloc (bO s ⟨#[49]⟩ x y)).heap.size:=by have:=HB6.out.size;simp;omega
    have hnews:∀ (j:Nat) (z:Value),([.string s,.string ⟨#[49]⟩,.string x,.string y]:List Value)[j]?=some z→(w6.alloc (bO s ⟨#[49]⟩ x y)).cell? ((⟨w6.heap.size,0,none⟩:Addr).add j)=some z:=World.news_of_block (World.alloc_heap_new w6 _)
    go_wp2_with (at_builtin;go_loud (refine wpList_append_own _ rfl (.tmp 27) (.tmp 35) 72 rfl w.heap.size 138 i0 (.agg #[.string ⟨#[]⟩,.string ⟨#[]⟩,.string ⟨#[]⟩,.string ⟨#[]⟩]) 4 64 Tryz.underlying72 hi hz0 hz1 hz2 rfl (by decide) _ (Z4 k).length (Za5 (Z4 k)) rfl hownA ⟨w6.heap.size,0,none⟩ 1 1 [.string s,.string ⟨#[49]⟩,.string x,.string y] rfl rfl hnews (by simp[Value.oneCell']) hm1 hm2 hm3 ?_);intro v' w7 hown7 hgrow7 _)
    have HB7:Hid (Below w.heap.size w w7):=(HB6.out.alloc HB6.out.size _).grown hgrow7 hm3 (fun z hz=>(World.ownsRow.lt hownA z hz).1)
    have HO7:Hid (OwnB w7 w.heap.size v' (Z4 (k+1))):=by
     rw[Zkb,HXY.out]
     exact OwnB.snoc hown7
    clear hown7 hgrow7 hownA hnews hm1 hm2 hm3 hlen
    go_roundw
    case rel=>exact⟨k+1,by go_num,by omega,HO7,HB7⟩
    case measure=>simp[intOf];omega
   ·obtain rfl:k=n:=by omega
    have h1:¬ ((k+1:Nat):Int)≤(k:Int):=by omega
    go_wp2
    exact bodyPost_ret (v:=.tuple #[u4,.int .i64 0]) (by simp[results,Tryz.f106,go_sem]) rfl ⟨.inr ⟨HNN.out,u4,rfl,by rw[Int.toNat_natCast];exact HO.out⟩,HB.out⟩
 ·have HNN:=ZnV hn
  have hb:(decide ((1:Int)≤n) && decide (n≤40))=false:=by rw[Bool.and_eq_false_iff,decide_eq_false_iff_not,decide_eq_false_iff_not];omega
  have HBT:=ZnV hb
  clear hn hb
  go_enter Tryz.func106,Tryz.ntmps106
  go_wp2_with fail
  refine(Zbm _ 1 40 _).mono ?_
  rintro e w2 ⟨rfl,hb⟩
  rw[HBT.out]
  have HB2:=ZnV hb
  clear hb
  go_wp2
  exact bodyPost_ret (v:=.tuple #[.slice none 0 0,.int .i64 2]) (by simp[results,Tryz.f106,go_sem]) rfl ⟨.inl ⟨HNN.out,rfl⟩,HB2.out⟩
structure Sg where
 sn:Int
 ob:Int
 li:Int
 se:Int
 wi:Int
def noSg:Sg:=⟨0,0,0,0,0⟩
def sAt (l:List Sg) (i:Nat):Sg:=l.getD i noSg
def ZhH (a b:Sg):Prop:=a.sn=b.sn∧a.ob=b.ob∧a.li=b.li
def inSg (a:Sg):Prop:=(0≤a.sn∧a.sn≤63)∧(0≤a.ob∧a.ob≤63)∧(0≤a.li∧a.li≤63)∧(0≤a.se∧a.se≤9)∧(0≤a.wi∧a.wi≤100000)
def ZkP (b a:Sg):Prop:=ZhH a b∧(a.se=b.se∨(b.se<a.se∧b.wi<a.wi)∨(a.se<b.se∧a.wi<b.wi))
def ZeW (l:List Sg):Prop:=l.length≤256∧∀ i,i<l.length→inSg (sAt l i)∧∀ k,k<i→¬ ZkP (sAt l k) (sAt l i)
def fitS (a:Sg) (sn ob li se:Int):Prop:=a.sn=sn∧a.ob=ob∧a.li=li∧se≤a.se
def Zip (l:List Sg) (sn ob li se:Int) (w e:Int):Prop:=
 (¬ ZeW l∧w=0∧e=2)∨(ZeW l∧(∀ i,i<l.length→¬ fitS (sAt l i) sn ob li se)∧w=0∧e=7)∨
  (ZeW l∧∃ i,i<l.length∧fitS (sAt l i) sn ob li se∧(∀ j,j<l.length→fitS (sAt l j) sn ob li se→(sAt l i).se≤(sAt l j).se)∧w=(sAt l i).wi∧e=0)
theorem ZeW.apart {l:List Sg} (h:ZeW l) {i j:Nat} (hi:i<l.length) (hj:j<l.length) (hs:ZhH (sAt l i) (sAt l j)) (hij:i≠j) :
  (sAt l i).se≠(sAt l j).se∧¬ ((sAt l i).se<(sAt l j).se∧(sAt l i).wi<(sAt l j).wi):=by
 rcases Nat.lt_or_gt_of_ne hij with hl | hl
 ·have:=(h.2 j hj).2 i hl
  unfold ZkP at this
  have hs2:ZhH (sAt l j) (sAt l i):=⟨hs.1.symm,hs.2.1.symm,hs.2.2.symm⟩
  refine⟨fun he=>this ⟨hs2,.inl he.symm⟩,fun he=>this ⟨hs2,.inr (.inl ⟨he.1,he.2⟩)⟩⟩
 ·have:=(h.2 i hi).2 j hl
  unfold ZkP at this
  refine⟨fun he=>this ⟨hs,.inl he⟩,fun he=>this ⟨hs,.inr (.inr ⟨he.1,he.2⟩)⟩⟩
theorem fitS.same {a b:Sg} {sn ob li se se2:Int} (h:fitS a sn ob li se) (g:fitS b sn ob li se2):ZhH a b:=⟨h.1.trans g.1.symm,h.2.1.trans g.2.1.symm,h.2.2.1.trans g.2.2.1.symm⟩
theorem Zip.det {l:List Sg} {sn ob li se w e w' e':Int} (h:Zip l sn ob li se w e) (g:Zip l sn ob li se w' e'):w=w'∧e=e':=by
 rcases h with ⟨h1,rfl,rfl⟩ | ⟨h1,h2,rfl,rfl⟩ | ⟨h1,i,h2,h3,h4,rfl,rfl⟩
 ·rcases g with ⟨_,rfl,rfl⟩ | ⟨g1,_⟩ | ⟨g1,_⟩
  ·exact⟨rfl,rfl⟩
  ·exact absurd g1 h1
  ·exact absurd g1 h1
 ·rcases g with ⟨g1,_⟩ | ⟨_,_,rfl,rfl⟩ | ⟨_,i,g2,g3,_⟩
  ·exact absurd h1 g1
  ·exact⟨rfl,rfl⟩
  ·exact absurd g3 (h2 i g2)
 ·rcases g with ⟨g1,_⟩ | ⟨_,g2,_⟩ | ⟨_,j,g2,g3,g4,rfl,rfl⟩
  ·exact absurd h1 g1
  ·exact absurd h3 (g2 i h2)
  ·by_cases hij:i=j
   ·subst hij;exact⟨rfl,rfl⟩
   ·have:=(h1.apart h2 g2 (h3.same g3) hij).1
    have a:=h4 j g2 g3
    have b:=g4 i h2 h3
    omega
def ZnJ (q:Rat) (w:World) (e:Ending) (w':World):Prop:=∃ x y,e=.returned (.agg #[.string x,.string y])∧IsP q x y∧Below w.heap.size w w'
theorem ZnK (a b:Nat) (hb:0<b) (ha1:a<1000) (hb1:b<1000) (w:World) (hT:Tabs w) :
  Calls Tryz.prog 46 #[.int .i64 a,.int .i64 b] w (ZnJ (mkRat (a:Nat) b) w):=by
 have HT:=ZnV hT
 have HF:Hid (Fits (mkRat (a:Nat) b)):=ZjX (k:=3) hb (by omega) (by omega) (by omega) (by omega)
 have HA:Hid (0<b∧a<1000∧b<1000):=⟨hb,ha1,hb1⟩
 clear hT hb ha1 hb1
 go_enter Tryz.func46,Tryz.ntmps46
 go_wp2_with fail
 obtain⟨w1,hw1⟩:=ZnX (w.alloc (.cells #[.string ⟨#[]⟩,.string ⟨#[]⟩] 41))
 rw[hw1]
 have HX1:Hid (Zj w.heap.size [.cells #[.string ⟨#[]⟩,.string ⟨#[]⟩] 41] w1):=by rw[← hw1];exact Zj.one w _
 have HB1:Hid (Below w.heap.size w w1):=by rw[← hw1];exact(Below.refl _ w).alloc ZnW _
 clear hw1
 refine(Zg2 a b (by omega) (by have:=HA.out;omega) (by omega) (by have:=HA.out;omega) _ (HT.out.below HB1.out ZnW)).mono ?_
 rintro e w2 ⟨x,y,n,rfl,hR,hb2⟩
 have HQ:Hid (IsP (mkRat (a:Nat) b) x y):=by
  have h3:=HA.out
  rcases hR with ⟨h,_⟩ | ⟨_,h,_⟩ | ⟨_,_,h⟩
  ·omega
  ·omega
  ·exact(h.fit HF.out).1
 have HX2:=ZnV (HX1.out.below hb2 HX1.out.lt)
 have HB2:=ZnV (HB1.out.trans (hb2.mono HB1.out.size))
 clear hb2 hR
 have HX3:=ZnV (HX2.out.alloc (.cells #[.string x,.string y] 41))
 have HB3:=ZnV (HB2.out.alloc HB2.out.size (.cells #[.string x,.string y] 41))
 have r0:=HX3.out.cell 0 0 (b:=w.heap.size) rfl rfl rfl
 have r1:=HX3.out.cell 0 1 (b:=w.heap.size) rfl rfl rfl
 have f0:=HX3.out.free 0 0 (b:=w.heap.size) rfl rfl
 have f1:=HX3.out.free 0 1 (b:=w.heap.size) rfl rfl
 go_wp2
 have q:=Zi (HX3.out.block 0 (b:=w.heap.size) rfl rfl) (.string x) (.string y)
 have HBQ:=ZnV (Zf HB3.out (b:=w.heap.size) ZnW (.string x) (.string y))
 obtain⟨w9,hw9⟩:=ZnX (((w2.alloc (.cells #[.string x,.string y] 41)).setCell ⟨w.heap.size,0,none⟩ (.string x)).setCell ⟨w.heap.size,1,none⟩ (.string y))
 rw[hw9] at q HBQ
 obtain⟨q0,q1⟩:=q
 rw[hw9]
 clear r0 r1 f0 f1 hw9
 refine bodyPost_ret (v:=.agg #[.string x,.string y]) (by simp[results,Tryz.f46,go_sem,q0,q1]) rfl ⟨_,_,rfl,HQ.out,HBQ.out⟩
end Go.Proofs.YtmpaflidennnoaaGreatDoor
