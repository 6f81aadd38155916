/- The parts PubSum, RSum, RSame, LawEValues, LawEValuesLift. -/
import Derived.Test.YtmpaflidennnoaaGreatDoorK010
import Derived.Test.YtmpaflidennnoaaGreatDoorH31
import Derived.Test.YtmpaflidennnoaaGreatDoorK009
set_option maxRecDepth 100000
set_option maxHeartbeats 8000000
set_option linter.unusedVariables false
set_option linter.unusedSimpArgs false
namespace Go.Proofs.YtmpaflidennnoaaGreatDoor
open Go.RowKit Go.Shelf
attribute [local go_sem ↓] Go.wp_at_zero Go.wp_at_succ
theorem PL.at1 {w:World} {p:Option Addr} {n cap:Nat} {ps:List PP} (h:PL w (.slice p n cap) ps) {k:Nat} (hk:k<ps.length) :
  ∃ b off,p=some ⟨b,off,none⟩/\b<w.heap.size/\∀ W,Below w.heap.size w W->
   W.cell? ⟨b,off+k*2,none⟩=some (.string ps[k].1)/\W.cell? ⟨b,off+k*2+1,none⟩=some (.string ps[k].2):=by
 obtain⟨p',c',hv,_,_,h4⟩:=h
 injection hv with e1 e2 e3
 subst e1
 obtain⟨b,off,rfl,hb,hat⟩:=h4 (Zoy Za)
 exact⟨b,off,rfl,hb,fun W hW=>(hat.below hW hb) k hk⟩
theorem Znc {u v:Value} {ps:List PP} {w:World} (hu:PL w u ps) (hv:PL w v ps):Calls Tryz.prog 33 #[u,v] w (Z3 w true):=by
 obtain⟨p1,c1,rfl,hc1,hm1,hp1⟩:=id hu
 obtain⟨p2,c2,rfl,hc2,hm2,hp2⟩:=id hv
 obtain⟨n,hn⟩:=Zpg ps.length
 rw[hn] at hu hv hc1 hc2 ⊢
 unfold maxLen at hm1 hm2
 have HU:=Zpe hu
 have HV:=Zpe hv
 have HN:=Zpe hn
 clear hu hv hn hp1 hp2
 go_enter Tryz.func33,Tryz.ntmps33
 go_wp2
 go_loopw [5] (fun vi wr=>∃ (k:Nat),vi=.int .i64 k/\k<=n/\Zo8 w wr) (fun vi _=>n-(intOf vi).toNat)
 case atStart=>exact⟨0,rfl,ZoD _,Zoq _ _⟩
 case round=>
  obtain⟨k,rfl,hk,HB⟩:=hrel
  obtain⟨wy,rfl⟩:∃ wy:World,wy=wr:=⟨_,rfl⟩
  by_cases hlt:k<n
  ·have hkp:k<ps.length:=by rw[HN.out];exact hlt
   obtain⟨b1,o1,rfl,hb1,hat1⟩:=HU.out.at1 hkp
   obtain⟨b2,o2,rfl,hb2,hat2⟩:=HV.out.at1 hkp
   obtain⟨e0,e1⟩:=hat1 wy HB.out
   obtain⟨d0,d1⟩:=hat2 wy HB.out
   obtain⟨s,hs⟩:=Zpg (ps[k].1)
   obtain⟨t,ht⟩:=Zpg (ps[k].2)
   rw[hs] at e0 d0
   rw[ht] at e1 d1
   have i0:(0:Int)<=(k:Int):=Za
   have i1:(k:Int)<(n:Int):=Za
   clear hat1 hat2 hs ht hkp
   go_wp2_with fail
   go_region
   clear e0 e1 d0 d1
   obtain⟨w8,hw8⟩:=Zpg wy.drew
   have HB8:Zo8 w w8:=by rw[<- hw8];exact HB.out.drew
   rw[hw8]
   clear hw8
   go_wp2
   go_roundw
   case rel=>exact⟨k+1,by go_num,Za,HB8⟩
   case measure=>exact Zj
  ·go_wp2
   go_ret
   exact⟨rfl,HB.out⟩
theorem ZfK {t:TaskP} {p:List (List Int)} {w w':World} {e:Ending} (h:Zg1 t p w e w'):∃ (qs:List PP) (v:Value) (n:Int),e=.returned (.tuple #[v,.int .i64 n])/\PL w' v qs/\((¬ PlanOk t p/\qs=[]/\n=2)\/(PlanOk t p/\Zbk t p qs t.sites.length/\n=0))/\Below w.heap.size w w':=by
 obtain⟨h,hb⟩:=h
 rcases h with ⟨h1,rfl⟩ | ⟨h1,qs,v,h2,h3,rfl⟩
 ·exact⟨[],_,_,rfl,⟨none,0,rfl,Nat.le_refl _,by simp[maxLen],Zc⟩,.inl ⟨h1,rfl,rfl⟩,hb⟩
 ·exact⟨qs,v,_,rfl,h3.pl,.inr ⟨h1,h2,rfl⟩,hb⟩
theorem ZcC.det {t:TaskP} {p:List (List Int)} {x y u v:ByteArray} {n m:Int} (h:ZcC t p x y n) (g:ZcC t p u v m):x=u/\y=v/\n=m:=by
 rcases h with ⟨h,rfl,rfl,rfl⟩ | ⟨h,h1⟩<;>rcases g with ⟨g,rfl,rfl,rfl⟩ | ⟨g,g1⟩
 ·exact⟨rfl,rfl,rfl⟩
 ·exact Zo4 g h
 ·exact Zo4 h g
 ·exact h1.det g1
theorem Zb5.det {t:TaskP} {p:List (List Int)} {a b:Int} {x y u v:ByteArray} {n m:Int} (h:Zb5 t p a b x y n) (g:Zb5 t p a b u v m):x=u/\y=v/\n=m:=by
 rcases h with ⟨h,rfl,rfl,rfl⟩ | ⟨h,rfl,h1⟩<;>rcases g with ⟨g,rfl,rfl,rfl⟩ | ⟨g,rfl,g1⟩
 ·exact⟨rfl,rfl,rfl⟩
 ·exact Zo4 g h
 ·exact Zo4 h g
 ·obtain⟨e1,e2⟩:=Zcs h1 g1 rfl
  exact⟨e1,e2,rfl⟩
open Classical in
noncomputable def ckV (P:Prop):Int:=if P then 0 else 2
theorem Zdx.val {P:Prop} {w w':World} {e:Ending} (h:Zdx P w e w'):ZV (.int .i64 (ckV P)) w e w':=by
 obtain⟨h,hb⟩:=h
 refine⟨?_,hb⟩
 unfold ckV
 rcases h with ⟨h,rfl⟩ | ⟨h,rfl⟩
 ·rw[if_pos h]
 ·rw[if_neg h]
theorem ZkV {t:TaskP} {p:List (List Int)} {sv hv rv pv:Value} {w:World} (hT:TaskIn t sv hv rv w) (hI:IIL w pv p) (u i:Int) :
  Calls Tryz.prog 6 #[.agg #[sv,hv,rv],pv,.int .i64 u,.int .i64 i] w (Z3 w true):=by
 have HI:=Zpe hI
 obtain⟨pl,pll,pcl,rfl,_⟩:∃ a b c,pv=.slice a b c/\True:=by obtain⟨a,c,h,_⟩:=hI;exact⟨_,_,_,h,trivial⟩
 clear hI
 obtain⟨ps,cs,rfl,_⟩:=hT.sites.shape rfl
 obtain⟨ph,ch,rfl,_⟩:=hT.hours.shape rfl
 obtain⟨pr,cr,rfl,_⟩:=hT.rates.shape rfl
 obtain⟨ns,hns⟩:=Zpg t.sites.length
 obtain⟨nh,hnh⟩:=Zpg t.hours.length
 obtain⟨nr,hnr⟩:=Zpg t.rates.length
 rw[hns,hnh,hnr] at hT ⊢
 have HT:=Zpe hT
 have HNS:=Zpe hns
 have HNH:=Zpe hnh
 obtain⟨w1,hw1⟩:=Zpg (w.alloc (efO (.slice ps ns cs) (.slice ph nh ch) (.slice pr nr cr)))
 obtain⟨G,hG⟩:=Zpg w.heap.size
 have HG:=Zpe hG
 have HE1:Hid (Env w.heap.size w [(G,efO (.slice ps ns cs) (.slice ph nh ch) (.slice pr nr cr))] [] w1):=by rw[<- hw1];exact(Env.start w).push _ hG.symm
 clear hT hns hnh hnr
 go_enter Tryz.func6,Tryz.ntmps6
 have c0:=HE1.out.cell 0 0 (v:=.slice ps ns cs) rfl rfl
 have c1:=HE1.out.cell 0 1 (v:=.slice ph nh ch) rfl rfl
 have c2:=HE1.out.cell 0 2 (v:=.slice pr nr cr) rfl rfl
 go_wp2_with fail
 refine(ZkF (HT.out.below HE1.out.base Zpf) 6 3 60 Zd Zd Zd).mono ?_
 rintro e w3 ⟨r,rfl,hS,hb⟩
 have HE3:=Zpe (HE1.out.step hb)
 clear hb HE1 c0 c1 c2 hw1 hG
 cases r with
 | true=>
  have hTa:=HT.out.below HE3.out.base Zpf
  go_wp2_with fail
  refine(ZeK _ hTa.det hTa.tabs hTa.eff).mono ?_
  rintro e w19 ⟨rfl,hb⟩
  have HE19:=Zpe (HE3.out.step hb)
  clear hb
  go_wp2
  exact Zor (by simp[results,Tryz.f6,go_sem]) rfl ⟨rfl,HE19.out.base⟩
 | false=>
  have HZ:=Zpe (hS rfl).lim
  clear hS
  go_wp2_with fail
  refine(Zna (IIL.stay2 HI.out HE3.out.base Zpf)).mono ?_
  rintro e w4 ⟨r,rfl,hW,hb⟩
  have HE4:=Zpe (HE3.out.step hb)
  have HW:=Zpe hW
  clear hb HE3 hW
  cases r with
  | true=>
   have hTa:=HT.out.below HE4.out.base Zpf
   go_wp2_with fail
   refine(ZeK _ hTa.det hTa.tabs hTa.eff).mono ?_
   rintro e w19 ⟨rfl,hb⟩
   have HE19:=Zpe (HE4.out.step hb)
   clear hb
   go_wp2
   exact Zor (by simp[results,Tryz.f6,go_sem]) rfl ⟨rfl,HE19.out.base⟩
  | false=>
   have HWD:=Zpe (HW.out rfl)
   clear HW
   go_wp2_with fail
   refine(ZkB (IIL.stay2 HI.out HE4.out.base Zpf) HWD.out.1 HWD.out.2).mono ?_
   rintro e w5 ⟨v1,rfl,hv1,hb⟩
   obtain⟨a1,b1,d1,rfl⟩:∃ a b c,v1=.slice a b c:=by obtain⟨a,c,h,_⟩:=hv1;exact⟨_,_,_,h⟩
   have HE5:=Zpe (HE4.out.step hb)
   have HV1:=Zpe hv1
   clear hb hv1 HE4 HWD
   have c0:=HE5.out.cell 0 0 (v:=.slice ps ns cs) rfl rfl
   have c1:=HE5.out.cell 0 1 (v:=.slice ph nh ch) rfl rfl
   have c2:=HE5.out.cell 0 2 (v:=.slice pr nr cr) rfl rfl
   go_wp2_with fail
   refine(ZjD (HT.out.below HE5.out.base Zpf) HZ.out HV1.out).mono ?_
   rintro e w6 hA
   obtain⟨l1,v2,n1,rfl,hv2,hq1,hb⟩:=ZfK hA
   obtain⟨a2,b2,d2,rfl⟩:∃ a b c,v2=.slice a b c:=by obtain⟨a,c,h,_⟩:=hv2;exact⟨_,_,_,h⟩
   have HE6:=Zpe (HE5.out.step hb)
   have HVV:Hid (IIL w6 (.slice a1 b1 d1) p/\PL w6 (.slice a2 b2 d2) l1):=⟨IIL.stay2 HV1.out hb Zpf,hv2⟩
   have HQ1:=Zpe hq1
   clear hb hA hv2 hq1 c0 c1 c2 HE5 HV1
   have c0:=HE6.out.cell 0 0 (v:=.slice ps ns cs) rfl rfl
   have c1:=HE6.out.cell 0 1 (v:=.slice ph nh ch) rfl rfl
   have c2:=HE6.out.cell 0 2 (v:=.slice pr nr cr) rfl rfl
   go_wp2_with fail
   refine(ZjJ (HT.out.below HE6.out.base Zpf) HZ.out (IIL.stay2 HI.out HE6.out.base Zpf)).mono ?_
   rintro e w7 hA
   obtain⟨l2,v3,n2,rfl,hv3,hq2,hb⟩:=ZfK hA
   obtain⟨a3,b3,d3,rfl⟩:∃ a b c,v3=.slice a b c:=by obtain⟨a,c,h,_⟩:=hv3;exact⟨_,_,_,h⟩
   have hqq:l2=l1/\n2=n1:=by
    rcases HQ1.out with ⟨a1,rfl,rfl⟩ | ⟨a1,a2,rfl⟩<;>rcases hq2 with ⟨b1,rfl,rfl⟩ | ⟨b1,b2,rfl⟩
    ·exact⟨rfl,rfl⟩
    ·exact Zo4 b1 a1
    ·exact Zo4 a1 b1
    ·exact⟨b2.det a2,rfl⟩
   obtain⟨rfl,rfl⟩:=hqq
   have HE7:=Zpe (HE6.out.step hb)
   have HVS:Hid (∀ V,Below w7.heap.size w7 V->IIL V (.slice a1 b1 d1) p/\PL V (.slice a2 b2 d2) l2/\PL V (.slice a3 b3 d3) l2):=fun V hV=>⟨IIL.stay2 (IIL.stay2 HVV.out.1 hb Zpf) hV Zpf,(HVV.out.2.after hb Zpf).after hV Zpf,hv3.after hV Zpf⟩
   clear hb hA hv3 hq2 c0 c1 c2 HE6 HVV HQ1
   have c0:=HE7.out.cell 0 0 (v:=.slice ps ns cs) rfl rfl
   have c1:=HE7.out.cell 0 1 (v:=.slice ph nh ch) rfl rfl
   have c2:=HE7.out.cell 0 2 (v:=.slice pr nr cr) rfl rfl
   go_wp2_with fail
   refine(ZgT (HT.out.below HE7.out.base Zpf) HZ.out (HVS.out _ (Zoq _ _)).1).mono ?_
   rintro e w8 ⟨x,y,n3,rfl,hA,hb⟩
   have HA1:=Zpe hA
   obtain⟨A,hAs⟩:=Zpg w8.heap.size
   obtain⟨w9,hw9⟩:=Zpg (w8.alloc (pObj x y))
   have HE9:=Zpe ((HE7.out.step hb).push (pObj x y) hAs.symm)
   have HB9:Zo8 w7 w9:=by rw[<- hw9];exact hb.trans (((Zoq _ w8).alloc Zpf _).mono hb.size)
   rw[hw9] at HE9
   clear hA hb HE7 c0 c1 c2
   have c0:=HE9.out.cell 1 0 (v:=.slice ps ns cs) rfl rfl
   have c1:=HE9.out.cell 1 1 (v:=.slice ph nh ch) rfl rfl
   have c2:=HE9.out.cell 1 2 (v:=.slice pr nr cr) rfl rfl
   go_wp2_with fail
   try rw[hw9]
   try rw[hAs]
   clear hw9 hAs
   refine(Zlj (HT.out.below HE9.out.base Zpf) HZ.out (IIL.stay2 HI.out HE9.out.base Zpf)).mono ?_
   rintro e w10 ⟨x2,y2,n4,rfl,hA,hb⟩
   obtain⟨rfl,rfl,rfl⟩:=hA.det HA1.out
   obtain⟨B,hBs⟩:=Zpg w10.heap.size
   obtain⟨w11,hw11⟩:=Zpg (w10.alloc (pObj x2 y2))
   have HE11:=Zpe ((HE9.out.step hb).push (pObj x2 y2) hBs.symm)
   have HB11:Zo8 w7 w11:=by
    rw[<- hw11]
    exact HB9.out.trans ((hb.trans (((Zoq _ w10).alloc Zpf _).mono hb.size)).mono HB9.out.size)
   rw[hw11] at HE11
   clear hA hb HE9 c0 c1 c2 HA1 HB9
   have c0:=HE11.out.cell 2 0 (v:=.slice ps ns cs) rfl rfl
   have c1:=HE11.out.cell 2 1 (v:=.slice ph nh ch) rfl rfl
   have c2:=HE11.out.cell 2 2 (v:=.slice pr nr cr) rfl rfl
   go_wp2_with fail
   try rw[hw11]
   try rw[hBs]
   clear hw11 hBs
   refine(Zl5 (HT.out.below HE11.out.base Zpf) HZ.out (HVS.out _ HB11.out).1).mono ?_
   rintro e w12 ⟨gx,gy,n5,rfl,hA,hb⟩
   have HA1:=Zpe hA
   obtain⟨C,hCs⟩:=Zpg w12.heap.size
   obtain⟨w13,hw13⟩:=Zpg (w12.alloc (pObj gx gy))
   have HE13:=Zpe ((HE11.out.step hb).push (pObj gx gy) hCs.symm)
   have HB13:Zo8 w7 w13:=by
    rw[<- hw13]
    exact HB11.out.trans ((hb.trans (((Zoq _ w12).alloc Zpf _).mono hb.size)).mono HB11.out.size)
   rw[hw13] at HE13
   clear hA hb HE11 c0 c1 c2 HB11
   have c0:=HE13.out.cell 3 0 (v:=.slice ps ns cs) rfl rfl
   have c1:=HE13.out.cell 3 1 (v:=.slice ph nh ch) rfl rfl
   have c2:=HE13.out.cell 3 2 (v:=.slice pr nr cr) rfl rfl
   go_wp2_with fail
   try rw[hw13]
   try rw[hCs]
   clear hw13 hCs
   refine(Zmm (HT.out.below HE13.out.base Zpf) HZ.out (IIL.stay2 HI.out HE13.out.base Zpf)).mono ?_
   rintro e w14 ⟨gx2,gy2,n6,rfl,hA,hb⟩
   obtain⟨rfl,rfl,rfl⟩:=hA.det HA1.out
   obtain⟨D,hDs⟩:=Zpg w14.heap.size
   obtain⟨wz,hwz⟩:=Zpg (w14.alloc (pObj gx2 gy2))
   have HEZ:=Zpe ((HE13.out.step hb).push (pObj gx2 gy2) hDs.symm)
   have HBZ:Zo8 w7 wz:=by
    rw[<- hwz]
    exact HB13.out.trans ((hb.trans (((Zoq _ w14).alloc Zpf _).mono hb.size)).mono HB13.out.size)
   rw[hwz] at HEZ
   clear hA hb HE13 c0 c1 c2 HA1 HB13
   have HF:Hid (∀ V,Below wz.heap.size wz V->V.heap[G]?=some (efO (.slice ps ns cs) (.slice ph nh ch) (.slice pr nr cr))/\TaskIn t (.slice ps ns cs) (.slice ph nh ch) (.slice pr nr cr) V/\IIL V (.slice a1 b1 d1) p/\IIL V (.slice pl pll pcl) p):=fun V hV=>by
    have hE:=HEZ.out.step hV
    exact⟨hE.block 4 rfl,HT.out.below hE.base Zpf,(HVS.out V (HBZ.out.trans (hV.mono HBZ.out.size))).1,IIL.stay2 HI.out hE.base Zpf⟩
   obtain⟨k1,hk1⟩:=Zpg (ckV (TaskOk t))
   obtain⟨k2,hk2⟩:=Zpg (ckV (PlanOk t p))
   have HC1:Hid (∀ V,Below wz.heap.size wz V->Calls Tryz.prog 29 #[.agg #[.slice ps ns cs,.slice ph nh ch,.slice pr nr cr]] V (ZV (.int .i64 k1) V)):=fun V hV=>by rw[<- hk1];exact(Zdr (HF.out V hV).2.1 HZ.out).mono fun _ _ h=>h.val
   have HC2:Hid (∀ V,Below wz.heap.size wz V->Calls Tryz.prog 30 #[.agg #[.slice ps ns cs,.slice ph nh ch,.slice pr nr cr]] V (ZV (.int .i64 k1) V)):=fun V hV=>by rw[<- hk1];exact(ZjS (HF.out V hV).2.1 HZ.out).mono fun _ _ h=>h.val
   have HC3:Hid (∀ V,Below wz.heap.size wz V->Calls Tryz.prog 31 #[.agg #[.slice ps ns cs,.slice ph nh ch,.slice pr nr cr],.slice a1 b1 d1] V (ZV (.int .i64 k2) V)):=fun V hV=>by rw[<- hk2];exact(Zb7 (HF.out V hV).2.1 HZ.out (HF.out V hV).2.2.1).mono fun _ _ h=>h.val
   have HC4:Hid (∀ V,Below wz.heap.size wz V->Calls Tryz.prog 32 #[.agg #[.slice ps ns cs,.slice ph nh ch,.slice pr nr cr],.slice pl pll pcl] V (ZV (.int .i64 k2) V)):=fun V hV=>by rw[<- hk2];exact(Zgj (HF.out V hV).2.1 HZ.out (HF.out V hV).2.2.2).mono fun _ _ h=>h.val
   have hkk1:(k1==k1)=true:=Zc
   have hkk2:(k2==k2)=true:=Zc
   clear hk1 hk2
   go_wp2_with fail
   try rw[hwz]
   try rw[hDs]
   clear hwz hDs
   refine ZP [(1,0),(1,2),(0,1),(0,3),(1,4),(1,5),(1,6),(1,7),(1,9),(1,10),(0,8),(0,11),(1,12),(1,13),(1,14)] (fun V=>Below wz.heap.size wz V) (fun _=>false)
    Zb Zb (fun j hj=>rfl) Zi (Zoq _ _).drew ?_
   obtain⟨y0,hy0⟩:=Zpg wz.drew
   have HE0:Zo8 wz y0:=by rw[<- hy0];exact(Zoq _ _).drew
   rw[hy0]
   clear hy0
   iterate 2
    refine Zx _ rfl rfl (fun w' hS=>by have hg:=(HF.out w' hS).1;have c0:=Zn hg 0 (v:=.slice ps ns cs) rfl;have c1:=Zn hg 1 (v:=.slice ph nh ch) rfl;have c2:=Zn hg 2 (v:=.slice pr nr cr) rfl;exact Ze) ?_
    simp only[Act.put,Zl]
   refine Zy 29 _ rfl rfl Zf ?_
   have HEC:=HE0
   refine(HC1.out _ HEC.out).mono ?_
   rintro e w20 ⟨rfl,hb⟩
   have HE20:=Zpe (HEC.out.trans (hb.mono HEC.out.size))
   refine .inl ⟨_,rfl,HE20.out,?_⟩
   clear hb HEC
   simp only[Act.put,Zl]
   refine Zy 30 _ rfl rfl Zf ?_
   have HEC:=HE20
   refine(HC2.out _ HEC.out).mono ?_
   rintro e w21 ⟨rfl,hb⟩
   have HE21:=Zpe (HEC.out.trans (hb.mono HEC.out.size))
   refine .inl ⟨_,rfl,HE21.out,?_⟩
   clear hb HEC
   simp only[Act.put,Zl]
   iterate 6
    refine Zx _ rfl rfl (fun w' hS=>by have hg:=(HF.out w' hS).1;have c0:=Zn hg 0 (v:=.slice ps ns cs) rfl;have c1:=Zn hg 1 (v:=.slice ph nh ch) rfl;have c2:=Zn hg 2 (v:=.slice pr nr cr) rfl;exact Ze) ?_
    simp only[Act.put,Zl]
   refine Zy 31 _ rfl rfl Zf ?_
   have HEC:=HE21
   refine(HC3.out _ HEC.out).mono ?_
   rintro e w22 ⟨rfl,hb⟩
   have HE22:=Zpe (HEC.out.trans (hb.mono HEC.out.size))
   refine .inl ⟨_,rfl,HE22.out,?_⟩
   clear hb HEC
   simp only[Act.put,Zl]
   refine Zy 32 _ rfl rfl Zf ?_
   have HEC:=HE22
   refine(HC4.out _ HEC.out).mono ?_
   rintro e w23 ⟨rfl,hb⟩
   have HE23:=Zpe (HEC.out.trans (hb.mono HEC.out.size))
   refine .inl ⟨_,rfl,HE23.out,?_⟩
   clear hb HEC
   simp only[Act.put,Zl]
   iterate 3
    refine Zx _ rfl rfl (fun w' hS=>Ze) ?_
    simp only[Act.put,Zl]
   refine ZD ?_
   have HE23':=Zpe (HEZ.out.step HE23.out)
   have HBY:Zo8 w7 w23:=HBZ.out.trans (HE23.out.mono HBZ.out.size)
   have hnn:(n2==n2)=true:=Zc
   clear HC1 HC2 HC3 HC4 HF hkk1 hkk2 HEZ HBZ HE0 HE20 HE21 HE22 HE23
   go_wp2_with fail
   refine(Znc (HVS.out _ HBY.out).2.1 (HVS.out _ HBY.out).2.2).mono ?_
   rintro e w24 ⟨rfl,hb⟩
   have HE24:=Zpe (HE23'.out.step hb)
   have HB24:Zo8 w7 w24:=HBY.out.trans (hb.mono HBY.out.size)
   clear hb HE23' HBY
   have d0:=HE24.out.cell 3 0 (v:=.string x2) rfl rfl
   have d1:=HE24.out.cell 3 1 (v:=.string y2) rfl rfl
   have e0:=HE24.out.cell 2 0 (v:=.string x2) rfl rfl
   have e1:=HE24.out.cell 2 1 (v:=.string y2) rfl rfl
   go_wp2_with fail
   refine(ZiR x2 y2 n4 _).mono ?_
   rintro e w25 ⟨rfl,hb⟩
   have HE25:=Zpe (HE24.out.step hb)
   have HB25:Zo8 w7 w25:=HB24.out.trans (hb.mono HB24.out.size)
   clear hb HE24 HB24 d0 d1 e0 e1
   have d0:=HE25.out.cell 1 0 (v:=.string gx2) rfl rfl
   have d1:=HE25.out.cell 1 1 (v:=.string gy2) rfl rfl
   have e0:=HE25.out.cell 0 0 (v:=.string gx2) rfl rfl
   have e1:=HE25.out.cell 0 1 (v:=.string gy2) rfl rfl
   go_wp2_with fail
   refine(ZiR gx2 gy2 n6 _).mono ?_
   rintro e w26 ⟨rfl,hb⟩
   have HE26:=Zpe (HE25.out.step hb)
   have HB26:Zo8 w7 w26:=HB25.out.trans (hb.mono HB25.out.size)
   clear hb HE25 HB25 d0 d1 e0 e1
   go_wp2_with fail
   refine(Zl3 (HVS.out _ HB26.out).1 (IIL.stay2 HI.out HE26.out.base Zpf)).mono ?_
   rintro e w27 ⟨rfl,hb⟩
   have HE27:=Zpe (HE26.out.step hb)
   clear hb HE26 HB26 HVS
   have hTa:=HT.out.below HE27.out.base Zpf
   go_wp2_with fail
   refine(ZeK _ hTa.det hTa.tabs hTa.eff).mono ?_
   rintro e w19 ⟨rfl,hb⟩
   have HE19:=Zpe (HE27.out.step hb)
   clear hb
   go_wp2
   exact Zor (by simp[results,Tryz.f6,go_sem]) rfl ⟨rfl,HE19.out.base⟩
end Go.Proofs.YtmpaflidennnoaaGreatDoor
namespace Go.Proofs.YtmpaflidennnoaaGreatDoor
open Go.ChangeShapes Go.WideShapes Go.ChangeAt Go.RowKit
theorem Zh1 (os:Os) (started:os.Started) (H:Type) (enc:TypeId×Value->H) :
  ReturnsInHanded {} Tryz.checked os 6 .any (fun w args=>(Rows.effortValuesSpec.pre enc Tryz.prog Tryz.f6 Rows.effortValuesRow.domain false w args/\laidMetH Tryz.prog Zba w)/\sizedMet enc Tryz.prog Tryz.f6 (OpenSpec.ofChange Rows.effortValuesSpec) false w args)
   (Rows.effortValuesSpec.post enc Tryz.prog Tryz.f6 false true false false):=by
 refine returnsInHanded_of_change_and (C:=Tryz.checked) (X:=fun w _=>laidMetH Tryz.prog Zba w) (fun _ _ _ hh h=>h.of_heap hh) ZmD started Zb Tryz.func6
  (ChangeSpec.witness_shaped (enc:=enc) (C:=Tryz.checked) (os:=os) (X:=fun w _=>laidMetH Tryz.prog Zba w) false (World.laidAll Tryz.prog os Zba) #[.agg #[.slice none 0 0,.slice none 0 0,.slice none 0 0],.slice none 0 0,.int .i64 0,.int .i64 0] 8 (World.laidAll_os _ _ _)
   (World.shaped_of_ZipB Zb Zb) Zb Zb Zb (met9 os _)) ?_
 intro W base args ds gs before hval0 hW hc _ hL _
 have hval:∀ (j:Nat) t v,Tryz.f6.params[j]?=some t->args[j]?=some v->Value.okWide Tryz.prog W .any base t v:=hval0
 have hW':=hW
 obtain⟨p,q,hA0,hV,rfl,_,_⟩:=hW
 have hA:DataW.TrodAll enc Tryz.prog W 0 (fun _=>true) true Tryz.f6.params.toList args.toList ds p:=hA0
 rw[Tryz.params6] at hA hval
 obtain⟨v0,v1,v2,v3,d0,d1,d2,d3,p0,p1,p2,p3,rfl,rfl,rfl,h0,h1,h2,h3⟩:=trodAll_four hA
 obtain⟨rfl,rfl⟩:=trodVars_none hV
 obtain⟨t0,x0,y0,z0,rfl,hT0⟩:=ZnI (hval 0 _ v0 rfl rfl) h0 hL
 obtain⟨n1,hn1⟩:=Zlz (hval 1 _ v1 rfl rfl) h1
 obtain⟨a2,rfl,rfl,rfl,wa2⟩:=open_int Tryz.underlying3 (hval 2 _ v2 rfl rfl) h2
 have ha2 : -9223372036854775808<=a2/\a2<=9223372036854775807:=by simpa[Lit.wf,IntKind.min,IntKind.max,IntKind.signed,IntKind.bits] using wa2
 obtain⟨a3,rfl,rfl,rfl,wa3⟩:=open_int Tryz.underlying3 (hval 3 _ v3 rfl rfl) h3
 have ha3 : -9223372036854775808<=a3/\a3<=9223372036854775807:=by simpa[Lit.wf,IntKind.min,IntKind.max,IntKind.signed,IntKind.bits] using wa3
 clear hA0 hval0
 simp only[List.append_nil] at hW'
 refine(ZkV hT0 hn1 a2 a3).mono fun e W' ⟨he,bel⟩=>?_
 subst he
 have nx:∀ x ∈ ([]:List MemPlace),x.block<W.heap.size:=fun _ h=>by cases h
 have hlt0:∀ x ∈ p0,x.block<W.heap.size:=fun x hx=>by first | (have:=hW'.lt x hx;simpa using this) | (have:=hW'.lt x (by simp[hx]);simpa using this)
 have hlt1:∀ x ∈ p1,x.block<W.heap.size:=fun x hx=>by first | (have:=hW'.lt x hx;simpa using this) | (have:=hW'.lt x (by simp[hx]);simpa using this)
 refine⟨_,rfl,_,_,_,[],p0++p1,[],hW',?_,?_,?_,bel.frame _,fun h=>by cases h⟩
 ·exact trodAll_mk1 (shut_bool Tryz.underlying4 _)
 ·have h9:=trodAll_mk4 (Below.trod ZeF Zb (of_decide_eq_true Zb) h0 bel hlt0) (Below.trod ZeF Zb (of_decide_eq_true Zb) h1 bel hlt1) (Below.trod ZeF Zb (of_decide_eq_true Zb) h2 bel nx) (Below.trod ZeF Zb (of_decide_eq_true Zb) h3 bel nx)
  first | exact h9 | (simp only[List.append_nil,Zo7] at h9;exact h9) | (simp only[<- List.append_assoc,List.append_nil,Zo7] at h9;exact h9) | (simpa using h9)
 ·rfl
end Go.Proofs.YtmpaflidennnoaaGreatDoor
