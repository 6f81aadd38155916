/- The parts REGain, RETask. -/
import Derived.Test.YtmpaflidennnoaaGreatDoorK004
set_option maxRecDepth 100000
set_option maxHeartbeats 4000000
set_option linter.unusedVariables false
set_option linter.unusedSimpArgs false
namespace Go.Proofs.YtmpaflidennnoaaGreatDoor
open Go.RowKit Go.Shelf
attribute [local go_sem ↓] Go.wp_at_zero Go.wp_at_succ
theorem Zgp (s t:ByteArray) {b:Nat} {n:Int} {w:World} (h:w.heap[b]?=some (smO n)) :
  Calls Tryz.prog 74 #[.pointer (some ⟨b,0,none⟩),pV s t] w (ZV (.tuple #[pV (if n=0 then s else Zpa) (if n=0 then t else Zpa),.int .i64 n]) w):=by
 have hbl:=Zh9 h
 have HE0:Hid (Env w.heap.size w [(w.heap.size+1,pObj Zpa Zpa),(w.heap.size,pObj s t)] [] ((w.alloc (pObj s t)).alloc (pObj Zpa Zpa))):=((Env.start w).push _ rfl).push _ Zc
 have HB:Hid (∀ V,Below w.heap.size w V->V.cell? ⟨b,0,none⟩=some (.int .i64 n)):=fun V hV=>(hV.cell hbl).trans (Zn h 0 rfl)
 have b0:=HB.out _ HE0.out.base
 have d0:=HE0.out.cell 1 0 (v:=.string s) rfl rfl
 have d1:=HE0.out.cell 1 1 (v:=.string t) rfl rfl
 have r0:=HE0.out.cell 0 0 (v:=.string Zpa) rfl rfl
 have r1:=HE0.out.cell 0 1 (v:=.string Zpa) rfl rfl
 have f0:=HE0.out.free 0 0 rfl
 have f1:=HE0.out.free 0 1 rfl
 clear h
 by_cases hn:n=0
 ·subst hn
  rw[if_pos rfl,if_pos rfl]
  have HE2:Hid (Env w.heap.size w [(w.heap.size+1,pObj s t),(w.heap.size,pObj s t)] [] ((w.alloc (pObj s t)).alloc (pObj s t))):=((Env.start w).push _ rfl).push _ Zc
  go_enter Tryz.func74,Tryz.ntmps74
  go_wp2
  have q0:=HE2.out.cell 0 0 (v:=.string s) rfl rfl
  have q1:=HE2.out.cell 0 1 (v:=.string t) rfl rfl
  exact Zor (v:=.tuple #[pV s t,.int .i64 0]) (by simp[results,Tryz.f74,go_sem,q0,q1]) rfl ⟨rfl,HE2.out.base⟩
 ·rw[if_neg hn,if_neg hn]
  have h1:(n !=0)=true:=by rw[bne_iff_ne];exact hn
  clear hn
  go_enter Tryz.func74,Tryz.ntmps74
  go_wp2_with fail
  go_region_held3
   (fun w'=>w'.cell? ⟨b,0,none⟩=some (.int .i64 n))
   (first | exact b0 | exact(Zc7 _ _ _ Za _).trans b0)
   (first | fail)
  all_goals
   have HE9:=Zpe HE0.out.drew
   have q0:=HE9.out.cell 0 0 (v:=.string Zpa) rfl rfl
   have q1:=HE9.out.cell 0 1 (v:=.string Zpa) rfl rfl
   go_wp2
   exact Zor (v:=.tuple #[pV Zpa Zpa,.int .i64 n]) (by simp[results,Tryz.f74,go_sem,q0,q1]) rfl ⟨rfl,HE9.out.base⟩
theorem Zma {t:TaskP} {p:List (List Int)} {b:Nat} {sv hv rv pv:Value} {pb po pc:Nat} {gq gp gc:Nat->Nat} {w:World} (hE:Zb0 b (TaskIn t sv hv rv) w) (hP:PlanW p t.sites.length b pv pb po pc gq gp gc w) (hs:w.heap[b]?=some (smO 0)) (ok:TaskOk t) (inn:Zbu t p) {u i:Nat} (hu:u<t.rates.length) (hi:i<t.sites.length) :
  Calls Tryz.prog 55 #[.pointer (some ⟨b,0,none⟩),.agg #[sv,hv,rv],pv,.int .i64 u,.int .i64 i] w (SmP b 0 (Zay t p u i) w):=by
 obtain⟨sb,so,sc,hb,ho,hc,rb,ro,rk,cv,rq,rp,rc,rfl,rfl,rfl,k1,k2,k3,hA⟩:=hE.open ok
 obtain rfl:=hP.val
 obtain⟨N,hN⟩:=Zpg t.sites.length
 obtain⟨R,hR⟩:=Zpg t.rates.length
 have HV:Hid (∀ V,Keeps (NotM b) w V->(V.cell? ⟨sb,so+i*3,none⟩=some (.string (eS t i).weight.1)/\V.cell? ⟨sb,so+i*3+1,none⟩=some (.string (eS t i).weight.2)/\V.cell? ⟨sb,so+i*3+2,none⟩=some (cv i)/\BL V (cv i) (eS t i).curve)/\
   V.cell? ⟨rb,ro+u,none⟩=some (.slice (some ⟨rq u,rp u,none⟩) N (rc u))/\V.cell? ⟨rq u,rp u+i*2,none⟩=some (.string (eR t u i).1)/\V.cell? ⟨rq u,rp u+i*2+1,none⟩=some (.string (eR t u i).2)):=fun V hV=>by
  obtain⟨a1,_,_,a2⟩:=(hA V hV).rate u hu
  rw[hN] at a1 a2
  exact⟨(hA V hV).site i hi,a1,a2 i (by rw[<- hN];exact hi)⟩
 have HCV:Hid (∀ V,Keeps (NotM b) w V->V.heap[b]?=some (smO 0)->Calls Tryz.prog 73 #[.pointer (some ⟨b,0,none⟩),.agg #[.slice (some ⟨sb,so,none⟩) N sc,.slice (some ⟨hb,ho,none⟩) t.hours.length hc,.slice (some ⟨rb,ro,none⟩) t.rates.length rk],.slice (some ⟨pb,po,none⟩) p.length pc,.int .i64 i] V (SmP b 0 (covR t p i) V)):=fun V hV hs=>by
  rw[<- hN]
  exact Zew (hE.keep hV) (hP.keep hV) hs ok inn hi
 obtain⟨⟨xm,ym,hxm⟩,hzm,hzc,⟨xd,yd,hxd⟩,⟨xg,yg,hxg⟩,_⟩:=Zhu ok inn hu hi
 obtain⟨_,c2,c3⟩:=ZcW ok inn hi Zpf
 obtain⟨⟨x2,y2,hx2⟩,_⟩:=Zcv ok hi c3 hzc Zd
 obtain⟨⟨x1,y1,hx1⟩,_⟩:=Zcv ok hi hxm.nn hzm Zd
 have HX1:=Zpe hx1
 have HX2:=Zpe hx2
 have HXM:=Zpe hxm
 have HXD:=Zpe hxd
 have HXG:=Zpe hxg
 have HZ:=Zpe (Zo5 hzm hzc)
 have HCU:Hid (CurveP (eS t i).curve):=(ok.site i hi).2
 have HWR:Hid (IsP (wR t i) (eS t i).weight.1 (eS t i).weight.2):=(Zfz ok hi).1
 have HRR:Hid (IsP (rR t u i) (eR t u i).1 (eR t u i).2):=(Zd6 ok hu hi).1
 have hsc:N<=sc/\sc<=9223372036854775807:=by rw[<- hN];exact k1
 have hrk:R<=rk/\rk<=9223372036854775807:=by rw[<- hR];exact k3
 have hN24:N<=24:=by rw[<- hN];exact ok.sites.2
 obtain⟨_,hrc1,hrc2,_⟩:=(hA w (Keeps.refl _ _)).rate u hu
 obtain⟨_,_,_,pq,cq,hcv,_⟩:=(hA w (Keeps.refl _ _)).site i hi
 obtain⟨nq,hnq⟩:=Zpg ((eS t i).curve.length)
 have HS:=Zpe hs
 rw[hN] at hi hrc1
 rw[hR] at hu HCV
 rw[hnq] at hcv
 obtain⟨T,hT⟩:=Zpg t.hours.length
 obtain⟨P,hPL⟩:=Zpg p.length
 rw[hT,hPL] at HCV
 rw[hN,hT,hR,hPL]
 obtain⟨q1,hq1⟩:=Zpg (rq u)
 obtain⟨o1,ho1⟩:=Zpg (rp u)
 obtain⟨c1,hc1⟩:=Zpg (rc u)
 obtain⟨⟨s1,t1⟩,hs1⟩:∃ z,eR t u i=z:=⟨_,rfl⟩
 obtain⟨⟨s2,t2⟩,hs2⟩:∃ z,(eS t i).weight=z:=⟨_,rfl⟩
 rw[hq1,ho1,hc1,hs1,hs2,hcv] at HV
 rw[hc1] at hrc1 hrc2
 rw[hs1] at HRR
 rw[hs2] at HWR
 dsimp only at HV HRR HWR
 clear hE hP hs ok inn hA k1 k2 k3 hN hT hR hPL hq1 ho1 hc1 hs1 hs2 hcv hnq hxm hxd hxg hzm hzc hx1 hx2 c2 c3
 obtain⟨G,hG⟩:=Zpg w.heap.size
 have HE0:Hid (SmK b 0 w [(G+1,pObj Zpa Zpa),(G,efO (.slice (some ⟨sb,so,none⟩) N sc) (.slice (some ⟨hb,ho,none⟩) T hc) (.slice (some ⟨rb,ro,none⟩) R rk))] ((w.alloc (efO (.slice (some ⟨sb,so,none⟩) N sc) (.slice (some ⟨hb,ho,none⟩) T hc) (.slice (some ⟨rb,ro,none⟩) R rk))).alloc (pObj Zpa Zpa))):=
  ((SmK.start HS.out).push _ hG.symm).push _ (by simp[hG])
 have i0':(0:Int)<=(i:Int):=Za
 have i1':(i:Int)<(N:Int):=Za
 have u0':(0:Int)<=(u:Int):=Za
 have u1':(u:Int)<(R:Int):=Za
 go_enter Tryz.func55,Tryz.ntmps55
 go_wp2_with fail
 refine(HCV.out _ HE0.out.base HE0.out.sm).mono ?_
 rintro e w1 ⟨xc,yc,hxc,rfl,hb1⟩
 have HXC:=Zpe hxc
 obtain⟨g7,hg7⟩:=Zpg w1.heap.size
 obtain⟨w2,hw2⟩:=Zpg (w1.alloc (pObj xc yc))
 have HE2:=Zpe ((HE0.out.call hb1).push (pObj xc yc) hg7.symm)
 rw[hw2] at HE2
 clear hxc hb1 HE0
 go_wp2_with fail
 try rw[hg7]
 try rw[hw2]
 try rw[hG]
 clear hg7 hw2 hG
 refine Zaw 14 12 [(0,15)] [(1,0),(1,1),(1,2),(1,3),(1,4),(1,5),(1,6),(1,7),(1,8),(1,9),(0,10),(1,11),(1,12),(0,13)] (fun _ g V=>SmK b 0 w (Zca (pObj Zpa Zpa) [(g7,pObj xc yc),(G+1,pObj Zpa Zpa),(G,efO (.slice (some ⟨sb,so,none⟩) N sc) (.slice (some ⟨hb,ho,none⟩) T hc) (.slice (some ⟨rb,ro,none⟩) R rk))] g) V) (fun i=>i==15)
  Zb Zb (fun j hj=>by have h:15<j:=hj;simp;omega) Zi rfl rfl (fun _=>rfl) (fun a V K hK=>by go_simp;exact hK) (fun j V h=>h.push _ rfl) HE2.out.drew ?_
 iterate 10
  refine ZS _ rfl (fun z=>rfl) (fun z j g w' hS=>by have hE:=hS.bare;have c0:=hE.cell 0 0 (v:=.string xc) rfl rfl;have c1:=hE.cell 0 1 (v:=.string yc) rfl rfl;have d2:=hE.cell 2 2 (v:=.slice (some ⟨rb,ro,none⟩) R rk) rfl rfl;obtain⟨_,e0,e1,e2⟩:=HV.out _ hE.base;exact Zg) ?_
  simp only[Act.put,Zl]
 refine ZU 88 _ rfl (fun z=>rfl) (fun z w'=>Zh) (fun g V hS=>?_)
 refine(Zhe HXC.out HRR.out HXM.out rfl _).mono ?_
 rintro e V' ⟨rfl,hb⟩
 refine .inl ⟨_,rfl,hS.step hb,?_⟩
 clear hb hS
 simp only[Act.put,Zl]
 iterate 2
  refine ZS _ rfl (fun z=>rfl) (fun z j g w' hS=>Zg) ?_
  simp only[Act.put,Zl]
 refine ZU 84 _ rfl (fun z=>rfl) (fun z w'=>Zh) (fun g V hS=>?_)
 refine(Ze7 xm ym hS.bare.sm).mono ?_
 rintro e V' ⟨rfl,hb⟩
 refine .inl ⟨_,rfl,hS.call hb,?_⟩
 clear hb hS
 simp only[Act.put,Zl]
 refine ZaP fun g8 V8 hS=>?_
 simp only[Act.put,Zl]
 have HG8:Hid (SmK b 0 w ((g8,pObj Zpa Zpa)::[(g7,pObj xc yc),(G+1,pObj Zpa Zpa),(G,efO (.slice (some ⟨sb,so,none⟩) N sc) (.slice (some ⟨hb,ho,none⟩) T hc) (.slice (some ⟨rb,ro,none⟩) R rk))]) V8):=hS
 have r0:=HG8.out.cell 0 0 rfl rfl
 have r1:=HG8.out.cell 0 1 rfl rfl
 have f0:=HG8.out.free 0 0 rfl
 have f1:=HG8.out.free 0 1 rfl
 refine ZB rfl rfl fun K hK=>?_
 go_simp
 have HE8:=Zpe (HG8.out.fill (.string xm) (.string ym))
 refine hK _ _ (.inl rfl) ?_
 clear hK K r0 r1 f0 f1 HG8 hS
 refine ZD ?_
 obtain⟨Z8,hZ⟩:=Zpg ((V8.setCell ⟨g8,0,none⟩ (.string xm)).setCell ⟨g8,1,none⟩ (.string ym))
 rw[hZ] at HE8 ⊢
 clear hZ
 clear HE2
 go_wp2_with fail
 refine Zaw 12 13 [(0,13)] [(1,0),(1,1),(1,2),(1,3),(1,4),(1,5),(1,6),(1,7),(0,8),(1,9),(1,10),(0,11)] (fun _ g V=>SmK b 0 w (Zca (pObj Zpa Zpa) [(g8,pObj xm ym),(g7,pObj xc yc),(G+1,pObj Zpa Zpa),(G,efO (.slice (some ⟨sb,so,none⟩) N sc) (.slice (some ⟨hb,ho,none⟩) T hc) (.slice (some ⟨rb,ro,none⟩) R rk))] g) V) (fun i=>i==13)
  Zb Zb (fun j hj=>by have h:13<j:=hj;simp;omega) Zi rfl rfl (fun _=>rfl) (fun a V K hK=>by go_simp;exact hK) (fun j V h=>h.push _ rfl) HE8.out.drew ?_
 iterate 8
  refine ZS _ rfl (fun z=>rfl) (fun z j g w' hS=>by have hE:=hS.bare;have c0:=hE.cell 0 0 (v:=.string xm) rfl rfl;have c1:=hE.cell 0 1 (v:=.string ym) rfl rfl;have d0:=hE.cell 3 0 (v:=.slice (some ⟨sb,so,none⟩) N sc) rfl rfl;obtain⟨⟨_,_,e2,_⟩,_⟩:=HV.out _ hE.base;exact Zg) ?_
  simp only[Act.put,Zl]
 refine ZU 114 _ rfl (fun z=>rfl) (fun z w'=>Zh) (fun g V hS=>?_)
 refine(ZeH (HV.out _ hS.bare.base).1.2.2.2 HCU.out HXM.out HZ.out.1 HX1.out).mono ?_
 rintro e V' ⟨rfl,hb⟩
 refine .inl ⟨_,rfl,hS.step hb,?_⟩
 clear hb hS
 simp only[Act.put,Zl]
 iterate 2
  refine ZS _ rfl (fun z=>rfl) (fun z j g w' hS=>Zg) ?_
  simp only[Act.put,Zl]
 refine ZU 84 _ rfl (fun z=>rfl) (fun z w'=>Zh) (fun g V hS=>?_)
 refine(Ze7 x1 y1 hS.bare.sm).mono ?_
 rintro e V' ⟨rfl,hb⟩
 refine .inl ⟨_,rfl,hS.call hb,?_⟩
 clear hb hS
 simp only[Act.put,Zl]
 refine ZaP fun g9 V9 hS=>?_
 simp only[Act.put,Zl]
 have HG8:Hid (SmK b 0 w ((g9,pObj Zpa Zpa)::[(g8,pObj xm ym),(g7,pObj xc yc),(G+1,pObj Zpa Zpa),(G,efO (.slice (some ⟨sb,so,none⟩) N sc) (.slice (some ⟨hb,ho,none⟩) T hc) (.slice (some ⟨rb,ro,none⟩) R rk))]) V9):=hS
 have r0:=HG8.out.cell 0 0 rfl rfl
 have r1:=HG8.out.cell 0 1 rfl rfl
 have f0:=HG8.out.free 0 0 rfl
 have f1:=HG8.out.free 0 1 rfl
 refine ZB rfl rfl fun K hK=>?_
 go_simp
 have HE9:=Zpe (HG8.out.fill (.string x1) (.string y1))
 refine hK _ _ (.inl rfl) ?_
 clear hK K r0 r1 f0 f1 HG8 hS
 refine ZD ?_
 obtain⟨Z9,hZ⟩:=Zpg ((V9.setCell ⟨g9,0,none⟩ (.string x1)).setCell ⟨g9,1,none⟩ (.string y1))
 rw[hZ] at HE9 ⊢
 clear hZ
 clear HE8
 have HE3:=Zpe (HE9.out.only [0,2,3,4] _ rfl Zd)
 clear HE9
 go_wp2_with fail
 refine Zaw 12 14 [(0,13)] [(1,0),(1,1),(1,2),(1,3),(1,4),(1,5),(1,6),(1,7),(0,8),(1,9),(1,10),(0,11)] (fun _ g V=>SmK b 0 w (Zca (pObj Zpa Zpa) [(g9,pObj x1 y1),(g7,pObj xc yc),(G+1,pObj Zpa Zpa),(G,efO (.slice (some ⟨sb,so,none⟩) N sc) (.slice (some ⟨hb,ho,none⟩) T hc) (.slice (some ⟨rb,ro,none⟩) R rk))] g) V) (fun i=>i==13)
  Zb Zb (fun j hj=>by have h:13<j:=hj;simp;omega) Zi rfl rfl (fun _=>rfl) (fun a V K hK=>by go_simp;exact hK) (fun j V h=>h.push _ rfl) HE3.out.drew ?_
 iterate 8
  refine ZS _ rfl (fun z=>rfl) (fun z j g w' hS=>by have hE:=hS.bare;have c0:=hE.cell 1 0 (v:=.string xc) rfl rfl;have c1:=hE.cell 1 1 (v:=.string yc) rfl rfl;have d0:=hE.cell 3 0 (v:=.slice (some ⟨sb,so,none⟩) N sc) rfl rfl;obtain⟨⟨_,_,e2,_⟩,_⟩:=HV.out _ hE.base;exact Zg) ?_
  simp only[Act.put,Zl]
 refine ZU 114 _ rfl (fun z=>rfl) (fun z w'=>Zh) (fun g V hS=>?_)
 refine(ZeH (HV.out _ hS.bare.base).1.2.2.2 HCU.out HXC.out HZ.out.2 HX2.out).mono ?_
 rintro e V' ⟨rfl,hb⟩
 refine .inl ⟨_,rfl,hS.step hb,?_⟩
 clear hb hS
 simp only[Act.put,Zl]
 iterate 2
  refine ZS _ rfl (fun z=>rfl) (fun z j g w' hS=>Zg) ?_
  simp only[Act.put,Zl]
 refine ZU 84 _ rfl (fun z=>rfl) (fun z w'=>Zh) (fun g V hS=>?_)
 refine(Ze7 x2 y2 hS.bare.sm).mono ?_
 rintro e V' ⟨rfl,hb⟩
 refine .inl ⟨_,rfl,hS.call hb,?_⟩
 clear hb hS
 simp only[Act.put,Zl]
 refine ZaP fun g10 V10 hS=>?_
 simp only[Act.put,Zl]
 have HG8:Hid (SmK b 0 w ((g10,pObj Zpa Zpa)::[(g9,pObj x1 y1),(g7,pObj xc yc),(G+1,pObj Zpa Zpa),(G,efO (.slice (some ⟨sb,so,none⟩) N sc) (.slice (some ⟨hb,ho,none⟩) T hc) (.slice (some ⟨rb,ro,none⟩) R rk))]) V10):=hS
 have r0:=HG8.out.cell 0 0 rfl rfl
 have r1:=HG8.out.cell 0 1 rfl rfl
 have f0:=HG8.out.free 0 0 rfl
 have f1:=HG8.out.free 0 1 rfl
 refine ZB rfl rfl fun K hK=>?_
 go_simp
 have HE10:=Zpe (HG8.out.fill (.string x2) (.string y2))
 refine hK _ _ (.inl rfl) ?_
 clear hK K r0 r1 f0 f1 HG8 hS
 refine ZD ?_
 obtain⟨Z10,hZ⟩:=Zpg ((V10.setCell ⟨g10,0,none⟩ (.string x2)).setCell ⟨g10,1,none⟩ (.string y2))
 rw[hZ] at HE10 ⊢
 clear hZ
 clear HE3
 have HE3:=Zpe (HE10.out.only [3,0,1,4] _ rfl Zd)
 clear HE10
 have s0:=HE3.out.c0
 go_wp2_with fail
 clear s0
 refine ZP [(1,0),(1,1),(1,2),(1,3),(1,4),(1,5),(1,6),(1,7),(1,8),(1,9),(0,10),(1,11),(1,12),(0,13),(0,14),(1,15),(1,16),(0,17),(0,18)] (SmK b 0 w [(G+1,pObj Zpa Zpa),(g10,pObj x2 y2),(g9,pObj x1 y1),(G,efO (.slice (some ⟨sb,so,none⟩) N sc) (.slice (some ⟨hb,ho,none⟩) T hc) (.slice (some ⟨rb,ro,none⟩) R rk))]) (fun i=>i==18)
  Zb Zb (fun j hj=>by have h:19<=j:=hj;simp;omega) Zi HE3.out.drew ?_
 obtain⟨w4,hw4⟩:=Zpg Z10.drew
 have HE4:=Zpe HE3.out.drew
 rw[hw4] at HE4 ⊢
 clear hw4 HE3
 iterate 10
  refine Zx _ rfl rfl (fun w' hS=>by have c0:=hS.cell 1 0 (v:=.string x2) rfl rfl;have c1:=hS.cell 1 1 (v:=.string y2) rfl rfl;have c2:=hS.cell 2 0 (v:=.string x1) rfl rfl;have c3:=hS.cell 2 1 (v:=.string y1) rfl rfl;have d0:=hS.cell 3 0 (v:=.slice (some ⟨sb,so,none⟩) N sc) rfl rfl;obtain⟨⟨e0,e1,_⟩,_⟩:=HV.out _ hS.base;exact Ze) ?_
  simp only[Act.put,Zl]
 refine Zy 105 _ rfl rfl Zf ?_
 have HEC:=HE4
 refine(ZfC HX1.out HX2.out HXD.out rfl _).mono ?_
 rintro e w5 ⟨rfl,hb⟩
 have HE5:=Zpe (HEC.out.step hb)
 refine .inl ⟨_,rfl,HE5.out,?_⟩
 clear hb HEC
 simp only[Act.put,Zl]
 iterate 2
  refine Zx _ rfl rfl (fun w' hS=>Ze) ?_
  simp only[Act.put,Zl]
 refine Zy 84 _ rfl rfl Zf ?_
 have HEC:=HE5
 refine(Ze7 xd yd HEC.out.sm).mono ?_
 rintro e w6 ⟨rfl,hb⟩
 have HE6:=Zpe (HEC.out.call hb)
 refine .inl ⟨_,rfl,HE6.out,?_⟩
 clear hb HEC
 simp only[Act.put,Zl]
 refine Zy 86 _ rfl rfl Zf ?_
 have HEC:=HE6
 refine(Zfy HWR.out HXD.out HXG.out rfl _).mono ?_
 rintro e w7 ⟨rfl,hb⟩
 have HE7:=Zpe (HEC.out.step hb)
 refine .inl ⟨_,rfl,HE7.out,?_⟩
 clear hb HEC
 simp only[Act.put,Zl]
 iterate 2
  refine Zx _ rfl rfl (fun w' hS=>Ze) ?_
  simp only[Act.put,Zl]
 refine Zy 84 _ rfl rfl Zf ?_
 have HEC:=HE7
 refine(Ze7 xg yg HEC.out.sm).mono ?_
 rintro e w8 ⟨rfl,hb⟩
 have HE8:=Zpe (HEC.out.call hb)
 refine .inl ⟨_,rfl,HE8.out,?_⟩
 clear hb HEC
 simp only[Act.put,Zl]
 have r0:=HE8.out.cell 0 0 rfl rfl
 have r1:=HE8.out.cell 0 1 rfl rfl
 have f0:=HE8.out.free 0 0 rfl
 have f1:=HE8.out.free 0 1 rfl
 refine ZB rfl rfl fun K hK=>?_
 go_simp
 have HE9:=Zpe (HE8.out.fill (.string xg) (.string yg))
 refine hK _ _ (.inl rfl) ?_
 clear hK K r0 r1 f0 f1
 refine ZD ?_
 clear HE4 HE5 HE6 HE7 HE8
 go_wp2
 have q0:=HE9.out.cell 0 0 (v:=.string xg) rfl rfl
 have q1:=HE9.out.cell 0 1 (v:=.string yg) rfl rfl
 exact Zor (v:=Zpb xg yg) (by simp[results,Tryz.f55,go_sem,q0,q1]) rfl ⟨xg,yg,HXG.out,rfl,HE9.out.done⟩
def AskB (P:Prop) (w:World) (e:Ending) (w':World):Prop:=∃ r:Bool,e=.returned (.bool r)/\(r=true<->P)/\Below w.heap.size w w'
theorem Zbh {P:Prop} (h:¬ P):(false=true<->P):=⟨fun h2=>(by cases h2),fun h2=>Zo4 h2 h⟩
theorem ZdB {a b x:Int} (h:¬ (a<=x/\x<=b)):(decide (a<=x) && decide (x<=b))=false:=by
 rw[<- Bool.not_eq_true]
 simp only[ZoY,ZoZ]
 exact h
theorem ZcQ {a b x:Int} (h:a<=x/\x<=b):(decide (a<=x) && decide (x<=b))=true:=by simp;exact h
theorem Zhz {t:TaskP} {sv hv rv:Value} {w:World} (h:TaskIn t sv hv rv w) (hz:LimT t) :
  Calls Tryz.prog 52 #[.agg #[sv,hv,rv]] w (AskB (TaskOk t) w):=by
 obtain⟨N,hN⟩:=Zpg t.sites.length
 obtain⟨T,hT⟩:=Zpg t.hours.length
 obtain⟨R,hR⟩:=Zpg t.rates.length
 obtain⟨ps,cs,rfl,hs1,hs2⟩:=h.sites.shape hN
 obtain⟨ph,ch,rfl,hh1,hh2⟩:=h.hours.shape hT
 obtain⟨pr,cr,rfl,hr1,hr2⟩:=h.rates.shape hR
 have HT:=Zpe h
 have HZ:=Zpe hz
 have HN:=Zpe hN
 have HTT:=Zpe hT
 have HR:=Zpe hR
 have HE0:Hid (Env w.heap.size w [(w.heap.size,efO (.slice ps N cs) (.slice ph T ch) (.slice pr R cr))] [] (w.alloc (efO (.slice ps N cs) (.slice ph T ch) (.slice pr R cr)))):=(Env.start w).push _ rfl
 clear h hz hN hT hR
 have b0:=HE0.out.cell 0 0 (v:=.slice ps N cs) rfl rfl
 have b1:=HE0.out.cell 0 1 (v:=.slice ph T ch) rfl rfl
 have b2:=HE0.out.cell 0 2 (v:=.slice pr R cr) rfl rfl
 go_enter Tryz.func52,Tryz.ntmps52
 go_wp2_with fail
 refine(ZcT N 1 24 _).mono ?_
 rintro e w1 ⟨rfl,hb⟩
 have HE1:=Zpe (HE0.out.step hb)
 clear hb HE0 b0 b1 b2
 by_cases hA:1<=N/\N<=24
 rotate_left
 ·have HNO:Hid (¬ TaskOk t):=fun k=>hA (by have:=k.sites;rw[HN.out] at this;exact this)
  rw[ZdB Za]
  clear hA
  go_wp2
  exact Zor (v:=.bool false) (by simp[results,Tryz.f52,go_sem]) rfl ⟨false,rfl,Zbh (HNO.out),HE1.out.base⟩
 rw[ZcQ Za]
 have b0:=HE1.out.cell 0 0 (v:=.slice ps N cs) rfl rfl
 have b1:=HE1.out.cell 0 1 (v:=.slice ph T ch) rfl rfl
 have b2:=HE1.out.cell 0 2 (v:=.slice pr R cr) rfl rfl
 go_wp2_with fail
 refine(ZcT T 1 8 _).mono ?_
 rintro e w2 ⟨rfl,hb⟩
 have HE2:=Zpe (HE1.out.step hb)
 clear hb HE1 b0 b1 b2
 by_cases hB:1<=T/\T<=8
 rotate_left
 ·have HNO:Hid (¬ TaskOk t):=fun k=>hB (by have:=k.teams;rw[HTT.out] at this;exact this)
  rw[ZdB Za]
  clear hB
  go_wp2
  exact Zor (v:=.bool false) (by simp[results,Tryz.f52,go_sem]) rfl ⟨false,rfl,Zbh (HNO.out),HE2.out.base⟩
 rw[ZcQ Za]
 have b0:=HE2.out.cell 0 0 (v:=.slice ps N cs) rfl rfl
 have b1:=HE2.out.cell 0 1 (v:=.slice ph T ch) rfl rfl
 have b2:=HE2.out.cell 0 2 (v:=.slice pr R cr) rfl rfl
 by_cases hC:R=T
 rotate_left
 ·have HNO:Hid (¬ TaskOk t):=fun k=>hC (by have:=k.rates;rw[HR.out,HTT.out] at this;exact this)
  have hc:((R:Int) !=(T:Int))=true:=by rw[bne_iff_ne];omega
  clear hC
  go_wp2
  exact Zor (v:=.bool false) (by simp[results,Tryz.f52,go_sem]) rfl ⟨false,rfl,Zbh (HNO.out),HE2.out.base⟩
 subst hC
 have hc:((R:Int) !=(R:Int))=false:=Zc
 go_wp2_with fail
 clear b0 b1 b2 hc
 go_loopw [3] (fun iv wr=>∃ k:Nat,iv=.int .i64 k/\k<=N/\Hid (∀ i,i<k->Zw 9 (eS t i).weight=true/\CurveP (eS t i).curve)/\Hid (Env w.heap.size w [(w.heap.size,efO (.slice ps N cs) (.slice ph R ch) (.slice pr R cr))] [] wr)) (fun iv _=>N-(intOf iv).toNat)
 case atStart=>exact⟨0,rfl,ZoD _,fun i h=>Zo4 h (ZoQ _),HE2⟩
 case round=>
  obtain⟨k,rfl,hk,HK,HE⟩:=hrel
  clear HE2
  have b0:=HE.out.cell 0 0 (v:=.slice ps N cs) rfl rfl
  have b1:=HE.out.cell 0 1 (v:=.slice ph R ch) rfl rfl
  have b2:=HE.out.cell 0 2 (v:=.slice pr R cr) rfl rfl
  by_cases hlt:k<N
  ·obtain⟨sb,so,rfl,hsb,hat⟩:=HT.out.sites.at Zc0.stays HN.out Za
   have hkl:k<t.sites.length:=by rw[HN.out];exact hlt
   have HAT:Hid (∀ V,Below w.heap.size w V->Zc0 V sb (so+k*3) (eS t k)):=fun V hV=>by rw[<- Zfh hkl];exact hat V hV k hkl
   obtain⟨e0,e1,v,e2,hbl⟩:=HAT.out wr HE.out.base
   obtain⟨⟨hz1,hz2⟩,hzb⟩:=HZ.out.1 _ (ZoR hkl)
   rw[Zfh hkl] at hz1 hz2 hzb
   obtain⟨⟨s1,t1⟩,hs1'⟩:∃ z,(eS t k).weight=z:=⟨_,rfl⟩
   rw[hs1'] at e0 e1 hz1 hz2
   have HSW:=Zpe hs1'
   have HZB:=Zpe hzb
   dsimp only at e0 e1 hz1 hz2
   have i0':(0:Int)<=(k:Int):=Za
   have i1':(k:Int)<(N:Int):=Za
   clear hat hbl hzb hs1' e2
   go_wp2_with fail
   refine(ZfQ 9 s1 t1 hz1 hz2 _).mono ?_
   rintro e w4 ⟨rfl,hb⟩
   have HE4:=Zpe (HE.out.step hb)
   clear hb e0 e1 b0 b1 b2 HE
   obtain⟨_,_,v,e2,hbl⟩:=HAT.out w4 HE4.out.base
   obtain⟨pq,cq,rfl,_⟩:=id hbl
   obtain⟨nq,hnq⟩:=Zpg ((eS t k).curve.length)
   rw[hnq] at e2 hbl
   have b0:=HE4.out.cell 0 0 (v:=.slice (some ⟨sb,so,none⟩) N cs) rfl rfl
   obtain⟨r1,hr1⟩:=Zpg (Zw 9 (s1,t1))
   rw[hr1]
   have HBL:=Zpe hbl
   have HSM:=Zpe hr1
   clear hnq hr1 hbl
   go_wp2_with fail
   refine(ZgH HBL.out HZB.out).mono ?_
   rintro e w5 ⟨r2,rfl,hr2,hb⟩
   have HE5:=Zpe (HE4.out.step hb)
   have HR2:=Zpe hr2
   clear hb e2 b0 HE4 hr2
   cases r1 with
   | false=>
    have HNO:Hid (¬ TaskOk t):=fun h=>by
     have:=(h.site k (by rw[HN.out];exact hlt)).1
     rw[HSW.out,HSM.out] at this
     cases this
    go_wp2
    exact Zor (v:=.bool false) (by simp[results,Tryz.f52,go_sem]) rfl ⟨false,rfl,Zbh (HNO.out),HE5.out.base⟩
   | true=>
    cases r2 with
    | false=>
     have HNO:Hid (¬ TaskOk t):=fun h=>by
      have:=HR2.out.2 (h.site k (by rw[HN.out];exact hlt)).2
      cases this
     go_wp2
     exact Zor (v:=.bool false) (by simp[results,Tryz.f52,go_sem]) rfl ⟨false,rfl,Zbh (HNO.out),HE5.out.base⟩
    | true=>
     have HK2:Hid (∀ i,i<k+1->Zw 9 (eS t i).weight=true/\CurveP (eS t i).curve):=fun i hi=>by
      rcases Zow i k with h | h
      ·exact HK.out i h
      ·obtain rfl:i=k:=Za
       exact⟨by rw[HSW.out];exact HSM.out,HR2.out.1 rfl⟩
     go_wp2
     go_roundw
     case rel=>exact⟨k+1,by go_num,Za,HK2,HE5⟩
     case measure=>exact Zj
  ·have hkN:k=N:=Za
   have HSI:Hid (∀ i,i<N->Zw 9 (eS t i).weight=true/\CurveP (eS t i).curve):=by rw[<- hkN];exact HK.out
   clear HK hkN
   go_wp2_with fail
   clear b0 b1 b2
   go_loopw [6] (fun iv wr=>∃ u:Nat,iv=.int .i64 u/\u<=R/\Hid (∀ v (h:v<t.rates.length),v<u->(0<=eH t v/\eH t v<=48)/\t.rates[v].length=N/\∀ i,i<N->Zw 9 (eR t v i)=true)/\Hid (Env w.heap.size w [(w.heap.size,efO (.slice ps N cs) (.slice ph R ch) (.slice pr R cr))] [] wr)) (fun iv _=>R-(intOf iv).toNat)
   case atStart=>exact⟨0,rfl,ZoD _,fun v _ h=>Zo4 h (ZoQ _),HE⟩
   case round=>
    clear HE
    obtain⟨u,rfl,hu,HU,HE⟩:=hrel
    by_cases hlt2:u<R
    ·obtain⟨rb,ro,rfl,hrb,hrat⟩:=HT.out.rates.at PPL.stays HR.out Za
     obtain⟨hb',ho,rfl,hhb,hhat⟩:=HT.out.hours.at IntR.stays HTT.out Za
     have hul:u<t.rates.length:=by rw[HR.out];exact hlt2
     have hul2:u<t.hours.length:=by rw[HTT.out];exact hlt2
     obtain⟨q,g1,g2⟩:=hrat w (Zoq _ w) u hul
     rw[Zo2] at g1
     obtain⟨l,hl⟩:=Zpg (t.rates[u].length)
     obtain⟨pl,cl,rfl,_,_,_⟩:=id g2
     rw[hl] at g1 g2
     have HL:=Zpe hl
     have HRA:Hid (∀ V,Below w.heap.size w V->V.cell? ⟨rb,ro+u,none⟩=some (.slice pl l cl)/\PL V (.slice pl l cl) t.rates[u]):=fun V hV=>⟨(hV.cell hrb).trans g1,g2.after hV Zpf⟩
     have HHA:Hid (∀ V,Below w.heap.size w V->V.cell? ⟨hb',ho+u,none⟩=some (.int .i64 (eH t u))):=fun V hV=>by
      have e1:=hhat _ hV u hul2
      unfold IntR at e1
      rw[Zo2,ZiB hul2] at e1
      exact e1
     have HZL:=Zpe (HZ.out.2 _ (ZoR hul))
     obtain⟨hh,hhh⟩:=Zpg (eH t u)
     rw[hhh] at HHA
     have HHH:=Zpe hhh
     have i0':(0:Int)<=(u:Int):=Za
     have i1':(u:Int)<(R:Int):=Za
     clear hrat hhat hhh g1 g2 hl
     have b0:=HE.out.cell 0 0 (v:=.slice ps N cs) rfl rfl
     have b1:=HE.out.cell 0 1 (v:=.slice (some ⟨hb',ho,none⟩) R ch) rfl rfl
     have b2:=HE.out.cell 0 2 (v:=.slice (some ⟨rb,ro,none⟩) R cr) rfl rfl
     go_wp2_with fail
     refine ZP [(1,0),(1,1),(1,2),(1,3),(1,4),(0,5),(1,6),(1,7),(1,8),(1,9),(1,10),(1,11),(1,12),(1,13),(1,14),(1,15),(1,16),(1,17),(1,18)] (Env w.heap.size w [(w.heap.size,efO (.slice ps N cs) (.slice (some ⟨hb',ho,none⟩) R ch) (.slice (some ⟨rb,ro,none⟩) R cr))] []) (fun _=>false)
      Zb Zb (fun j hj=>rfl) Zi HE.out.drew ?_
     obtain⟨w4,hw4⟩:=Zpg wr.drew
     have HE4:=Zpe HE.out.drew
     rw[hw4] at HE4 ⊢
     clear hw4 HE
     iterate 5
      refine Zx _ rfl rfl (fun w' hS=>by have b1:=hS.cell 0 1 (v:=.slice (some ⟨hb',ho,none⟩) R ch) rfl rfl;have e1:=HHA.out _ hS.base;exact Ze) ?_
      simp only[Act.put,Zl]
     refine Zy 79 _ rfl rfl Zf ?_
     have HEC:=HE4
     refine(ZcT hh 0 48 _).mono ?_
     rintro e w5 ⟨rfl,hb⟩
     have HE5:=Zpe (HEC.out.step hb)
     refine .inl ⟨_,rfl,HE5.out,?_⟩
     clear hb HEC
     simp only[Act.put,Zl]
     by_cases hw:0<=hh/\hh<=48
     rotate_left
     ·have HNO:Hid (¬ TaskOk t):=fun h=>hw (by have:=(h.team u hul).1;rw[HHH.out] at this;exact this)
      rw[ZdB hw]
      clear hw
      iterate 2
       refine Zx _ rfl rfl (fun w' hS=>Ze) ?_
       simp only[Act.put,Zl]
      iterate 10
       refine Zci rfl rfl ?_
       simp only[Act.put,Zl]
      iterate 1
       refine Zx _ rfl rfl (fun w' hS=>Ze) ?_
       simp only[Act.put,Zl]
      refine ZD ?_
      go_wp2
      exact Zor (v:=.bool false) (by simp[results,Tryz.f52,go_sem]) rfl ⟨false,rfl,Zbh (HNO.out),HE5.out.base⟩
     rw[ZcQ hw]
     iterate 13
      refine Zx _ rfl rfl (fun w' hS=>by have b0:=hS.cell 0 0 (v:=.slice ps N cs) rfl rfl;have b2:=hS.cell 0 2 (v:=.slice (some ⟨rb,ro,none⟩) R cr) rfl rfl;have e2:=(HRA.out _ hS.base).1;exact Ze) ?_
      simp only[Act.put,Zl]
     refine ZD ?_
     by_cases hD:l=N
     rotate_left
     ·have HNO:Hid (¬ TaskOk t):=fun h=>hD (by have:=(h.team u hul).2.1;rw[HL.out,HN.out] at this;exact this)
      have hc:((l:Int) !=(N:Int))=true:=by rw[bne_iff_ne];omega
      clear hD
      go_wp2
      exact Zor (v:=.bool false) (by simp[results,Tryz.f52,go_sem]) rfl ⟨false,rfl,Zbh (HNO.out),HE5.out.base⟩
     subst hD
     have hc:((l:Int) !=(l:Int))=false:=Zc
     rw[hc]
     obtain⟨c,o,_,hv9,_,_,hcl,hpat⟩:=Zeb (HRA.out _ (Zoq _ w)).2 (by rw[HL.out];omega)
     injection hv9 with x1 x2 x3
     subst x1
     have HPA:Hid (∀ V,Below w.heap.size w V->PAt V c o t.rates[u]):=fun V hV=>hpat.below hV hcl
     clear HE4 hpat x2 x3
     clear hc
     go_wp2_with fail
     go_loopw [7] (fun iv wx=>∃ i:Nat,iv=.int .i64 i/\i<=l/\Hid (∀ j,j<i->Zw 9 (eR t u j)=true)/\Hid (Env w.heap.size w [(w.heap.size,efO (.slice ps l cs) (.slice (some ⟨hb',ho,none⟩) R ch) (.slice (some ⟨rb,ro,none⟩) R cr))] [] wx)) (fun iv _=>l-(intOf iv).toNat)
     case atStart=>exact⟨0,rfl,ZoD _,fun j h=>Zo4 h (ZoQ _),HE5⟩
     case round=>
      clear HE5
      obtain⟨i,rfl,hi,HI,HE⟩:=hrel
      have b0:=HE.out.cell 0 0 (v:=.slice ps l cs) rfl rfl
      have b2:=HE.out.cell 0 2 (v:=.slice (some ⟨rb,ro,none⟩) R cr) rfl rfl
      by_cases hlt3:i<l
      ·have hil:i<t.rates[u].length:=by rw[HL.out];exact hlt3
       obtain⟨e2,_⟩:=HRA.out _ HE.out.base
       obtain⟨f0,f1⟩:=HPA.out _ HE.out.base i hil
       have hzz:=HZL.out _ (ZoR hil)
       rw[Zgv hul hil] at f0 f1 hzz
       obtain⟨⟨s1,t1⟩,hs1'⟩:∃ z,eR t u i=z:=⟨_,rfl⟩
       rw[hs1'] at f0 f1 hzz
       have HRR:=Zpe hs1'
       dsimp only at f0 f1 hzz
       obtain⟨hz1,hz2⟩:=hzz
       have j0':(0:Int)<=(i:Int):=Za
       have j1':(i:Int)<(l:Int):=Za
       clear hs1'
       go_wp2_with fail
       refine(ZfQ 9 s1 t1 hz1 hz2 _).mono ?_
       rintro e w6 ⟨rfl,hb⟩
       have HE6:=Zpe (HE.out.step hb)
       clear hb e2 f0 f1 b0 b2 HE
       cases hsm:Zw 9 (s1,t1)
       ·have HNO:Hid (¬ TaskOk t):=fun h=>by
         have h3:=(h.team u hul).2.2 i (by rw[HN.out];exact hlt3)
         rw[HRR.out,hsm] at h3
         cases h3
        clear hsm
        go_wp2
        exact Zor (v:=.bool false) (by simp[results,Tryz.f52,go_sem]) rfl ⟨false,rfl,Zbh (HNO.out),HE6.out.base⟩
       ·have HI2:Hid (∀ j,j<i+1->Zw 9 (eR t u j)=true):=fun j hj=>by
         rcases Zow j i with h | h
         ·exact HI.out j h
         ·obtain rfl:j=i:=Za
          rw[HRR.out]
          exact hsm
        clear hsm
        go_wp2
        go_roundw
        case rel=>exact⟨i+1,by go_num,Za,HI2,HE6⟩
        case measure=>exact Zj
      ·have HU2:Hid (∀ v (h:v<t.rates.length),v<u+1->(0<=eH t v/\eH t v<=48)/\t.rates[v].length=l/\∀ i,i<l->Zw 9 (eR t v i)=true):=fun v hv hvu=>by
        rcases Zow v u with h | h
        ·exact HU.out v hv h
        ·obtain rfl:v=u:=Za
         exact⟨by rw[HHH.out];exact hw,HL.out,fun j hj=>HI.out j Za⟩
       clear hw
       go_wp2
       go_roundw
       case rel=>exact⟨u+1,by go_num,Za,HU2,HE⟩
       case measure=>exact Zj
    ·have HYES:Hid (TaskOk t):=by
      have huR:u=R:=Za
      refine⟨by rw[HN.out];exact hA,by rw[HTT.out];exact hB,by rw[HR.out,HTT.out],fun i hi=>HSI.out i (by rw[<- HN.out];exact hi),fun v hv=>?_⟩
      obtain⟨h1,h2,h3⟩:=HU.out v hv (by rw[huR,<- HR.out];exact hv)
      exact⟨h1,by rw[HN.out];exact h2,fun i hi=>h3 i (by rw[<- HN.out];exact hi)⟩
     have b0:=HE.out.cell 0 0 (v:=.slice ps N cs) rfl rfl
     have b1:=HE.out.cell 0 1 (v:=.slice ph R ch) rfl rfl
     have b2:=HE.out.cell 0 2 (v:=.slice pr R cr) rfl rfl
     go_wp2
     exact Zor (v:=.bool true) (by simp[results,Tryz.f52,go_sem]) rfl ⟨true,rfl,⟨fun _=>HYES.out,fun _=>rfl⟩,HE.out.base⟩
end Go.Proofs.YtmpaflidennnoaaGreatDoor
