/- The parts REGain, ECopied, REWith of a proof, put together by program (merge7.py). -/
import Derived.Test.YtmpaflidennnoaaGreatDoorK004
set_option maxRecDepth 100000
set_option maxHeartbeats 4000000
set_option linter.unusedVariables false
set_option linter.unusedSimpArgs false
namespace Go.Proofs.YtmpaflidennnoaaGreatDoor
open Go.RowKit Go.Shelf
attribute [local go_sem ↓] Go.wp_at_zero Go.wp_at_succ
theorem ZlM {t:TaskP} {p:List (List Int)} {b:Nat} {sv hv rv pv:Value} {pb po pc:Nat} {gq gp gc:Nat→Nat} {w:World} (hE:Zb4 b (TaskIn t sv hv rv) w) (hP:PlanW p t.sites.length b pv pb po pc gq gp gc w) (hs:w.heap[b]?=some (smO 0)) (ok:TaskOk t) (inn:Zbt t p) {u i:Nat} (hu:u<t.rates.length) (hi:i<t.sites.length) :
  Calls Tryz.prog 55 #[.pointer (some ⟨b,0,none⟩),.agg #[sv,hv,rv],pv,.int .i64 u,.int .i64 i] w (SmP b 0 (Zai t p u i) w):=by
 obtain⟨sb,so,sc,hb,ho,hc,rb,ro,rk,cv,rq,rp,rc,rfl,rfl,rfl,k1,k2,k3,hA⟩:=hE.open ok
 obtain rfl:=hP.val
 obtain⟨N,hN⟩:=ZnX t.sites.length
 obtain⟨R,hR⟩:=ZnX t.rates.length
 have HV:Hid (∀ V,Keeps (NotM b) w V→(V.cell? ⟨sb,so+i*3,none⟩=some (.string (eS t i).weight.1)∧V.cell? ⟨sb,so+i*3+1,none⟩=some (.string (eS t i).weight.2)∧V.cell? ⟨sb,so+i*3+2,none⟩=some (cv i)∧BL V (cv i) (eS t i).curve)∧
   V.cell? ⟨rb,ro+u,none⟩=some (.slice (some ⟨rq u,rp u,none⟩) N (rc u))∧V.cell? ⟨rq u,rp u+i*2,none⟩=some (.string (eR t u i).1)∧V.cell? ⟨rq u,rp u+i*2+1,none⟩=some (.string (eR t u i).2)):=fun V hV=>by
  obtain⟨a1,_,_,a2⟩:=(hA V hV).rate u hu
  rw[hN] at a1 a2
  exact⟨(hA V hV).site i hi,a1,a2 i (by rw[← hN];exact hi)⟩
 have HCV:Hid (∀ V,Keeps (NotM b) w V→V.heap[b]?=some (smO 0)→Calls Tryz.prog 73 #[.pointer (some ⟨b,0,none⟩),.agg #[.slice (some ⟨sb,so,none⟩) N sc,.slice (some ⟨hb,ho,none⟩) t.hours.length hc,.slice (some ⟨rb,ro,none⟩) t.rates.length rk],.slice (some ⟨pb,po,none⟩) p.length pc,.int .i64 i] V (SmP b 0 (covR t p i) V)):=fun V hV hs=>by
  rw[← hN]
  exact Zj4 (hE.keep hV) (hP.keep hV) hs ok inn hi
 obtain⟨⟨xm,ym,hxm⟩,hzm,hzc,⟨xd,yd,hxd⟩,⟨xg,yg,hxg⟩,_⟩:=Zg0 ok inn hu hi
 obtain⟨_,c2,c3⟩:=Zc4 ok inn hi ZnW
 obtain⟨⟨x2,y2,hx2⟩,_⟩:=Zc6 ok hi c3 hzc (by decide)
 obtain⟨⟨x1,y1,hx1⟩,_⟩:=Zc6 ok hi hxm.nn hzm (by decide)
 have HX1:=ZnV hx1
 have HX2:=ZnV hx2
 have HXM:=ZnV hxm
 have HXD:=ZnV hxd
 have HXG:=ZnV hxg
 have HZ:=ZnV (And.intro hzm hzc)
 have HCU:Hid (CurveP (eS t i).curve):=(ok.site i hi).2
 have HWR:Hid (IsP (wR t i) (eS t i).weight.1 (eS t i).weight.2):=(Zgt ok hi).1
 have HRR:Hid (IsP (rR t u i) (eR t u i).1 (eR t u i).2):=(Zdu ok hu hi).1
 have hsc:N≤sc∧sc≤9223372036854775807:=by rw[← hN];exact k1
 have hrk:R≤rk∧rk≤9223372036854775807:=by rw[← hR];exact k3
 have hN24:N≤24:=by rw[← hN];exact ok.sites.2
 obtain⟨_,hrc1,hrc2,_⟩:=(hA w (Keeps.refl _ _)).rate u hu
 obtain⟨_,_,_,pq,cq,hcv,_⟩:=(hA w (Keeps.refl _ _)).site i hi
 obtain⟨nq,hnq⟩:=ZnX ((eS t i).curve.length)
 have HS:=ZnV hs
 rw[hN] at hi hrc1
 rw[hR] at hu HCV
 rw[hnq] at hcv
 obtain⟨T,hT⟩:=ZnX t.hours.length
 obtain⟨P,hPL⟩:=ZnX p.length
 rw[hT,hPL] at HCV
 rw[hN,hT,hR,hPL]
 obtain⟨q1,hq1⟩:=ZnX (rq u)
 obtain⟨o1,ho1⟩:=ZnX (rp u)
 obtain⟨c1,hc1⟩:=ZnX (rc u)
 obtain⟨⟨s1,t1⟩,hs1⟩:∃ z,eR t u i=z:=⟨_,rfl⟩
 obtain⟨⟨s2,t2⟩,hs2⟩:∃ z,(eS t i).weight=z:=⟨_,rfl⟩
 rw[hq1,ho1,hc1,hs1,hs2,hcv] at HV
 rw[hc1] at hrc1 hrc2
 rw[hs1] at HRR
 rw[hs2] at HWR
 dsimp only at HV HRR HWR
 clear hE hP hs ok inn hA k1 k2 k3 hN hT hR hPL hq1 ho1 hc1 hs1 hs2 hcv hnq hxm hxd hxg hzm hzc hx1 hx2 c2 c3
 obtain⟨G,hG⟩:=ZnX w.heap.size
 have HE0:Hid (SmK b 0 w [(G+1,pObj ⟨#[]⟩ ⟨#[]⟩),(G,efO (.slice (some ⟨sb,so,none⟩) N sc) (.slice (some ⟨hb,ho,none⟩) T hc) (.slice (some ⟨rb,ro,none⟩) R rk))] ((w.alloc (efO (.slice (some ⟨sb,so,none⟩) N sc) (.slice (some ⟨hb,ho,none⟩) T hc) (.slice (some ⟨rb,ro,none⟩) R rk))).alloc (pObj ⟨#[]⟩ ⟨#[]⟩))):=
  ((SmK.start HS.out).push _ hG.symm).push _ (by simp[hG])
 have i0':(0:Int)≤(i:Int):=by omega
 have i1':(i:Int)<(N:Int):=by omega
 have u0':(0:Int)≤(u:Int):=by omega
 have u1':(u:Int)<(R:Int):=by omega
 go_enter Tryz.func55,Tryz.ntmps55
 go_wp2_with fail
 refine(HCV.out _ HE0.out.base HE0.out.sm).mono ?_
 rintro e w1 ⟨xc,yc,hxc,rfl,hb1⟩
 have HXC:=ZnV hxc
 obtain⟨g7,hg7⟩:=ZnX w1.heap.size
 obtain⟨w2,hw2⟩:=ZnX (w1.alloc (pObj xc yc))
 have HE2:=ZnV ((HE0.out.call hb1).push (pObj xc yc) hg7.symm)
 rw[hw2] at HE2
 clear hxc hb1 HE0
 go_wp2_with fail
 try rw[hg7]
 try rw[hw2]
 try rw[hG]
 clear hg7 hw2 hG
 refine Zat 14 12 [(0,15)] [(1,0),(1,1),(1,2),(1,3),(1,4),(1,5),(1,6),(1,7),(1,8),(1,9),(0,10),(1,11),(1,12),(0,13)] (fun _ g V=>SmK b 0 w (Zb1 (pObj ⟨#[]⟩ ⟨#[]⟩) [(g7,pObj xc yc),(G+1,pObj ⟨#[]⟩ ⟨#[]⟩),(G,efO (.slice (some ⟨sb,so,none⟩) N sc) (.slice (some ⟨hb,ho,none⟩) T hc) (.slice (some ⟨rb,ro,none⟩) R rk))] g) V) (fun i=>i==15)
  (by kernel_rfl) (by kernel_rfl) (fun j hj=>by have h:15<j:=hj;simp;omega) (fun _ _ o _ _ h=>by cases o<;>exact h) rfl rfl (fun _=>rfl) (fun a V K hK=>by go_simp;exact hK) (fun j V h=>h.push _ rfl) HE2.out.drew ?_
 iterate 10
  refine ZG _ rfl (fun z=>rfl) (fun z j g w' hS=>by have hE:=hS.bare;have c0:=hE.cell 0 0 (v:=.string xc) rfl rfl;have c1:=hE.cell 0 1 (v:=.string yc) rfl rfl;have d2:=hE.cell 2 2 (v:=.slice (some ⟨rb,ro,none⟩) R rk) rfl rfl;obtain⟨_,e0,e1,e2⟩:=HV.out _ hE.base;simp only[Act.put,List.setIfInBounds_toArray,List.set_cons_zero,List.set_cons_succ];go_simp;first | rfl | (rw[if_pos (by omega)])) ?_
  simp only[ZnP,ZnQ,ZnR,Act.put,ZnS,ZnT,ZnU]
 refine ZK 88 _ rfl (fun z=>rfl) (fun z w'=>by simp only[Act.put,List.setIfInBounds_toArray,List.set_cons_zero,List.set_cons_succ];go_simp;rfl) (fun g V hS=>?_)
 refine(ZgM HXC.out HRR.out HXM.out rfl _).mono ?_
 rintro e V' ⟨rfl,hb⟩
 refine .inl ⟨_,rfl,hS.step hb,?_⟩
 clear hb hS
 simp only[ZnP,ZnQ,ZnR,Act.put,ZnS,ZnT,ZnU]
 iterate 2
  refine ZG _ rfl (fun z=>rfl) (fun z j g w' hS=>by skip;simp only[Act.put,List.setIfInBounds_toArray,List.set_cons_zero,List.set_cons_succ];go_simp;first | rfl | (rw[if_pos (by omega)])) ?_
  simp only[ZnP,ZnQ,ZnR,Act.put,ZnS,ZnT,ZnU]
 refine ZK 84 _ rfl (fun z=>rfl) (fun z w'=>by simp only[Act.put,List.setIfInBounds_toArray,List.set_cons_zero,List.set_cons_succ];go_simp;rfl) (fun g V hS=>?_)
 refine(Zep xm ym hS.bare.sm).mono ?_
 rintro e V' ⟨rfl,hb⟩
 refine .inl ⟨_,rfl,hS.call hb,?_⟩
 clear hb hS
 simp only[ZnP,ZnQ,ZnR,Act.put,ZnS,ZnT,ZnU]
 refine ZaP fun g8 V8 hS=>?_
 simp only[ZnP,ZnQ,ZnR,Act.put,ZnS,ZnT,ZnU]
 have HG8:Hid (SmK b 0 w ((g8,pObj ⟨#[]⟩ ⟨#[]⟩)::[(g7,pObj xc yc),(G+1,pObj ⟨#[]⟩ ⟨#[]⟩),(G,efO (.slice (some ⟨sb,so,none⟩) N sc) (.slice (some ⟨hb,ho,none⟩) T hc) (.slice (some ⟨rb,ro,none⟩) R rk))]) V8):=hS
 have r0:=HG8.out.cell 0 0 rfl rfl
 have r1:=HG8.out.cell 0 1 rfl rfl
 have f0:=HG8.out.free 0 0 rfl
 have f1:=HG8.out.free 0 1 rfl
 refine Zq rfl rfl fun K hK=>?_
 go_simp
 have HE8:=ZnV (HG8.out.fill (.string xm) (.string ym))
 refine hK _ _ (.inl rfl) ?_
 clear hK K r0 r1 f0 f1 HG8 hS
 refine Zt ?_
 obtain⟨Z8,hZ⟩:=ZnX ((V8.setCell ⟨g8,0,none⟩ (.string xm)).setCell ⟨g8,1,none⟩ (.string ym))
 rw[hZ] at HE8 ⊢
 clear hZ
 clear HE2
 go_wp2_with fail
 refine Zat 12 13 [(0,13)] [(1,0),(1,1),(1,2),(1,3),(1,4),(1,5),(1,6),(1,7),(0,8),(1,9),(1,10),(0,11)] (fun _ g V=>SmK b 0 w (Zb1 (pObj ⟨#[]⟩ ⟨#[]⟩) [(g8,pObj xm ym),(g7,pObj xc yc),(G+1,pObj ⟨#[]⟩ ⟨#[]⟩),(G,efO (.slice (some ⟨sb,so,none⟩) N sc) (.slice (some ⟨hb,ho,none⟩) T hc) (.slice (some ⟨rb,ro,none⟩) R rk))] g) V) (fun i=>i==13)
  (by kernel_rfl) (by kernel_rfl) (fun j hj=>by have h:13<j:=hj;simp;omega) (fun _ _ o _ _ h=>by cases o<;>exact h) rfl rfl (fun _=>rfl) (fun a V K hK=>by go_simp;exact hK) (fun j V h=>h.push _ rfl) HE8.out.drew ?_
 iterate 8
  refine ZG _ rfl (fun z=>rfl) (fun z j g w' hS=>by have hE:=hS.bare;have c0:=hE.cell 0 0 (v:=.string xm) rfl rfl;have c1:=hE.cell 0 1 (v:=.string ym) rfl rfl;have d0:=hE.cell 3 0 (v:=.slice (some ⟨sb,so,none⟩) N sc) rfl rfl;obtain⟨⟨_,_,e2,_⟩,_⟩:=HV.out _ hE.base;simp only[Act.put,List.setIfInBounds_toArray,List.set_cons_zero,List.set_cons_succ];go_simp;first | rfl | (rw[if_pos (by omega)])) ?_
  simp only[ZnP,ZnQ,ZnR,Act.put,ZnS,ZnT,ZnU]
 refine ZK 114 _ rfl (fun z=>rfl) (fun z w'=>by simp only[Act.put,List.setIfInBounds_toArray,List.set_cons_zero,List.set_cons_succ];go_simp;rfl) (fun g V hS=>?_)
 refine(Zga (HV.out _ hS.bare.base).1.2.2.2 HCU.out HXM.out HZ.out.1 HX1.out).mono ?_
 rintro e V' ⟨rfl,hb⟩
 refine .inl ⟨_,rfl,hS.step hb,?_⟩
 clear hb hS
 simp only[ZnP,ZnQ,ZnR,Act.put,ZnS,ZnT,ZnU]
 iterate 2
  refine ZG _ rfl (fun z=>rfl) (fun z j g w' hS=>by skip;simp only[Act.put,List.setIfInBounds_toArray,List.set_cons_zero,List.set_cons_succ];go_simp;first | rfl | (rw[if_pos (by omega)])) ?_
  simp only[ZnP,ZnQ,ZnR,Act.put,ZnS,ZnT,ZnU]
 refine ZK 84 _ rfl (fun z=>rfl) (fun z w'=>by simp only[Act.put,List.setIfInBounds_toArray,List.set_cons_zero,List.set_cons_succ];go_simp;rfl) (fun g V hS=>?_)
 refine(Zep x1 y1 hS.bare.sm).mono ?_
 rintro e V' ⟨rfl,hb⟩
 refine .inl ⟨_,rfl,hS.call hb,?_⟩
 clear hb hS
 simp only[ZnP,ZnQ,ZnR,Act.put,ZnS,ZnT,ZnU]
 refine ZaP fun g9 V9 hS=>?_
 simp only[ZnP,ZnQ,ZnR,Act.put,ZnS,ZnT,ZnU]
 have HG8:Hid (SmK b 0 w ((g9,pObj ⟨#[]⟩ ⟨#[]⟩)::[(g8,pObj xm ym),(g7,pObj xc yc),(G+1,pObj ⟨#[]⟩ ⟨#[]⟩),(G,efO (.slice (some ⟨sb,so,none⟩) N sc) (.slice (some ⟨hb,ho,none⟩) T hc) (.slice (some ⟨rb,ro,none⟩) R rk))]) V9):=hS
 have r0:=HG8.out.cell 0 0 rfl rfl
 have r1:=HG8.out.cell 0 1 rfl rfl
 have f0:=HG8.out.free 0 0 rfl
 have f1:=HG8.out.free 0 1 rfl
 refine Zq rfl rfl fun K hK=>?_
 go_simp
 have HE9:=ZnV (HG8.out.fill (.string x1) (.string y1))
 refine hK _ _ (.inl rfl) ?_
 clear hK K r0 r1 f0 f1 HG8 hS
 refine Zt ?_
 obtain⟨Z9,hZ⟩:=ZnX ((V9.setCell ⟨g9,0,none⟩ (.string x1)).setCell ⟨g9,1,none⟩ (.string y1))
 rw[hZ] at HE9 ⊢
 clear hZ
 clear HE8
 have HE3:=ZnV (HE9.out.only [0,2,3,4] _ rfl (by decide))
 clear HE9
 go_wp2_with fail
 refine Zat 12 14 [(0,13)] [(1,0),(1,1),(1,2),(1,3),(1,4),(1,5),(1,6),(1,7),(0,8),(1,9),(1,10),(0,11)] (fun _ g V=>SmK b 0 w (Zb1 (pObj ⟨#[]⟩ ⟨#[]⟩) [(g9,pObj x1 y1),(g7,pObj xc yc),(G+1,pObj ⟨#[]⟩ ⟨#[]⟩),(G,efO (.slice (some ⟨sb,so,none⟩) N sc) (.slice (some ⟨hb,ho,none⟩) T hc) (.slice (some ⟨rb,ro,none⟩) R rk))] g) V) (fun i=>i==13)
  (by kernel_rfl) (by kernel_rfl) (fun j hj=>by have h:13<j:=hj;simp;omega) (fun _ _ o _ _ h=>by cases o<;>exact h) rfl rfl (fun _=>rfl) (fun a V K hK=>by go_simp;exact hK) (fun j V h=>h.push _ rfl) HE3.out.drew ?_
 iterate 8
  refine ZG _ rfl (fun z=>rfl) (fun z j g w' hS=>by have hE:=hS.bare;have c0:=hE.cell 1 0 (v:=.string xc) rfl rfl;have c1:=hE.cell 1 1 (v:=.string yc) rfl rfl;have d0:=hE.cell 3 0 (v:=.slice (some ⟨sb,so,none⟩) N sc) rfl rfl;obtain⟨⟨_,_,e2,_⟩,_⟩:=HV.out _ hE.base;simp only[Act.put,List.setIfInBounds_toArray,List.set_cons_zero,List.set_cons_succ];go_simp;first | rfl | (rw[if_pos (by omega)])) ?_
  simp only[ZnP,ZnQ,ZnR,Act.put,ZnS,ZnT,ZnU]
 refine ZK 114 _ rfl (fun z=>rfl) (fun z w'=>by simp only[Act.put,List.setIfInBounds_toArray,List.set_cons_zero,List.set_cons_succ];go_simp;rfl) (fun g V hS=>?_)
 refine(Zga (HV.out _ hS.bare.base).1.2.2.2 HCU.out HXC.out HZ.out.2 HX2.out).mono ?_
 rintro e V' ⟨rfl,hb⟩
 refine .inl ⟨_,rfl,hS.step hb,?_⟩
 clear hb hS
 simp only[ZnP,ZnQ,ZnR,Act.put,ZnS,ZnT,ZnU]
 iterate 2
  refine ZG _ rfl (fun z=>rfl) (fun z j g w' hS=>by skip;simp only[Act.put,List.setIfInBounds_toArray,List.set_cons_zero,List.set_cons_succ];go_simp;first | rfl | (rw[if_pos (by omega)])) ?_
  simp only[ZnP,ZnQ,ZnR,Act.put,ZnS,ZnT,ZnU]
 refine ZK 84 _ rfl (fun z=>rfl) (fun z w'=>by simp only[Act.put,List.setIfInBounds_toArray,List.set_cons_zero,List.set_cons_succ];go_simp;rfl) (fun g V hS=>?_)
 refine(Zep x2 y2 hS.bare.sm).mono ?_
 rintro e V' ⟨rfl,hb⟩
 refine .inl ⟨_,rfl,hS.call hb,?_⟩
 clear hb hS
 simp only[ZnP,ZnQ,ZnR,Act.put,ZnS,ZnT,ZnU]
 refine ZaP fun g10 V10 hS=>?_
 simp only[ZnP,ZnQ,ZnR,Act.put,ZnS,ZnT,ZnU]
 have HG8:Hid (SmK b 0 w ((g10,pObj ⟨#[]⟩ ⟨#[]⟩)::[(g9,pObj x1 y1),(g7,pObj xc yc),(G+1,pObj ⟨#[]⟩ ⟨#[]⟩),(G,efO (.slice (some ⟨sb,so,none⟩) N sc) (.slice (some ⟨hb,ho,none⟩) T hc) (.slice (some ⟨rb,ro,none⟩) R rk))]) V10):=hS
 have r0:=HG8.out.cell 0 0 rfl rfl
 have r1:=HG8.out.cell 0 1 rfl rfl
 have f0:=HG8.out.free 0 0 rfl
 have f1:=HG8.out.free 0 1 rfl
 refine Zq rfl rfl fun K hK=>?_
 go_simp
 have HE10:=ZnV (HG8.out.fill (.string x2) (.string y2))
 refine hK _ _ (.inl rfl) ?_
 clear hK K r0 r1 f0 f1 HG8 hS
 refine Zt ?_
 obtain⟨Z10,hZ⟩:=ZnX ((V10.setCell ⟨g10,0,none⟩ (.string x2)).setCell ⟨g10,1,none⟩ (.string y2))
 rw[hZ] at HE10 ⊢
 clear hZ
 clear HE3
 have HE3:=ZnV (HE10.out.only [3,0,1,4] _ rfl (by decide))
 clear HE10
 have s0:=HE3.out.c0
 go_wp2_with fail
 clear s0
 refine ZF [(1,0),(1,1),(1,2),(1,3),(1,4),(1,5),(1,6),(1,7),(1,8),(1,9),(0,10),(1,11),(1,12),(0,13),(0,14),(1,15),(1,16),(0,17),(0,18)] (SmK b 0 w [(G+1,pObj ⟨#[]⟩ ⟨#[]⟩),(g10,pObj x2 y2),(g9,pObj x1 y1),(G,efO (.slice (some ⟨sb,so,none⟩) N sc) (.slice (some ⟨hb,ho,none⟩) T hc) (.slice (some ⟨rb,ro,none⟩) R rk))]) (fun i=>i==18)
  (by kernel_rfl) (by kernel_rfl) (fun j hj=>by have h:19≤j:=hj;simp;omega) (fun _ _ o _ _ h=>by cases o<;>exact h) HE3.out.drew ?_
 obtain⟨w4,hw4⟩:=ZnX Z10.drew
 have HE4:=ZnV HE3.out.drew
 rw[hw4] at HE4 ⊢
 clear hw4 HE3
 iterate 10
  refine Zk _ rfl rfl (fun w' hS=>by have c0:=hS.cell 1 0 (v:=.string x2) rfl rfl;have c1:=hS.cell 1 1 (v:=.string y2) rfl rfl;have c2:=hS.cell 2 0 (v:=.string x1) rfl rfl;have c3:=hS.cell 2 1 (v:=.string y1) rfl rfl;have d0:=hS.cell 3 0 (v:=.slice (some ⟨sb,so,none⟩) N sc) rfl rfl;obtain⟨⟨e0,e1,_⟩,_⟩:=HV.out _ hS.base;go_simp;first | rfl | (rw[if_pos (by omega)])) ?_
  simp only[ZnP,ZnQ,ZnR,Act.put,ZnS,ZnT,ZnU]
 refine Zm 105 _ rfl rfl (by go_simp;rfl) ?_
 have HEC:=HE4
 refine(Ze5 HX1.out HX2.out HXD.out rfl _).mono ?_
 rintro e w5 ⟨rfl,hb⟩
 have HE5:=ZnV (HEC.out.step hb)
 refine .inl ⟨_,rfl,HE5.out,?_⟩
 clear hb HEC
 simp only[ZnP,ZnQ,ZnR,Act.put,ZnS,ZnT,ZnU]
 iterate 2
  refine Zk _ rfl rfl (fun w' hS=>by skip;go_simp;first | rfl | (rw[if_pos (by omega)])) ?_
  simp only[ZnP,ZnQ,ZnR,Act.put,ZnS,ZnT,ZnU]
 refine Zm 84 _ rfl rfl (by go_simp;rfl) ?_
 have HEC:=HE5
 refine(Zep xd yd HEC.out.sm).mono ?_
 rintro e w6 ⟨rfl,hb⟩
 have HE6:=ZnV (HEC.out.call hb)
 refine .inl ⟨_,rfl,HE6.out,?_⟩
 clear hb HEC
 simp only[ZnP,ZnQ,ZnR,Act.put,ZnS,ZnT,ZnU]
 refine Zm 86 _ rfl rfl (by go_simp;rfl) ?_
 have HEC:=HE6
 refine(ZgE HWR.out HXD.out HXG.out rfl _).mono ?_
 rintro e w7 ⟨rfl,hb⟩
 have HE7:=ZnV (HEC.out.step hb)
 refine .inl ⟨_,rfl,HE7.out,?_⟩
 clear hb HEC
 simp only[ZnP,ZnQ,ZnR,Act.put,ZnS,ZnT,ZnU]
 iterate 2
  refine Zk _ rfl rfl (fun w' hS=>by skip;go_simp;first | rfl | (rw[if_pos (by omega)])) ?_
  simp only[ZnP,ZnQ,ZnR,Act.put,ZnS,ZnT,ZnU]
 refine Zm 84 _ rfl rfl (by go_simp;rfl) ?_
 have HEC:=HE7
 refine(Zep xg yg HEC.out.sm).mono ?_
 rintro e w8 ⟨rfl,hb⟩
 have HE8:=ZnV (HEC.out.call hb)
 refine .inl ⟨_,rfl,HE8.out,?_⟩
 clear hb HEC
 simp only[ZnP,ZnQ,ZnR,Act.put,ZnS,ZnT,ZnU]
 have r0:=HE8.out.cell 0 0 rfl rfl
 have r1:=HE8.out.cell 0 1 rfl rfl
 have f0:=HE8.out.free 0 0 rfl
 have f1:=HE8.out.free 0 1 rfl
 refine Zq rfl rfl fun K hK=>?_
 go_simp
 have HE9:=ZnV (HE8.out.fill (.string xg) (.string yg))
 refine hK _ _ (.inl rfl) ?_
 clear hK K r0 r1 f0 f1
 refine Zt ?_
 clear HE4 HE5 HE6 HE7 HE8
 go_wp2
 have q0:=HE9.out.cell 0 0 (v:=.string xg) rfl rfl
 have q1:=HE9.out.cell 0 1 (v:=.string yg) rfl rfl
 exact bodyPost_ret (v:=.agg #[.string xg,.string yg]) (by simp[results,Tryz.f55,go_sem,q0,q1]) rfl ⟨xg,yg,HXG.out,rfl,HE9.out.done⟩
structure CopyF (p:List (List Int)) (N m T k:Nat) (wr V2 V3:World) (q0 g cap':Nat) (pq:Option Addr) (pn pcap:Nat) (gq gc:Nat→Nat) (l:List Int):Prop where
 own:V3.ownsRow (m+1) 23 1 (.slice pq pn pcap) (p.take k).length (Zdw N gq gc (p.take k).length)
 news:∀ j u,([Value.slice (some ⟨g,0,none⟩) N cap'])[j]?=some u→V3.cell? ((⟨V2.heap.size,0,none⟩:Addr).add j)=some u
 below:Below wr.heap.size wr V3
 row:V3.ownsRow (m+1) 3 1 (.slice (some ⟨g,0,none⟩) N cap') N (ints l)
 plan:PlanO (p.take k) N m m (.slice pq pn pcap) gq gc V3
 go:∀ u,u<(p.take k).length→gq u≠g
 gp:(Value.slice pq pn pcap).ownBlock≠some g
 mle:m+1≤V3.heap.size
 gm:g≠m
theorem ZnN {p:List (List Int)} {N m T k:Nat} {wr V2:World} {q0 g cap':Nat} {pq:Option Addr} {pn pcap:Nat} {gq gc:Nat→Nat} {l:List Int} (h:PlanO (p.take k) N m m (.slice pq pn pcap) gq gc wr) (hq:wr.heap.size=q0) (hgrow:(wr.alloc (.cells #[] 3)).grownBy V2 (Value.slice (some ⟨wr.heap.size,0,none⟩) 0 0).ownBlock)
  (hat:(Value.slice (some ⟨wr.heap.size,0,none⟩) 0 0).ownBlock=some g∨g=wr.heap.size+1) (hown:V2.ownsRow (m+1) 3 1 (.slice (some ⟨g,0,none⟩) N cap') N (ints l)) (hlt:g<V2.heap.size) (hm:m+1≤wr.heap.size) :
  CopyF p N m T k wr V2 (V2.alloc (.cells #[.slice (some ⟨g,0,none⟩) N cap'] 23)) q0 g cap' pq pn pcap gq gc l:=by
 have hB2:Below wr.heap.size wr V2:=((Below.refl wr.heap.size wr).alloc ZnW _).grown hgrow (by simp) (fun z hz=>by cases hz;exact Nat.le_refl _)
 have hB3:Below wr.heap.size wr (V2.alloc (.cells #[.slice (some ⟨g,0,none⟩) N cap'] 23)):=hB2.trans (((Below.refl _ V2).alloc ZnW _).mono hB2.size)
 have hg2:wr.heap.size≤g:=by
  rcases hat with h | h
  ·cases h;exact Nat.le_refl _
  ·omega
 have hP3:=h.keep (hB3.keepsS (NotM m))
 refine⟨hP3.outer,Zb3 V2 _ _,hB3,Zag hown fun x hx=>Below.heap_alloc _ _ _ (World.ownsRow.lt hown x hx).2,hP3,fun u hu e=>?_,fun e=>?_,by have:=hB3.size;omega,by omega⟩
 ·have:=(h.gt hu).2
  omega
 ·have:=(World.ownsRow.lt h.outer g e).2
  omega
theorem ZlE {p:List (List Int)} {pv0:Value} {N m u i:Nat} {d:Int} {w:World} (hp:IIL w pv0 p) (hpl:p.length≤8) (hN:1≤N∧N≤24) (hrow:∀ u (h:u<p.length),p[u].length=N) (hm:m+1=w.heap.size) (hu:u<p.length) (hiN:i<N) (hd : -1≤d∧d≤1) (h48:0≤pN p u i∧pN p u i≤100) :
  Calls Tryz.prog 57 #[pv0,.int .i64 u,.int .i64 i,.int .i64 d] w (fun e w'=>∃ pv gq gc,e=.returned pv∧PlanO (bump p u i d) N m m pv gq gc w'∧Below w.heap.size w w'):=by
 obtain⟨T,hT⟩:=ZnX p.length
 obtain⟨pp,pc,rfl,hpc1,hpc2⟩:=hp.shape hT
 rw[hT] at hpl
 have HP:=ZnV hp
 have HTT:=ZnV hT
 have HROW:=ZnV hrow
 have HU:=ZnV hu
 obtain⟨i0,hi,hz0,hz1,hz2⟩:=info_parts Zc0
 obtain⟨i1,hi',hz0',hz1',hz2'⟩:=info_parts Zdt
 have HP0:Hid (PlanO (p.take 0) N m m (.slice none 0 0) (fun _=>0) (fun _=>0) w):=⟨World.ownsRow_nil _ _ _ _,fun u hu=>by simp at hu,fun u v hu=>by simp at hu,by simp[Value.ownBlock],fun u hu=>by simp at hu⟩
 clear hp hT hrow hu
 go_enter Tryz.func57,Tryz.ntmps57
 go_wp2_with fail
 go_loopw [9,10] (fun pvv iv wr=>∃ (k:Nat) (gq gc:Nat→Nat),iv=.int .i64 k∧k≤T∧Hid (PlanO (p.take k) N m m pvv gq gc wr)∧Hid (Below w.heap.size w wr)) (fun _ iv _=>T-(intOf iv).toNat)
 case atStart=>exact⟨0,_,_,rfl,Nat.zero_le _,HP0,Below.refl _ _⟩
 case round=>
  obtain⟨k,gq,gc,rfl,hk,HK,HB⟩:=hrel
  clear HP0
  by_cases hlt:k<T
  ·have hkl:((p.take k)).length=k:=by rw[List.length_take,HTT.out];omega
   have hkp:k<p.length:=by rw[HTT.out];exact hlt
   have HKL:=ZnV hkl
   obtain⟨b0,o0,_,hv9,_,_,hb0,hat⟩:=ZaR (IIL.stay2 HP.out HB.out ZnW) (by omega)
   injection hv9 with z1 z2 z3
   subst z1
   obtain⟨v,d1,d2⟩:=hat k hkp
   have hlen:=HROW.out k hkp
   obtain⟨l,hl⟩:=ZnX (p[k])
   rw[hl] at d2 hlen
   obtain⟨rb,ro,rc,rfl,e1,e2,e3,e4⟩:=ZaR d2 (by omega)
   rw[hlen] at d1
   have HLL:=ZnV (And.intro hl hlen)
   obtain⟨pq,pn,pcap,rfl⟩:∃ p n c,u9=Value.slice p n c:=by
    obtain⟨_,h2⟩:=HK.out.outer
    rcases h2 with ⟨h2,_⟩ | ⟨g,cap,_,h2,_⟩
    ·exact⟨_,_,_,h2⟩
    ·exact⟨_,_,_,h2⟩
   have hml:=Zb9 l
   have HB0:Below wr.heap.size wr (wr.alloc (.cells #[] 3)):=(Below.refl wr.heap.size wr).alloc ZnW _
   have HC1:∀ j u,(ints l)[j]?=some u→(wr.alloc (.cells #[] 3)).cell? ((⟨rb,ro,none⟩:Addr).add j)=some u:=fun j u hu=>by
    have hj:j<l.length:=by
     have:=(List.getElem?_eq_some_iff.1 hu).1
     simpa[Zb9] using this
    rw[Zd7 hj] at hu
    have h9:=e4 j hj
    unfold IntR at h9
    rw[Nat.mul_one] at h9
    rw[Addr.add_lit,← hu,HB0.cell (p:=⟨rb,ro+j,none⟩) e3,h9]
    simp[List.getD,hj]
   have d1':=(HB0.cell (p:=⟨b0,o0+k*1,none⟩) hb0).trans d1
   rw[Nat.mul_one] at d1'
   have hwm:m+1≤wr.heap.size:=by rw[hm];exact HB.out.size
   obtain⟨q0,hq0⟩:=ZnX wr.heap.size
   have HQ0:=ZnV hq0
   have i0':(0:Int)≤(k:Int):=by omega
   have i1':(k:Int)<(T:Int):=by omega
   clear hat hb0 d2 e4 hl hkl z2 z3 hq0 d1
   go_wp2_with (first | (at_builtin;refine wpList_append_lies _ rfl (.tmp 18) (.tmp 22) 23 rfl (m+1) 3 i1 (.int .i64 0) 1 8 Tryz.underlying23 hi' hz0' hz1' hz2' rfl (by decide) _ 0 [] rfl (World.ownsRow_lit wr #[] 0 hwm (by simp[maxLen]) rfl) ⟨rb,ro,none⟩ N rc (ints l) rfl (by rw[hml,hlen,Nat.mul_one]) HC1 (Zel _) (by omega) (by unfold maxLen;omega) (by omega) (by simp;omega) (wr.heap.size+1) (by simp) ?_;intro g cap' V2 hown1 hgrow1 hat1 hlt1;rw[Nat.zero_add,List.nil_append] at hown1;obtain⟨V3,hV3⟩:=ZnX (V2.alloc (.cells #[.slice (some ⟨g,0,none⟩) N cap'] 23));have hfacts:CopyF p N m T k wr V2 V3 q0 g cap' pq pn pcap gq gc l:=(by subst hV3;exact ZnN HK.out HQ0.out hgrow1 hat1 hown1 hlt1 hwm);obtain⟨hown2,hnews,hb3,hrow3,hp3,hgo,hgp,hm3,hg3⟩:=hfacts) | (at_builtin;refine wpList_append_lies _ rfl (.tmp 17) (.tmp 24) 29 rfl (m+1) 23 i0 (.slice none 0 0) 1 24 Tryz.underlying29 hi hz0 hz1 hz2 rfl (by decide) (.slice pq pn pcap) _ _ rfl hown2 ⟨V2.heap.size,0,none⟩ 1 1 [.slice (some ⟨g,0,none⟩) N cap'] rfl rfl hnews (by simp[Value.oneCell']) (by decide) (by rw[HKL.out];unfold maxLen;omega) (by rw[HKL.out];omega) hm3 V3.heap.size rfl ?_;intro g2 cap2 V4 hown4 hgrow4 hor4 hlt4))
   have hsn:=hp3.snoc hrow3 hg3 hgo hgp (by omega) hown4 hgrow4 (by
    rcases hor4 with h | h
    ·exact .inl (by rw[h];rfl)
    ·exact .inr ⟨g2,rfl,by omega⟩)
   have hb4:Below w.heap.size w V4:=(HB.out.trans (hb3.mono HB.out.size)).grown hgrow4 (by omega) (fun x hx=>by have:=(World.ownsRow.lt hp3.outer x hx).1;omega)
   have e9:p.take k++[l]=p.take (k+1):=by
    rw[List.take_add_one,List.getElem?_eq_getElem hkp,HLL.out.1]
    rfl
   rw[e9] at hsn
   have hmin:min k p.length=(p.take k).length:=by rw[List.length_take]
   rw[hmin]
   refine⟨⟨k+1,_,_,by go_num,by omega,hsn,hb4⟩,?_⟩
   simp[intOf]
   omega
  ·obtain rfl:k=T:=by omega
   have e:p.take k=p:=by rw[← HTT.out,List.take_length]
   rw[e] at HK
   have hu0:=HU.out
   obtain⟨pb,pc,rfl,hPW⟩:=HK.out.toW (by omega)
   rw[HTT.out] at HK hPW ⊢
   have hz:=World.ownsRow.frozenAt (HK.out.row u HU.out) i
   obtain⟨a1,a2,a3,a4⟩:=hPW.at' u HU.out
   have a5:=a4 i hiN
   have a6:=hPW.cap
   rw[HTT.out] at a6
   rw[Nat.zero_add] at a1 a5
   have HKH:=ZnV HK.out
   have HBB:=ZnV HB.out
   obtain⟨x,hx⟩:=ZnX (pN p u i)
   obtain⟨q,hq⟩:=ZnX (gq u)
   obtain⟨qc,hqc⟩:=ZnX (gc u)
   have HX:=ZnV hx
   have HQ:=ZnV hq
   rw[hx] at a5 h48
   rw[hq] at a1 a5 hz
   rw[hqc] at a1 a2 a3
   have i0':(0:Int)≤(u:Int):=by omega
   have i1':(u:Int)<(k:Int):=by rw[HTT.out] at hu0;omega
   have j0':(0:Int)≤(i:Int):=by omega
   have j1':(i:Int)<(N:Int):=by omega
   have eW:IntKind.i64.wrap (x+d)=x+d:=IntWalk.i64_in _ (by omega)
   clear HK HB hPW a4 hx hq hqc e hu0
   go_wp2_with fail
   refine ZF [(1,0),(1,1),(1,2),(1,3),(1,4),(1,5),(1,6),(1,7),(1,8),(1,9),(1,10),(1,11),(1,12),(1,13),(1,14),(0,15)] (fun V=>V=wr.drew) (fun i=>i==15)
    (by kernel_rfl) (by kernel_rfl) (fun j hj=>by have h:16≤j:=hj;simp;omega) (fun _ _ o _ _ h=>by cases o<;>exact h) rfl ?_
   iterate 15
    refine Zk _ rfl rfl (fun w' hS=>by subst hS;go_simp;first | rfl | (rw[if_pos (by omega)])) ?_
    simp only[ZnP,ZnQ,ZnR,Act.put,ZnS,ZnT,ZnU]
   refine Zq rfl rfl fun K hK=>?_
   go_simp
   obtain⟨w6,hw6⟩:=ZnX ((wr.setCell ⟨q,i,none⟩ (.int .i64 (x+d))).drew)
   have hk6:Keeps (fun z=>z≠q) wr w6:=by rw[← hw6];exact((Keeps.refl _ wr).setCell (by simp) _).drew
   have hgt:=(HKH.out.gt HU.out).1
   rw[HQ.out] at hgt
   have HP6:Hid (PlanO (bump p u i d) N m m (.slice (some ⟨pb,0,none⟩) k pc) gq gc w6):=by
    have h:=HKH.out.store HU.out hiN d (x:=x+d) (by rw[HX.out])
    rw[HQ.out] at h
    rw[← hw6]
    exact h.keep (Keeps.refl _ _).drew
   have HB6:Hid (Below w.heap.size w w6):=HBB.out.trans (hk6.below_of (fun c hc=>by show c≠q;omega) HBB.out.size)
   rw[hw6]
   refine hK _ _ (.inl rfl) ?_
   clear hK K hw6 hk6
   refine Zt ?_
   go_wp2
   exact bodyPost_ret (by simp[results,Tryz.f57,go_sem]) rfl ⟨_,gq,gc,rfl,HP6.out,HB6.out⟩
theorem Zlg {t:TaskP} {p:List (List Int)} {sv hv rv pv:Value} {w:World} (hT:TaskIn t sv hv rv w) (ok:TaskOk t) (hI:IIL w pv p) (inn:Zbt t p) {u:Nat} (hu:u<p.length) :
  Calls Tryz.prog 54 #[.agg #[sv,hv,rv],pv,.int .i64 u] w (ZM (.int .i64 (Zab t p u)) w):=by
 obtain⟨sb,so,sc,hb,ho,hc,rb,ro,rk,cv,rq,rp,rc,rfl,rfl,rfl,k1,k2,k3,hA⟩:=hT.open ok
 obtain⟨T,hTl⟩:=ZnX p.length
 obtain⟨qb,qo,qc,rfl,hq1,hq2,hqb,hat⟩:=ZaR hI (by omega)
 obtain⟨v,e0,hil⟩:=hat u hu
 have hlen:=inn.2.1 u hu
 obtain⟨N,hN⟩:=ZnX t.sites.length
 obtain⟨l,hl⟩:=ZnX (p[u])
 rw[hl] at hil hlen
 rw[hN] at hlen
 have hN24:1≤N∧N≤24:=by rw[← hN];exact ok.sites
 obtain⟨lb,lo,lc,rfl,hlc1,hlc2,hlb,hlat⟩:=ZaR hil (by omega)
 rw[Nat.mul_one,hlen] at e0
 rw[hlen] at hlc1
 have HA:Hid (∀ V,Below w.heap.size w V→V.cell? ⟨qb,qo+u,none⟩=some (.slice (some ⟨lb,lo,none⟩) N lc)∧(∀ j,j<N→V.cell? ⟨lb,lo+j,none⟩=some (.int .i64 (pN p u j)))∧V.cell? ⟨hb,ho+u,none⟩=some (.int .i64 (eH t u))):=fun V hV=>by
  refine⟨(hV.cell (p:=⟨qb,qo+u,none⟩) hqb).trans e0,fun j hj=>?_,(hA V hV).hour u (by rw[← inn.1];exact hu)⟩
  have hj':j<l.length:=by omega
  have h1:=hlat j hj'
  unfold IntR at h1
  rw[Nat.mul_one] at h1
  rw[(hV.cell (p:=⟨lb,lo+j,none⟩) hlb).trans h1]
  unfold pN
  simp[List.getD,hu,hl,hj']
 have HS:Hid (∀ i,i≤N→0≤ZR p u i∧ZR p u i≤48*N):=fun i hi=>by
  have:=Zea (p:=p) (u:=u) (N:=N) (fun j hj=>inn.2.2 u j hu (by rw[hN];exact hj)) i hi
  omega
 have HH:Hid (0≤eH t u∧eH t u≤48):=(ok.team u (by rw[ok.rates,← inn.1];exact hu)).1
 have HJ:Hid (∀ i,i<N→0≤pN p u i∧pN p u i≤48):=fun i hi=>inn.2.2 u i hu (by rw[hN];exact hi)
 have hH8:t.hours.length=T:=by rw[← inn.1,hTl]
 have HLE:Hid (Zab t p u=eH t u-ZR p u N):=by show _=_;unfold Zab;rw[hN]
 rw[HLE.out,hN,hH8]
 rw[hTl] at hq1 ⊢
 rw[hH8] at k2
 rw[hTl] at hu
 obtain⟨R,hR⟩:=ZnX t.rates.length
 rw[hR]
 clear hT ok hI inn k1 k3 hA hat hil hlat e0 hl hlen hN hH8 hqb hlb hTl hR HLE
 have HE0:Hid (Env w.heap.size w [(w.heap.size,efO (.slice (some ⟨sb,so,none⟩) N sc) (.slice (some ⟨hb,ho,none⟩) T hc) (.slice (some ⟨rb,ro,none⟩) R rk))] [] (w.alloc (efO (.slice (some ⟨sb,so,none⟩) N sc) (.slice (some ⟨hb,ho,none⟩) T hc) (.slice (some ⟨rb,ro,none⟩) R rk)))):=(Env.start w).push _ rfl
 obtain⟨G,hG⟩:=ZnX w.heap.size
 obtain⟨w1,hw1⟩:=ZnX (w.alloc (efO (.slice (some ⟨sb,so,none⟩) N sc) (.slice (some ⟨hb,ho,none⟩) T hc) (.slice (some ⟨rb,ro,none⟩) R rk)))
 rw[hw1] at HE0
 obtain⟨a1,a2,a3⟩:=HA.out _ HE0.out.base
 have b1:=HE0.out.cell 0 1 (v:=.slice (some ⟨hb,ho,none⟩) T hc) rfl rfl
 rw[hG] at b1
 have HB:=ZnV HE0.out.base
 obtain⟨hh,hhh⟩:=ZnX (eH t u)
 rw[hhh] at a3 HH ⊢
 have hh48:=HH.out
 have u0':(0:Int)≤(u:Int):=by omega
 have u1':(u:Int)<(T:Int):=by omega
 clear HE0 a2
 go_enter Tryz.func54,Tryz.ntmps54
 go_wp2_with fail
 go_loopw [7,8] (fun nv iv wr=>∃ i:Nat,iv=.int .i64 i∧i≤N∧nv=.int .i64 (hh-ZR p u i)∧wr=w1) (fun _ iv _=>N-(intOf iv).toNat)
 case atStart=>exact⟨0,rfl,Nat.zero_le _,by simp[ZR],rfl⟩
 case round=>
  obtain⟨i,rfl,hi,rfl,rfl⟩:=hrel
  by_cases hlt:i<N
  ·have a2:=(HA.out _ HB.out).2.1 i hlt
   obtain⟨x,hx⟩:=ZnX (pN p u i)
   have h1:=HS.out i hi
   have h2:=HJ.out i hlt
   rw[hx] at a2 h2
   have eW:IntKind.i64.wrap (hh-ZR p u i-x)=hh-ZR p u (i+1):=by
    rw[IntWalk.i64_in _ (by omega)]
    show _=hh-(ZR p u i+pN p u i)
    rw[hx]
    omega
   have HW:=ZnV eW
   have i0':(0:Int)≤(i:Int):=by omega
   have i1':(i:Int)<(N:Int):=by omega
   clear hx h1 h2
   go_wp2
   go_roundw
   case rel=>exact⟨i+1,by go_num,by omega,by first | rfl | rw[HW.out],by first | rfl | trivial⟩
   case measure=>simp[intOf];omega
  ·obtain rfl:i=N:=by omega
   go_wp2
   exact bodyPost_ret (by simp[results,Tryz.f54,go_sem]) rfl ⟨rfl,HB.out⟩
end Go.Proofs.YtmpaflidennnoaaGreatDoor
