/- The parts ESur1, EValues, EGreatB of a proof, put together by program (merge7.py). -/
import Derived.Test.YtmpaflidennnoaaGreatDoorH01
import Derived.Test.YtmpaflidennnoaaGreatDoorH27
import Derived.Test.YtmpaflidennnoaaGreatDoorH24
set_option maxRecDepth 100000
set_option maxHeartbeats 8000000
set_option linter.unusedVariables false
set_option linter.unusedSimpArgs false
namespace Go.Proofs.YtmpaflidennnoaaGreatDoor
open Go.RowKit Go.Shelf
attribute [local go_sem ↓] Go.wp_at_zero Go.wp_at_succ
structure Laid2 (w1:World) (oA oB:Obj) (g h:Option Nat) (V:World):Prop where
 base:Below w1.heap.size w1 V
 a:∀ G,g=some G→w1.heap.size≤G∧V.heap[G]?=some oA
 b:∀ H,h=some H→w1.heap.size≤H∧V.heap[H]?=some oB
 ne:∀ G H,g=some G→h=some H→G≠H
theorem Laid2.start (w1:World) (oA oB:Obj):Laid2 w1 oA oB none none w1.drew:=⟨(Below.refl _ w1).drew,fun G h=>(by cases h),fun G h=>(by cases h),fun G H h=>(by cases h)⟩
theorem Laid2.step {w1:World} {oA oB:Obj} {g h:Option Nat} {V V':World} (L:Laid2 w1 oA oB g h V) (hb:Below V.heap.size V V'):Laid2 w1 oA oB g h V':=by
 refine⟨L.base.trans (hb.mono L.base.size),fun G hG=>?_,fun H hH=>?_,L.ne⟩
 ·obtain⟨h1,h2⟩:=L.a G hG
  exact⟨h1,(hb.block G (Array.getElem?_eq_some_iff.1 h2).1).trans h2⟩
 ·obtain⟨h1,h2⟩:=L.b H hH
  exact⟨h1,(hb.block H (Array.getElem?_eq_some_iff.1 h2).1).trans h2⟩
theorem Laid2.lay1 {w1:World} {oA oB:Obj} {h:Option Nat} {V:World} (L:Laid2 w1 oA oB none h V):Laid2 w1 oA oB (some V.heap.size) h (V.alloc oA):=by
 have hb:Below V.heap.size V (V.alloc oA):=(Below.refl _ V).alloc (Nat.le_refl _) _
 have L2:=L.step hb
 refine⟨L2.base,fun G hG=>?_,L2.b,fun G H hG hH=>?_⟩
 ·obtain rfl:=Option.some.inj hG
  exact⟨L.base.size,World.alloc_heap_new V oA⟩
 ·obtain rfl:=Option.some.inj hG
  have:=(Array.getElem?_eq_some_iff.1 (L.b H hH).2).1
  omega
theorem Laid2.lay2 {w1:World} {oA oB:Obj} {g:Option Nat} {V:World} (L:Laid2 w1 oA oB g none V):Laid2 w1 oA oB g (some V.heap.size) (V.alloc oB):=by
 have hb:Below V.heap.size V (V.alloc oB):=(Below.refl _ V).alloc (Nat.le_refl _) _
 have L2:=L.step hb
 refine⟨L2.base,L2.a,fun H hH=>?_,fun G H hG hH=>?_⟩
 ·obtain rfl:=Option.some.inj hH
  exact⟨L.base.size,World.alloc_heap_new V oB⟩
 ·obtain rfl:=Option.some.inj hH
  have:=(Array.getElem?_eq_some_iff.1 (L.a G hG).2).1
  omega
structure SurW (b Bw Bi Bc Bq i sb so N sc:Nat) (s1 s2 c1 c2:ByteArray) (V:World):Prop where
 pw:V.cell? ⟨Bw,0,none⟩=some (.pointer (some ⟨b,0,none⟩))
 pi:V.cell? ⟨Bi,0,none⟩=some (.int .i64 i)
 pc:V.cell? ⟨Bc,0,none⟩=some (.pointer (some ⟨Bq,0,none⟩))
 ps:V.cell? ⟨b,0,none⟩=some (.slice (some ⟨sb,so,none⟩) N sc)
 v1:V.cell? ⟨sb,so+i*3,none⟩=some (.string s1)
 v2:V.cell? ⟨sb,so+i*3+1,none⟩=some (.string s2)
 q1:V.cell? ⟨Bq,0,none⟩=some (.string c1)
 q2:V.cell? ⟨Bq,1,none⟩=some (.string c2)
 tabs:Tabs V
 eff:EffZ V
noncomputable def posR (x:Rat):Rat:=if x≤0 then 0 else x
theorem Ziq {b Bw Bi Bc Bq i sb so N sc:Nat} {s1 s2 c1 c2:ByteArray} {wq cq hq kq:Rat} {bd:BB} {w:World} (hF:∀ V,Below w.heap.size w V→SurW b Bw Bi Bc Bq i sb so N sc s1 s2 c1 c2 V) (hi:i<N) (hN:N≤24) (hsc:N≤sc∧sc≤9223372036854775807)
  (hw:IsP wq s1 s2) (hc:IsP cq c1 c2) (hh:IsP hq bd.2.1 bd.2.2) (hk:IsP kq bd.1.1 bd.1.2) (zw:Sz 9 wq) (zc:Sz 309 cq) (zh:Sz 18 hq) (zk:Sz 18 kq) :
  Calls Tryz.prog 172 #[bV bd,.pointer (some ⟨Bw,0,none⟩),.pointer (some ⟨Bi,0,none⟩),.pointer (some ⟨Bc,0,none⟩)] w (fun e w'=>∃ x y,e=.returned (pV x y)∧IsP (posR (wq*hq-cq*kq)) x y∧Below w.heap.size w w'):=by
 obtain⟨⟨k1,k2⟩,h1,h2⟩:=bd
 dsimp only at hh hk
 obtain⟨xa,ya,hxa⟩:=ZL (Rat.mul_nonneg hw.nn hh.nn) (Sz.mul hw.nn hh.nn zw zh) (by decide) (by decide)
 obtain⟨xb,yb,hxb⟩:=ZL (Rat.mul_nonneg hc.nn hk.nn) (Sz.mul hc.nn hk.nn zc zk) (by decide) (by decide)
 have hsub:wq*hq-cq*kq≤0∨∃ x y,IsP (wq*hq-cq*kq) x y:=by
  by_cases h:wq*hq-cq*kq≤0
  ·exact .inl h
  ·refine .inr (ZL (by grind) (Sz.sub hxa.nn hxb.nn (by grind) (Sz.mul hw.nn hh.nn zw zh) (Sz.mul hc.nn hk.nn zc zk)) (by decide) (by decide))
 have HSUB:=Lib.hid hsub
 have HXA:=Lib.hid hxa
 have HXB:=Lib.hid hxb
 have HW:=Lib.hid hw
 have HC:=Lib.hid hc
 have HH:=Lib.hid hh
 have HK:=Lib.hid hk
 obtain⟨G,hG⟩:∃ g,w.heap.size=g:=⟨_,rfl⟩
 obtain⟨w1,hw1⟩:∃ z,(w.alloc (bObj ((k1,k2),h1,h2))).alloc (pObj ⟨#[]⟩ ⟨#[]⟩)=z:=⟨_,rfl⟩
 have hb1:Below w.heap.size w w1:=by rw[← hw1];exact((Below.refl _ w).alloc (Nat.le_refl _) _).alloc (by simp) _
 have g0:w1.heap[G]?=some (bObj ((k1,k2),h1,h2)):=by
  rw[← hw1,← hG]
  exact(Below.heap_alloc _ _ _ (by simp)).trans (World.alloc_heap_new w _)
 have g1:w1.heap[G+1]?=some (pObj ⟨#[]⟩ ⟨#[]⟩):=by
  rw[← hw1,← hG]
  have:=World.alloc_heap_new (w.alloc (bObj ((k1,k2),h1,h2))) (pObj ⟨#[]⟩ ⟨#[]⟩)
  rwa [World.size_alloc] at this
 have HFV:Hid (∀ V,Below w1.heap.size w1 V→SurW b Bw Bi Bc Bq i sb so N sc s1 s2 c1 c2 V∧V.heap[G]?=some (bObj ((k1,k2),h1,h2))∧V.heap[G+1]?=some (pObj ⟨#[]⟩ ⟨#[]⟩)):=fun V hV=>
  ⟨hF V (hb1.trans (hV.mono hb1.size)),(hV.block _ (Array.getElem?_eq_some_iff.1 g0).1).trans g0,(hV.block _ (Array.getElem?_eq_some_iff.1 g1).1).trans g1⟩
 have HB1:=Lib.hid hb1
 have HGG:=Lib.hid hG
 have i0':(0:Int)≤(i:Int):=by omega
 have i1':(i:Int)<(N:Int):=by omega
 have hG1:G+1<w1.heap.size:=(Array.getElem?_eq_some_iff.1 g1).1
 clear hF hw hc hh hk zw zc zh zk hxa hxb hb1 hsub g0 g1
 go_enter Tryz.func172,Tryz.ntmps172
 go_wp2_with fail
 try rw[hw1]
 try rw[hG]
 clear hw1 hG
 refine Ze4 24 25 6 7 [(0,26),(0,27)] [(1,0),(1,1),(1,2),(1,3),(1,4),(1,5),(1,6),(1,7),(1,8),(1,9),(1,10),(1,15),(1,16),(1,17),(1,18),(1,19),(0,11),(1,12),(1,13),(0,14),(0,20),(1,21),(1,22),(0,23)] (fun _ g h V=>Laid2 w1 (pObj ⟨#[]⟩ ⟨#[]⟩) (pObj ⟨#[]⟩ ⟨#[]⟩) g h V) (fun i=>i==26 || i==27)
  (by kernel_rfl) (by kernel_rfl) (fun j hj=>by have h:28≤j:=hj;simp;omega) (fun _ _ o _ _ h=>by cases o<;>exact h)
  ⟨_,rfl,rfl,fun _=>rfl,fun a V K hK=>by go_simp;exact hK⟩ ⟨_,rfl,rfl,fun _=>rfl,fun a V K hK=>by go_simp;exact hK⟩ (fun j h V L=>L.lay1) (fun j g V L=>L.lay2) (Laid2.start _ _ _) ?_
 iterate 16
  refine ZbW _ rfl (fun z y=>rfl) (fun z y j g h w' hS=>by obtain⟨⟨e0,e1,e2,e3,e4,e5,e6,e7,_,_⟩,hb,_⟩:=HFV.out _ hS.base;have d0:=Za hb 0 (v:=.string k1) rfl;have d1:=Za hb 1 (v:=.string k2) rfl;have d2:=Za hb 2 (v:=.string h1) rfl;have d3:=Za hb 3 (v:=.string h2) rfl;simp only[two,Act.put,List.setIfInBounds_toArray,List.set_cons_zero,List.set_cons_succ];go_simp;first | rfl | (rw[if_pos (by omega)])) ?_
  simp only[Znc,Znd,Zne,Act.put,Znf,Zng,Znh]
 refine ZcA 119 _ rfl (fun z y=>rfl) (fun z y w'=>by simp only[two,Act.put,List.setIfInBounds_toArray,List.set_cons_zero,List.set_cons_succ];go_simp;rfl) (fun g h V hS=>?_)
 refine(Zcb HW.out HH.out HXA.out rfl _ (HFV.out _ hS.base).1.tabs).mono ?_
 rintro e V' ⟨rfl,hb⟩
 refine .inl ⟨_,rfl,hS.step hb,?_⟩
 clear hb hS
 simp only[Znc,Znd,Zne,Act.put,Znf,Zng,Znh]
 iterate 2
  refine ZbW _ rfl (fun z y=>rfl) (fun z y j g h w' hS=>by skip;simp only[two,Act.put,List.setIfInBounds_toArray,List.set_cons_zero,List.set_cons_succ];go_simp;first | rfl | (rw[if_pos (by omega)])) ?_
  simp only[Znc,Znd,Zne,Act.put,Znf,Zng,Znh]
 refine ZcA 103 _ rfl (fun z y=>rfl) (fun z y w'=>by simp only[two,Act.put,List.setIfInBounds_toArray,List.set_cons_zero,List.set_cons_succ];go_simp;rfl) (fun g h V hS=>?_)
 refine(Z4 xa ya _).mono ?_
 rintro e V' ⟨rfl,hb⟩
 refine .inl ⟨_,rfl,hS.step hb,?_⟩
 clear hb hS
 simp only[Znc,Znd,Zne,Act.put,Znf,Zng,Znh]
 refine ZcA 119 _ rfl (fun z y=>rfl) (fun z y w'=>by simp only[two,Act.put,List.setIfInBounds_toArray,List.set_cons_zero,List.set_cons_succ];go_simp;rfl) (fun g h V hS=>?_)
 refine(Zcb HC.out HK.out HXB.out rfl _ (HFV.out _ hS.base).1.tabs).mono ?_
 rintro e V' ⟨rfl,hb⟩
 refine .inl ⟨_,rfl,hS.step hb,?_⟩
 clear hb hS
 simp only[Znc,Znd,Zne,Act.put,Znf,Zng,Znh]
 iterate 2
  refine ZbW _ rfl (fun z y=>rfl) (fun z y j g h w' hS=>by skip;simp only[two,Act.put,List.setIfInBounds_toArray,List.set_cons_zero,List.set_cons_succ];go_simp;first | rfl | (rw[if_pos (by omega)])) ?_
  simp only[Znc,Znd,Zne,Act.put,Znf,Zng,Znh]
 refine ZcA 103 _ rfl (fun z y=>rfl) (fun z y w'=>by simp only[two,Act.put,List.setIfInBounds_toArray,List.set_cons_zero,List.set_cons_succ];go_simp;rfl) (fun g h V hS=>?_)
 refine(Z4 xb yb _).mono ?_
 rintro e V' ⟨rfl,hb⟩
 refine .inl ⟨_,rfl,hS.step hb,?_⟩
 clear hb hS
 simp only[Znc,Znd,Zne,Act.put,Znf,Zng,Znh]
 refine ZgJ fun g h V hS=>?_
 simp only[two]
 simp only[Znc,Znd,Zne,Act.put,Znf,Zng,Znh]
 obtain⟨hg1,hg2⟩:=hS.a _ rfl
 obtain⟨hh1,hh2⟩:=hS.b _ rfl
 have hne:=hS.ne _ _ rfl rfl
 have HLB:Hid (Below w1.heap.size w1 V):=hS.base
 clear hS
 have c0:=Za hg2 0 (v:=.string ⟨#[]⟩) rfl
 have c1':=Za hg2 1 (v:=.string ⟨#[]⟩) rfl
 have f0:=Zb hg2 0
 have f1:=Zb hg2 1
 refine Zn rfl rfl fun K hK=>?_
 go_simp
 obtain⟨V1,hV1⟩:∃ z,(V.setCell ⟨g,0,none⟩ (.string xa)).setCell ⟨g,1,none⟩ (.string ya)=z:=⟨_,rfl⟩
 have hg3:V1.heap[g]?=some (pObj xa ya):=by rw[← hV1];exact ZM hg2 _ _
 have hh3:V1.heap[h]?=some (pObj ⟨#[]⟩ ⟨#[]⟩):=by rw[← hV1];exact((Below.heap_setCell _ _ _ _ (by show h≠g;exact fun e=>hne e.symm)).trans (Below.heap_setCell _ _ _ _ (by show h≠g;exact fun e=>hne e.symm))).trans hh2
 have HLB1:Hid (Below w1.heap.size w1 V1):=by rw[← hV1];exact Zf HLB.out hg1 _ _
 rw[hV1]
 refine hK _ _ (.inl rfl) ?_
 clear hK K hV1 c0 c1' f0 f1 hg2 hh2 HLB
 have c0:=Za hh3 0 (v:=.string ⟨#[]⟩) rfl
 have c1':=Za hh3 1 (v:=.string ⟨#[]⟩) rfl
 have f0:=Zb hh3 0
 have f1:=Zb hh3 1
 refine Zn rfl rfl fun K hK=>?_
 go_simp
 obtain⟨V2,hV2⟩:∃ z,(V1.setCell ⟨h,0,none⟩ (.string xb)).setCell ⟨h,1,none⟩ (.string yb)=z:=⟨_,rfl⟩
 have hh4:V2.heap[h]?=some (pObj xb yb):=by rw[← hV2];exact ZM hh3 _ _
 have hg4:V2.heap[g]?=some (pObj xa ya):=by rw[← hV2];exact((Below.heap_setCell _ _ _ _ (by show g≠h;exact hne)).trans (Below.heap_setCell _ _ _ _ (by show g≠h;exact hne))).trans hg3
 have HLB2:Hid (Below w1.heap.size w1 V2):=by rw[← hV2];exact Zf HLB1.out hh1 _ _
 rw[hV2]
 refine hK _ _ (.inl rfl) ?_
 clear hK K hV2 c0 c1' f0 f1 hg3 hh3 HLB1
 have HGH:=Lib.hid (And.intro hg4 hh4)
 have a0:=Za hg4 0 (v:=.string xa) rfl
 have a1:=Za hg4 1 (v:=.string ya) rfl
 have b0:=Za hh4 0 (v:=.string xb) rfl
 have b1:=Za hh4 1 (v:=.string yb) rfl
 clear hg4 hh4
 refine Zq ?_
 obtain⟨n,hn⟩:∃ n,sgnR (wq*hq) (cq*kq)=n:=⟨_,rfl⟩
 go_wp2_with fail
 refine(ZaU HXA.out HXB.out hn _).mono ?_
 rintro e V3 ⟨rfl,hb⟩
 have HLB3:Hid (Below w1.heap.size w1 V3):=HLB2.out.trans (hb.mono HLB2.out.size)
 have HG3:Hid (V3.heap[g]?=some (pObj xa ya)∧V3.heap[h]?=some (pObj xb yb)):=⟨(hb.block _ (Array.getElem?_eq_some_iff.1 HGH.out.1).1).trans HGH.out.1,(hb.block _ (Array.getElem?_eq_some_iff.1 HGH.out.2).1).trans HGH.out.2⟩
 clear hb HGH a0 a1 b0 b1 HLB2
 have HF3:=Lib.hid (HFV.out _ HLB3.out)
 by_cases hle:wq*hq≤cq*kq
 ·have hge:n≤0:=by rw[← hn];exact Int.not_lt.1 (Zct hle)
  have HPO:Hid (posR (wq*hq-cq*kq)=0):=by show _=_;unfold posR;rw[if_pos (by grind)]
  obtain⟨⟨_,_,_,_,_,_,_,_,_,⟨z0,z1⟩⟩,_,hr⟩:=HF3.out
  have r0:=Za hr 0 (v:=.string ⟨#[]⟩) rfl
  have r1:=Za hr 1 (v:=.string ⟨#[]⟩) rfl
  have f0:=Zb hr 0
  have f1:=Zb hr 1
  have HR:=Lib.hid hr
  clear hn hle hr HF3
  go_wp2
  obtain⟨q0,q1⟩:=Zh HR.out (.string ⟨#[48]⟩) (.string ⟨#[49]⟩)
  refine bodyPost_ret (v:=pV ⟨#[48]⟩ ⟨#[49]⟩) (by simp[results,Tryz.f172,go_sem,q0,q1]) rfl ⟨_,_,rfl,by rw[HPO.out];exact ZP,Zf (HB1.out.trans (HLB3.out.mono HB1.out.size)) (by have:=HGG.out;omega) _ _⟩
 ·have hge:¬ n≤0:=by rw[← hn];exact Int.not_le.2 (Zcu hle)
  have hpos:¬ wq*hq-cq*kq≤0:=by grind
  obtain⟨xs,ys,hxs⟩:=HSUB.out.resolve_left hpos
  have HXS:=Lib.hid hxs
  have HPO:Hid (posR (wq*hq-cq*kq)=wq*hq-cq*kq):=by show _=_;unfold posR;rw[if_neg hpos]
  have a0:=Za HG3.out.1 0 (v:=.string xa) rfl
  have a1:=Za HG3.out.1 1 (v:=.string ya) rfl
  have b0:=Za HG3.out.2 0 (v:=.string xb) rfl
  have b1:=Za HG3.out.2 1 (v:=.string yb) rfl
  clear hn hle hpos hxs
  go_wp2_with fail
  refine(Zbw HXA.out HXB.out HXS.out rfl _ HF3.out.1.tabs).mono ?_
  rintro e V4 ⟨rfl,hb⟩
  have HLB4:Hid (Below w1.heap.size w1 V4):=HLB3.out.trans (hb.mono HLB3.out.size)
  clear hb a0 a1 b0 b1 HLB3 HF3 HG3
  go_wp2_with fail
  refine(Z4 xs ys _).mono ?_
  rintro e V5 ⟨rfl,hb⟩
  have HLB5:Hid (Below w1.heap.size w1 V5):=HLB4.out.trans (hb.mono HLB4.out.size)
  have HR:=Lib.hid (HFV.out _ HLB5.out).2.2
  have r0:=Za HR.out 0 (v:=.string ⟨#[]⟩) rfl
  have r1:=Za HR.out 1 (v:=.string ⟨#[]⟩) rfl
  have f0:=Zb HR.out 0
  have f1:=Zb HR.out 1
  clear hb HLB4
  go_wp2
  obtain⟨q0,q1⟩:=Zh HR.out (.string xs) (.string ys)
  refine bodyPost_ret (v:=pV xs ys) (by simp[results,Tryz.f172,go_sem,q0,q1]) rfl ⟨_,_,rfl,by rw[HPO.out];exact HXS.out,Zf (HB1.out.trans (HLB5.out.mono HB1.out.size)) (by have:=HGG.out;omega) _ _⟩
end Go.Proofs.YtmpaflidennnoaaGreatDoor
namespace Go.Proofs.YtmpaflidennnoaaGreatDoor
open Go.RowKit Go.Shelf
attribute [local go_sem ↓] Go.wp_at_zero Go.wp_at_succ
attribute [local go_sem] Oper.semAt_some
abbrev cuO (v:Value):Obj:=.cells #[v] 72
theorem Zkm (p:Option Addr) (n c:Nat) (w:World):Calls Tryz.prog 171 #[.slice p n c] w (fun e w'=>e=.returned (.func (.func 206) #[] #[.pointer (some ⟨w.heap.size,0,none⟩)])∧w'=w.alloc (cuO (.slice p n c))):=by
 have hmf:∀ (fn:Fn) (first cap:Array Value) (w:World),(Instr.makeFunc fn first cap).run Tryz.prog w=.ok (.func fn first cap) w:=fun _ _ _ _=>rfl
 go_enter Tryz.func171,Tryz.ntmps171
 go_wp2
 exact bodyPost_ret (by simp[results,Tryz.f171,go_sem]) rfl ⟨rfl,rfl⟩
def ValF (bs:List BB) (n Bv cb co c:Nat) (w:World):Prop:=
 w.cell? ⟨Bv,0,none⟩=some (.slice (some ⟨cb,co,none⟩) n c)∧∀ k,k<n→w.cell? ⟨cb,co+k*4,none⟩=some (.string (bAt bs k).1.1)∧w.cell? ⟨cb,co+k*4+1,none⟩=some (.string (bAt bs k).1.2)∧w.cell? ⟨cb,co+k*4+2,none⟩=some (.string (bAt bs k).2.1)∧w.cell? ⟨cb,co+k*4+3,none⟩=some (.string (bAt bs k).2.2)
theorem ZiS {bs:List BB} {n Bv cb co c:Nat} {S:Nat→Prop} {w0:World} (hn:n≤64) (hc:n≤c∧c≤9223372036854775807) (hF:∀ V,Keeps S w0 V→ValF bs n Bv cb co c V) :
  Iter Tryz.prog 206 #[.pointer (some ⟨Bv,0,none⟩)] (fun k=>#[bV (bAt bs k)]) n S (fun _=>True) w0:=by
 intro q l J Jx W hK hJ hJx hY h0
 have HFF:Hid (∀ V,Keeps S W V→ValF bs n Bv cb co c V):=fun V hV=>hF V (hK.trans hV)
 have HY:=Lib.hid hY
 have HJ:=Lib.hid hJ
 clear hF hY hJ hK
 have a0:=(HFF.out W (Keeps.refl _ _)).1
 refine callsIn_of_wp Tryz.func206 rfl trivial ?_ rfl
 simp only[Tryz.ntmps206,List.size_toArray,List.length_cons,List.length_nil,Nat.reduceAdd,Nat.reduceSub,Array.replicate_succ,Array.replicate_zero,List.push_toArray,List.append_toArray,List.nil_append,List.cons_append]
 gi_wp2
 clear a0
 gi_loopw [7] (fun iv wr=>∃ u:Nat,iv=.int .i64 u∧u≤n∧J u wr∧Hid (Keeps S W wr)) (fun iv _=>n-(intOf iv).toNat)
 case atStart=>exact⟨0,rfl,Nat.zero_le _,h0,Keeps.refl _ _⟩
 case round=>
  obtain⟨u,rfl,hu,hJs,HN⟩:=hrel
  by_cases hlt:u<n
  ·obtain⟨b0,b1,b2,b3⟩:=(HFF.out wr HN.out).2 u hlt
   have i0':(0:Int)≤(u:Int):=by omega
   have i1':(u:Int)<(n:Int):=by omega
   obtain⟨bd,hbd⟩:∃ b,bAt bs u=b:=⟨_,rfl⟩
   rw[hbd] at b0 b1 b2 b3
   obtain⟨H,hH⟩:∃ H,wr.heap.size=H:=⟨_,rfl⟩
   obtain⟨V,hV⟩:∃ V,wr.alloc (bObj bd)=V:=⟨_,rfl⟩
   have hk:∀ S':Nat→Prop,Keeps S' wr V:=fun S'=>by rw[← hV];exact(Keeps.refl _ wr).alloc _
   have hJV:=HJ.out _ _ _ hJs (hk _)
   have HNV:=Lib.hid (HN.out.trans (hk _))
   have hy:=HY.out u V hlt hJV
   rw[hbd] at hy
   obtain⟨fn,tmps,assign,body,hy,hRR⟩:=hy
   have hn:V.heap[H]?=some (bObj bd):=by rw[← hV,← hH];exact World.alloc_heap_new wr _
   have c0:=Za hn 0 (v:=.string bd.1.1) rfl
   have c1:=Za hn 1 (v:=.string bd.1.2) rfl
   have c2:=Za hn 2 (v:=.string bd.2.1) rfl
   have c3:=Za hn 3 (v:=.string bd.2.2) rfl
   clear hk hn hbd hJV
   gi_wp2
   refine⟨(fun h=>by cases h),hRR.mono ?_⟩
   rintro e W3 (⟨rfl,hJ3,hk3⟩ | ⟨rfl,hJx3⟩)
   ·have HN3:=Lib.hid (HNV.out.trans hk3)
    clear hk3 hy hRR
    gi_wp2
    go_roundw
    case rel=>exact⟨u+1,by go_num,by omega,hJ3,HN3⟩
    case measure=>simp[intOf];omega
   ·clear hy hRR
    gi_wp2
    refine bodyPost_ret (results_none rfl _ _ _) rfl ?_
    exact⟨⟨_,rfl⟩,.inr ⟨_,hlt,hJx3⟩⟩
  ·obtain rfl:u=n:=by omega
   gi_wp2
   go_end0
   exact⟨⟨_,rfl⟩,.inl hJs⟩
def ZjZ (e:Nat→BB):Option Nat→Value
 | none=>bV nob
 | some k=>bV (e k)
def ZgK (e:Nat→BB):Option Nat→Obj
 | none=>bObj nob
 | some k=>bObj (e k)
def BoxZ (e:Nat→BB) (B:Nat) (a1:Nat→Nat→Act) (k:Nat) (a':Act) (W:World):Prop:=
 ∃ A,B≤A∧a'=a1 k A∧W.heap[A]?=some (bObj (e k))
theorem ZhE {e:Nat→BB} {g:Nat→Rat} {N:Nat} {Sx:Nat→Prop} {J:Nat→World→Prop} {gf of:Nat} {lb caps:Array Value} {w:World}
  (hgf:∀ args w,(callFunc gf args).run Tryz.prog w=.ok (.enter gf args) w) (hof:∀ args w,(callFunc of args).run Tryz.prog w=.ok (.enter of args) w)
  (hup:∀ b,w.heap.size≤b→Sx b) (hJ:∀ k W1 W2,J k W1→Keeps (fun b=>b<w.heap.size) W1 W2→J k W2) (h0:J 0 w) (hz:∀ V,Keeps Sx w V→EffZ V)
  (hit:∀ V,Keeps Sx w V→Iter Tryz.prog gf lb (fun k=>#[bV (e k)]) N (fun b=>b<w.heap.size∧Sx b) (fun _=>True) V)
  (hc:∀ k,k<N→∀ V,Keeps Sx w V→J k V→Calls Tryz.prog of (#[bV (e k)]++caps) V (fun e' V'=>∃ x y,e'=.returned (pV x y)∧IsP (g k) x y∧Keeps Sx V V'∧J (k+1) V')) :
  Calls Tryz.prog 170 #[.func (.func gf) #[] lb,.func (.func of) #[] caps] w (Zdk Sx (ZjZ e) g N J w):=by
 have HUP:=Lib.hid hup
 have HJ:=Lib.hid hJ
 have HIT:=Lib.hid hit
 have HC:=Lib.hid hc
 have HZ:=Lib.hid hz
 have HJ0:=Lib.hid h0
 have HGF:=Lib.hid hgf
 clear hup hJ hit hc hz h0 hgf
 obtain⟨w4,hw4⟩:∃ z,(((w.alloc (.cells #[.func (.func of) #[] caps] 208)).alloc (bO ⟨#[]⟩ ⟨#[]⟩ ⟨#[]⟩ ⟨#[]⟩)).alloc (pObj ⟨#[]⟩ ⟨#[]⟩)).alloc (flO false)=z:=⟨_,rfl⟩
 obtain⟨P,hP⟩:∃ P,w.heap.size=P:=⟨_,rfl⟩
 have HX:Zk P [.cells #[.func (.func of) #[] caps] 208,bO ⟨#[]⟩ ⟨#[]⟩ ⟨#[]⟩ ⟨#[]⟩,pObj ⟨#[]⟩ ⟨#[]⟩,flO false] w4:=by rw[← hw4,← hP];exact Zk.four w _ _ _ _
 have hk4:Keeps Sx w w4:=by rw[← hw4];exact((((Keeps.refl Sx w).alloc _).alloc _).alloc _).alloc _
 have HK5:Hid (∀ V:World,Keeps (fun b=>b<w.heap.size) w V→J 0 V):=fun V hV=>HJ.out _ _ _ HJ0.out hV
 have hs4:w4.heap.size=P+4:=by rw[← hw4,← hP];simp
 have z:=HZ.out _ hk4
 have z0:=z.z0
 have z1:=z.z1
 have c0:=HX.cell 2 0 (b:=P+1+1) (v:=.string ⟨#[]⟩) rfl rfl rfl
 have c1:=HX.cell 2 1 (b:=P+1+1) (v:=.string ⟨#[]⟩) rfl rfl rfl
 have f0:=HX.free 2 0 (b:=P+1+1) rfl rfl
 have f1:=HX.free 2 1 (b:=P+1+1) rfl rfl
 have HPP:=Lib.hid hP
 clear z
 refine ZbO Tryz.func170 rfl ?_
 simp only[Tryz.ntmps170,List.size_toArray,List.length_cons,List.length_nil,Nat.reduceAdd,Nat.reduceSub,Array.replicate_succ,Array.replicate_zero,List.push_toArray,List.append_toArray,List.nil_append,List.cons_append]
 go_wp2_with fail
 obtain⟨w5,hw5⟩:∃ z,(w4.setCell ⟨P+1+1,0,none⟩ (.string ⟨#[48]⟩)).setCell ⟨P+1+1,1,none⟩ (.string ⟨#[49]⟩)=z:=⟨_,rfl⟩
 have o5:∀ k,k≠P+1+1→w5.heap[k]?=w4.heap[k]?:=fun k hk=>by rw[← hw5];exact(Below.heap_setCell _ _ _ _ hk).trans (Below.heap_setCell _ _ _ _ hk)
 have hk5:Keeps Sx w w5:=by
  refine hk4.via (S':=fun b=>b≠P+1+1) ?_ fun b hb _=>by show b≠P+1+1;omega
  rw[← hw5]
  exact((Keeps.refl _ w4).setCell (by simp) _).setCell (by simp) _
 have HG5:Hid (GreatI Sx w P (.cells #[.func (.func of) #[] caps] 208) (bO ⟨#[]⟩ ⟨#[]⟩ ⟨#[]⟩ ⟨#[]⟩) ⟨#[48]⟩ ⟨#[49]⟩ false w5):=
  ⟨hk5,(o5 P (by omega)).trans (HX.block 0 rfl rfl),(o5 _ (by omega)).trans (HX.block 1 rfl rfl),by rw[← hw5];exact ZM (HX.block 2 (b:=P+1+1) rfl rfl) _ _,(o5 _ (by omega)).trans (HX.block 3 (b:=P+1+1+1) rfl rfl)⟩
 have hkB:Keeps (fun b=>b<w.heap.size) w w5:=by
  rw[← hw5,← hw4]
  exact((((((Keeps.refl _ w).alloc _).alloc _).alloc _).alloc _).setCell (by show ¬ P+1+1<w.heap.size;omega) _).setCell (by show ¬ P+1+1<w.heap.size;omega) _
 have hD:w5.heap.size=P+4:=by rw[← hw5];simp[hs4]
 rw[hw5]
 clear hw5 o5 z0 z1 c0 c1 f0 f1 HX hk4 hs4 hw4
 refine(wpIn_wide (n:=9)).1 ?_
 refine ZcT (P+4) hD (gf:=gf) (lb:=lb) (f:=fun k=>#[bV (e k)]) (N:=N) (S:=fun x=>x<P∧Sx x) (T:=fun _=>True)
  rfl HGF.out (fun _=>rfl) ?iter (fun _ h=>by omega) ⟨trivial,trivial⟩
  (ZhU Sx w P (.cells #[.func (.func of) #[] caps] 208) (ZgK e) g J) (fun _ _ _=>False) ?ci ?cx ?start
  (BoxZ e (P+6) ?a1) ?cb ?assign ?body ?done ?stop
 case iter=>
  have:=HIT.out _ hk5
  rwa [hP] at this
 case ci=>
  rintro k W1 W2 ⟨r,m,x,y,h1,h2,h3,h4⟩ hk
  exact⟨r,m,x,y,h1,h2,h3.keep hP.symm hk (fun b hb _=>⟨trivial,by omega,by omega⟩) ⟨⟨trivial,by omega,by omega⟩,⟨trivial,by omega,by omega⟩,⟨trivial,by omega,by omega⟩,⟨trivial,by omega,by omega⟩⟩,
   HJ.out _ _ _ h4 (hk.mono fun b _ hb=>⟨trivial,by omega,by omega⟩)⟩
 case cx=>exact fun _ _ _ _ h _=>h
 case start=>
  exact⟨none,0,_,_,Best.zero g,ZP,HG5.out,HK5.out _ hkB⟩
 case cb=>
  rintro k a' W1 W2 ⟨A,h1,h2,h3⟩ hk
  exact⟨A,h1,h2,hk.at h3 ⟨by omega,by omega⟩⟩
 case assign=>
  intro l k W hk hW
  gi_wp2
  have h1:(W.alloc (bObj (e k))).heap[W.heap.size]?=some (bObj (e k)):=World.alloc_heap_new W _
  have hkk:Keeps (fun _=>True) W (W.alloc (bObj (e k))):=(Keeps.refl _ W).alloc _
  obtain⟨V,hV⟩:∃ V,W.alloc (bObj (e k))=V:=⟨_,rfl⟩
  rw[hV] at h1 hkk
  obtain⟨A,hA⟩:∃ A,W.heap.size=A:=⟨_,rfl⟩
  rw[hA] at h1
  simp only[hV,hA]
  refine⟨hkk,A,by omega,?_,h1⟩
  clear hkk h1 hV hA hW
  exact rfl
 case body=>
  have hfn:∀ k,Fence.wide.fn k:=fun _=>trivial
  rintro l k a' W hk ⟨r,m,x,y,hB,hI,hG,hJk⟩ ⟨A,hA,rfl,hA0⟩ hW
  have hcall:=HC.out k hk W hG.base hJk
  obtain⟨⟨⟨s0,s1⟩,s2,s3⟩,hst⟩:∃ z,e k=z:=⟨_,rfl⟩
  have HST:=Lib.hid hst
  rw[hst] at hA0 hcall
  try dsimp only at hA0 hcall
  try rw[hst]
  try dsimp only
  have HB:=Lib.hid hB
  have HI:=Lib.hid hI
  have HG:=Lib.hid hG
  have HCL:=Lib.hid hcall
  have HA0:=Lib.hid hA0
  have a0:W.cell? ⟨A,0,none⟩=some (.string s0):=Za hA0 0 rfl
  have a1:W.cell? ⟨A,1,none⟩=some (.string s1):=Za hA0 1 rfl
  have a2:W.cell? ⟨A,2,none⟩=some (.string s2):=Za hA0 2 rfl
  have a3:W.cell? ⟨A,3,none⟩=some (.string s3):=Za hA0 3 rfl
  have p0:W.cell? ⟨P,0,none⟩=some (.func (.func of) #[] caps):=Za hG.b0 0 rfl
  clear hB hI hG hJk hcall hA0 hst
  gi_wp2_with fail
  refine(CallsIn.inRound l (callsIn_wide.2 HCL.out)).mono ?_
  rintro e' V ⟨x2,y2,rfl,hx2,hkV,hJV⟩
  have HX2:=Lib.hid hx2
  have HJV:=Lib.hid hJV
  have HKV:=Lib.hid hkV
  have HGV:=Lib.hid (HG.out.keep hP.symm hkV (fun b _ hs=>hs) ⟨HUP.out _ (by omega),HUP.out _ (by omega),HUP.out _ (by omega),HUP.out _ (by omega)⟩)
  have HAV:=Lib.hid (hkV.at HA0.out (HUP.out _ (by omega)))
  clear hx2 hJV hkV a0 a1 a2 a3 p0
  have c0:(V.alloc (pObj x2 y2)).cell? ⟨V.heap.size,0,none⟩=some (.string x2):=ZC _ _ _ 0 rfl
  have c1:(V.alloc (pObj x2 y2)).cell? ⟨V.heap.size,1,none⟩=some (.string y2):=ZC _ _ _ 1 rfl
  have HG1:Hid (GreatI Sx w P (.cells #[.func (.func of) #[] caps] 208) (ZgK e r) x y r.isSome (V.alloc (pObj x2 y2))):=HGV.out.keep (S:=fun _=>True) hP.symm ((Keeps.refl _ V).alloc _) (fun _ _ _=>trivial) ⟨trivial,trivial,trivial,trivial⟩
  have d0:=Za HG1.out.b2 0 (v:=.string x) rfl
  have d1:=Za HG1.out.b2 1 (v:=.string y) rfl
  obtain⟨n,hn⟩:∃ n,sgnR (g k) m=n:=⟨_,rfl⟩
  gi_wp2_with fail
  refine(CallsIn.inRound l (callsIn_wide.2 (ZaU HX2.out HI.out hn _))).mono ?_
  rintro e' V2 ⟨rfl,hb⟩
  obtain⟨g8,hg8⟩:∃ g,V.heap.size=g:=⟨_,rfl⟩
  have h8:V2.heap[g8]?=some (pObj x2 y2):=by
   rw[← hg8]
   exact(hb.block _ (by simp)).trans (World.alloc_heap_new V _)
  have hkA:Keeps Sx V (V.alloc (pObj x2 y2)):=(Keeps.refl _ V).alloc _
  have hkJ:Keeps (fun b=>b<w.heap.size) V V2:=((Keeps.refl _ V).alloc _).trans (hb.keepsS _)
  have HK2:=Lib.hid (HKV.out.trans (hkA.trans (hb.keepsS Sx)))
  have HA2:=Lib.hid ((hkA.trans (hb.keepsS Sx)).at HAV.out (HUP.out _ (by omega)))
  have HG2:=Lib.hid (HG1.out.keep hP.symm (hb.keepsS (fun _=>True)) (fun _ _ _=>trivial) ⟨trivial,trivial,trivial,trivial⟩)
  have HJ2:=Lib.hid (HJ.out _ _ _ HJV.out hkJ)
  have H8:=Lib.hid h8
  have HRE:Hid (∀ b,((b<P∧Sx b)∨b=P+4∨b=P+4+1)→Sx b):=fun b hs=>by
   rcases hs with ⟨_,h⟩ | h | h
   ·exact h
   ·exact HUP.out _ (by omega)
   ·exact HUP.out _ (by omega)
  have hPg:P+6≤g8:=by
   rw[← hg8]
   exact Nat.le_trans hW HKV.out.size
  clear c0 c1 d0 d1 hb hkA hkJ h8 HG1 HGV HAV HJV
  by_cases hlt:m<g k
  ·have hge:(0:Int)<n:=by rw[← hn];exact Zcu (Rat.not_le.2 hlt)
   have HBU:=Lib.hid (HB.out.up hlt)
   clear hn hlt
   gi_wp2
   obtain⟨q0,q1,q2,q3,hab⟩:∃ a b c d,ZgK e r=bO a b c d:=by cases r<;>exact⟨_,_,_,_,rfl⟩
   refine Zab [(true,0),(true,1),(false,2),(false,3),(false,4)] (fun W'=>W'.heap[A]?=some (bO s0 s1 s2 s3)∧W'.heap[g8]?=some (pObj x2 y2)) (fun _=>false)
    (by kernel_rfl) (by kernel_rfl) (fun _ _=>rfl) (fun _ _ o _ _ h=>by cases o<;>exact h) (fun _ _ h=>h) ⟨HA2.out,H8.out⟩ ?_
   have b1:V2.drew.heap[P+1]?=some (bO q0 q1 q2 q3):=by rw[← hab];exact HG2.out.b1
   have b2:V2.drew.heap[P+1+1]?=some (pObj x y):=HG2.out.b2
   have b3:V2.drew.heap[P+1+1+1]?=some (flO r.isSome):=HG2.out.b3
   have b0:V2.drew.heap[P]?=some (.cells #[.func (.func of) #[] caps] 208):=HG2.out.b0
   have bA:V2.drew.heap[A]?=some (bO s0 s1 s2 s3):=HA2.out
   have b8:V2.drew.heap[g8]?=some (pObj x2 y2):=H8.out
   have HKD:Hid (Keeps Sx W V2.drew):=HK2.out.drew
   have HKW:Hid (Keeps Sx w V2.drew):=HG2.out.base.drew
   have HJD:Hid (J (k+1) V2.drew):=HJ.out _ _ _ HJ2.out (Keeps.refl _ V2).drew
   obtain⟨V3,hV3⟩:∃ z,V2.drew=z:=⟨_,rfl⟩
   rw[hV3] at b0 b1 b2 b3 bA b8 HKD HKW HJD ⊢
   clear hV3 HK2 HG2 HJ2 hab
   iterate 2
    refine Zi _ rfl rfl (fun w' hS=>by obtain⟨h1,h2⟩:=hS;have a0:=Za h1 0 (v:=.string s0) rfl;have a1:=Za h1 1 (v:=.string s1) rfl;have a2:=Za h1 2 (v:=.string s2) rfl;have a3:=Za h1 3 (v:=.string s3) rfl;have e0:=Za h2 0 (v:=.string x2) rfl;have e1:=Za h2 1 (v:=.string y2) rfl;go_simp;rfl) ?_
    simp only[Znc,Znd,Zne,Act.put,Znf,Zng,Znh]
   have c0:=Za b1 0 (v:=.string q0) rfl
   have c1:=Za b1 1 (v:=.string q1) rfl
   have c2:=Za b1 2 (v:=.string q2) rfl
   have c3:=Za b1 3 (v:=.string q3) rfl
   have f0:=Zb b1 0
   have f1:=Zb b1 1
   have f2:=Zb b1 2
   have f3:=Zb b1 3
   refine Ze rfl rfl fun K hK=>?_
   go_simp
   obtain⟨V4,hV4⟩:∃ z,(((V3.setCell ⟨P+1,0,none⟩ (.string s0)).setCell ⟨P+1,1,none⟩ (.string s1)).setCell ⟨P+1,2,none⟩ (.string s2)).setCell ⟨P+1,3,none⟩ (.string s3)=z:=⟨_,rfl⟩
   have o4:∀ j,j≠P+1→V4.heap[j]?=V3.heap[j]?:=fun j hj=>by rw[← hV4];exact(((Below.heap_setCell _ _ _ _ hj).trans (Below.heap_setCell _ _ _ _ hj)).trans (Below.heap_setCell _ _ _ _ hj)).trans (Below.heap_setCell _ _ _ _ hj)
   have d1:V4.heap[P+1]?=some (bO s0 s1 s2 s3):=by rw[← hV4];exact Joins.block_setCell (Joins.block_setCell (Joins.block_setCell (Joins.block_setCell b1 _) _) _) _
   have k4:Keeps (fun b=>b≠P+1) V3 V4:=by rw[← hV4];exact((((Keeps.refl _ V3).setCell (by simp) _).setCell (by simp) _).setCell (by simp) _).setCell (by simp) _
   rw[hV4]
   refine hK _ _ (.inr ⟨(o4 _ (by omega)).trans bA,(o4 _ (by omega)).trans b8⟩) ?_
   clear hK K hV4 c0 c1 c2 c3 f0 f1 f2 f3 b1
   have b0:=(o4 _ (by omega)).trans b0
   have b2:=(o4 _ (by omega)).trans b2
   have b3:=(o4 _ (by omega)).trans b3
   have bA:=(o4 _ (by omega)).trans bA
   have b8:=(o4 _ (by omega)).trans b8
   have c0:=Za b2 0 (v:=.string x) rfl
   have c1:=Za b2 1 (v:=.string y) rfl
   have f0:=Zb b2 0
   have f1:=Zb b2 1
   refine Ze rfl rfl fun K hK=>?_
   go_simp
   obtain⟨V5,hV5⟩:∃ z,(V4.setCell ⟨P+1+1,0,none⟩ (.string x2)).setCell ⟨P+1+1,1,none⟩ (.string y2)=z:=⟨_,rfl⟩
   have o5:∀ j,j≠P+1+1→V5.heap[j]?=V4.heap[j]?:=fun j hj=>by rw[← hV5];exact(Below.heap_setCell _ _ _ _ hj).trans (Below.heap_setCell _ _ _ _ hj)
   have d2:V5.heap[P+1+1]?=some (pObj x2 y2):=by rw[← hV5];exact ZM b2 _ _
   have k5:Keeps (fun b=>b≠P+1+1) V4 V5:=by rw[← hV5];exact((Keeps.refl _ V4).setCell (by simp) _).setCell (by simp) _
   rw[hV5]
   refine hK _ _ (.inr ⟨(o5 _ (by omega)).trans bA,(o5 _ (by omega)).trans b8⟩) ?_
   clear hK K hV5 c0 c1 f0 f1 b2
   have b0:=(o5 _ (by omega)).trans b0
   have d1:=(o5 _ (by omega)).trans d1
   have b3:=(o5 _ (by omega)).trans b3
   have bA:=(o5 _ (by omega)).trans bA
   have b8:=(o5 _ (by omega)).trans b8
   have c0:=Za b3 0 (v:=.bool r.isSome) rfl
   have f0:=Zb b3 0
   refine Ze rfl rfl fun K hK=>?_
   go_simp
   obtain⟨V6,hV6⟩:∃ z,V5.setCell ⟨P+1+1+1,0,none⟩ (.bool true)=z:=⟨_,rfl⟩
   have o6:∀ j,j≠P+1+1+1→V6.heap[j]?=V5.heap[j]?:=fun j hj=>by rw[← hV6];exact Below.heap_setCell _ _ _ _ hj
   have d3:V6.heap[P+1+1+1]?=some (flO true):=by rw[← hV6];exact Joins.block_setCell b3 _
   have k6:Keeps (fun b=>b≠P+1+1+1) V5 V6:=by rw[← hV6];exact(Keeps.refl _ V5).setCell (by simp) _
   rw[hV6]
   refine hK _ _ (.inr ⟨(o6 _ (by omega)).trans bA,(o6 _ (by omega)).trans b8⟩) ?_
   clear hK K hV6 c0 f0 b3
   have HKK:Hid (∀ (S:Nat→Prop),¬ S (P+1)→¬ S (P+1+1)→¬ S (P+1+1+1)→Keeps S V3 V6):=fun S h1 h2 h3=>
    (((k4.mono fun b _ hb e=>h1 (e ▸ hb)).trans (k5.mono fun b _ hb e=>h2 (e ▸ hb))).trans (k6.mono fun b _ hb e=>h3 (e ▸ hb)))
   have HG6:Hid (GreatI Sx w P (.cells #[.func (.func of) #[] caps] 208) (ZgK e (some k)) x2 y2 true V6):=
    ⟨HKW.out.via (HKK.out (fun b=>b<P) (by omega) (by omega) (by omega)) (fun b hb _=>by omega),(o6 _ (by omega)).trans b0,by show V6.heap[P+1]?=some (bObj (e k));rw[HST.out];exact(o6 _ (by omega)).trans d1,(o6 _ (by omega)).trans d2,d3⟩
   have HJ6:Hid (J (k+1) V6):=HJ.out _ _ _ HJD.out (HKK.out _ (by omega) (by omega) (by omega))
   have HKE:Hid (Keeps (fun b=>(b<P∧Sx b)∨b=P+4∨b=P+4+1) W V6):=(HKD.out.mono fun b _ hs=>HRE.out b hs).trans (HKK.out _ (by omega) (by omega) (by omega))
   clear o4 o5 o6 k4 k5 k6 d1 d2 d3 b0 bA b8
   refine Zt ?_
   gi_wp2
   exact⟨HKE.out,some k,g k,x2,y2,HBU.out,HX2.out,HG6.out,HJ6.out⟩
  ·have hge:¬ (0:Int)<n:=by rw[← hn];exact Zct (Rat.not_lt.1 hlt)
   have HBU:=Lib.hid (HB.out.keep (Rat.not_lt.1 hlt))
   clear hn hlt
   gi_wp2
   exact⟨HK2.out.mono fun b _ hs=>HRE.out b hs,r,m,x,y,HBU.out,HI.out,HG2.out,HJ2.out⟩
 case done=>
  rintro W ⟨r,m,x,y,hB,hI,hG,hJk⟩ hdef
  obtain⟨q0,q1,q2,q3,hab,hae⟩:∃ a b c d,ZgK e r=bO a b c d∧ZjZ e r=.agg #[.string a,.string b,.string c,.string d]:=by cases r<;>exact⟨_,_,_,_,rfl,rfl⟩
  obtain⟨ok,hok⟩:∃ z,r.isSome=z:=⟨_,rfl⟩
  rw[hab,hok] at hG
  have HB:=Lib.hid hB
  have HI:=Lib.hid hI
  have HJN:=Lib.hid hJk
  have HAE:=Lib.hid hae
  have HOK:=Lib.hid hok
  clear hB hI hJk hab hae hok
  go_wp2
  refine ZQ [(true,0),(true,1),(true,2),(false,3),(false,4),(false,5)] (fun W'=>W'.heap[P+1]?=some (bO q0 q1 q2 q3)∧W'.heap[P+1+1]?=some (pObj x y)∧W'.heap[P+1+1+1]?=some (flO ok)) (fun _=>false)
   (by kernel_rfl) (by kernel_rfl) (fun _ _=>rfl) (fun _ _ o _ _ h=>by cases o<;>exact h) ⟨hG.b1,hG.b2,hG.b3⟩ ?_
  have b1:W.drew.heap[P+1]?=some (bO q0 q1 q2 q3):=hG.b1
  have b2:W.drew.heap[P+1+1]?=some (pObj x y):=hG.b2
  have b3:W.drew.heap[P+1+1+1]?=some (flO ok):=hG.b3
  have bd:W.drew.heap[P+4]?=some (.deferred (some [])):=hdef
  have HKW:Hid (Keeps Sx w W.drew):=hG.base.drew
  have HJD:Hid (J N W.drew):=HJ.out _ _ _ HJN.out (Keeps.refl _ W).drew
  obtain⟨V3,hV3⟩:∃ z,W.drew=z:=⟨_,rfl⟩
  rw[hV3] at b1 b2 b3 bd HKW HJD ⊢
  clear hV3 hG hdef HJN
  iterate 3
   refine Zi _ rfl rfl (fun w' hS=>by obtain⟨h1,h2,h3⟩:=hS;have a0:=Za h1 0 (v:=.string q0) rfl;have a1:=Za h1 1 (v:=.string q1) rfl;have a2:=Za h1 2 (v:=.string q2) rfl;have a3:=Za h1 3 (v:=.string q3) rfl;have e0:=Za h2 0 (v:=.string x) rfl;have e1:=Za h2 1 (v:=.string y) rfl;have e2:=Za h3 0 (v:=.bool ok) rfl;go_simp;rfl) ?_
   simp only[Znc,Znd,Zne,Act.put,Znf,Zng,Znh]
  have c0:=Za b1 0 (v:=.string q0) rfl
  have c1:=Za b1 1 (v:=.string q1) rfl
  have c2:=Za b1 2 (v:=.string q2) rfl
  have c3:=Za b1 3 (v:=.string q3) rfl
  have f0:=Zb b1 0
  have f1:=Zb b1 1
  have f2:=Zb b1 2
  have f3:=Zb b1 3
  refine Ze rfl rfl fun K hK=>?_
  go_simp
  obtain⟨V4,hV4⟩:∃ z,(((V3.setCell ⟨P+1,0,none⟩ (.string q0)).setCell ⟨P+1,1,none⟩ (.string q1)).setCell ⟨P+1,2,none⟩ (.string q2)).setCell ⟨P+1,3,none⟩ (.string q3)=z:=⟨_,rfl⟩
  have o4:∀ j,j≠P+1→V4.heap[j]?=V3.heap[j]?:=fun j hj=>by rw[← hV4];exact(((Below.heap_setCell _ _ _ _ hj).trans (Below.heap_setCell _ _ _ _ hj)).trans (Below.heap_setCell _ _ _ _ hj)).trans (Below.heap_setCell _ _ _ _ hj)
  have d1:V4.heap[P+1]?=some (bO q0 q1 q2 q3):=by rw[← hV4];exact Joins.block_setCell (Joins.block_setCell (Joins.block_setCell (Joins.block_setCell b1 _) _) _) _
  have k4:Keeps (fun b=>b≠P+1) V3 V4:=by rw[← hV4];exact((((Keeps.refl _ V3).setCell (by simp) _).setCell (by simp) _).setCell (by simp) _).setCell (by simp) _
  rw[hV4]
  have b2:=(o4 _ (by omega)).trans b2
  have b3:=(o4 _ (by omega)).trans b3
  refine hK _ _ (.inr ⟨d1,b2,b3⟩) ?_
  clear hK K hV4 c0 c1 c2 c3 f0 f1 f2 f3 b1
  have bd:=(o4 _ (by omega)).trans bd
  have c0:=Za b2 0 (v:=.string x) rfl
  have c1:=Za b2 1 (v:=.string y) rfl
  have f0:=Zb b2 0
  have f1:=Zb b2 1
  refine Ze rfl rfl fun K hK=>?_
  go_simp
  obtain⟨V5,hV5⟩:∃ z,(V4.setCell ⟨P+1+1,0,none⟩ (.string x)).setCell ⟨P+1+1,1,none⟩ (.string y)=z:=⟨_,rfl⟩
  have o5:∀ j,j≠P+1+1→V5.heap[j]?=V4.heap[j]?:=fun j hj=>by rw[← hV5];exact(Below.heap_setCell _ _ _ _ hj).trans (Below.heap_setCell _ _ _ _ hj)
  have d2:V5.heap[P+1+1]?=some (pObj x y):=by rw[← hV5];exact ZM b2 _ _
  have k5:Keeps (fun b=>b≠P+1+1) V4 V5:=by rw[← hV5];exact((Keeps.refl _ V4).setCell (by simp) _).setCell (by simp) _
  rw[hV5]
  have d1:=(o5 _ (by omega)).trans d1
  have b3:=(o5 _ (by omega)).trans b3
  refine hK _ _ (.inr ⟨d1,d2,b3⟩) ?_
  clear hK K hV5 c0 c1 f0 f1 b2
  have bd:=(o5 _ (by omega)).trans bd
  have c0:=Za b3 0 (v:=.bool ok) rfl
  have f0:=Zb b3 0
  refine Ze rfl rfl fun K hK=>?_
  go_simp
  obtain⟨V6,hV6⟩:∃ z,V5.setCell ⟨P+1+1+1,0,none⟩ (.bool ok)=z:=⟨_,rfl⟩
  have o6:∀ j,j≠P+1+1+1→V6.heap[j]?=V5.heap[j]?:=fun j hj=>by rw[← hV6];exact Below.heap_setCell _ _ _ _ hj
  have d3:V6.heap[P+1+1+1]?=some (flO ok):=by rw[← hV6];exact Joins.block_setCell b3 _
  have k6:Keeps (fun b=>b≠P+1+1+1) V5 V6:=by rw[← hV6];exact(Keeps.refl _ V5).setCell (by simp) _
  rw[hV6]
  have d1:=(o6 _ (by omega)).trans d1
  have d2:=(o6 _ (by omega)).trans d2
  refine hK _ _ (.inr ⟨d1,d2,d3⟩) ?_
  clear hK K hV6 c0 f0 b3
  have bd:=(o6 _ (by omega)).trans bd
  have k9:Keeps (fun b=>b<P) V3 (V6.putObj (P+4) (.deferred none)):=
   (((k4.mono fun b _ (hb:b<P)=>(by omega)).trans (k5.mono fun b _ (hb:b<P)=>(by omega))).trans (k6.mono fun b _ (hb:b<P)=>(by omega))).putObj (by show ¬ P+4<P;omega) _
  have HKE:Hid (Keeps Sx w (V6.putObj (P+4) (.deferred none))):=HKW.out.via k9 fun b hb _=>by omega
  have HJE:Hid (J N (V6.putObj (P+4) (.deferred none))):=HJ.out _ _ _ HJD.out (by rw[HPP.out];exact k9)
  have k4':∀ {g:Nat} {o:Obj},g≠P+4→V6.heap[g]?=some o→(V6.putObj (P+4) (.deferred none)).heap[g]?=some o:=fun hg h=>(World.putObj_heap_other hg).trans h
  have g1:=k4' (by omega) d1
  have g2:=k4' (by omega) d2
  have g3:=k4' (by omega) d3
  clear o4 o5 o6 k4 k5 k6 k9 d1 d2 d3 k4'
  refine Zt ?_
  go_wp2
  unfold Calm bodyPostM
  refine⟨by simp,.inl ⟨_,_,rfl,run_takeDeferred bd,?_⟩⟩
  have c0:=Za g1 0 (v:=.string q0) rfl
  have c1:=Za g1 1 (v:=.string q1) rfl
  have c2:=Za g1 2 (v:=.string q2) rfl
  have c3:=Za g1 3 (v:=.string q3) rfl
  have d0:=Za g2 0 (v:=.string x) rfl
  have d1:=Za g2 1 (v:=.string y) rfl
  have f0:=Za g3 0 (v:=.bool ok) rfl
  refine⟨.tuple #[.agg #[.string q0,.string q1,.string q2,.string q3],pV x y,.bool ok],?_,r,m,x,y,by rw[HAE.out,HOK.out],HB.out,HI.out,HKE.out,HJE.out⟩
  simp[results,Tryz.f170,go_sem,c0,c1,c2,c3,d0,d1,f0]
 case stop=>exact fun _ _ _ _ h _=>h.elim
end Go.Proofs.YtmpaflidennnoaaGreatDoor
