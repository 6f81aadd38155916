/- The parts EPrices, EPricesW, EPricesX of a proof, put together by program (merge7.py). -/
import Derived.Test.YtmpaflidennnoaaGreatDoorH01
import Derived.Test.YtmpaflidennnoaaGreatDoorH24
import Derived.Test.YtmpaflidennnoaaGreatDoorK003
import Derived.Test.YtmpaflidennnoaaGreatDoorH26
set_option maxRecDepth 100000
set_option maxHeartbeats 4000000
set_option linter.unusedVariables false
set_option linter.unusedSimpArgs false
namespace Go.Proofs.YtmpaflidennnoaaGreatDoor
open Go.RowKit Go.Shelf
attribute [local go_sem ↓] Go.wp_at_zero Go.wp_at_succ
theorem Env.bareG {B:Nat} {w0 w:World} {bs:List (Nat×Obj)} {ps:List SP} {ob:Obj} {g:Option Nat} (h:Env B w0 (Zef ob bs g) ps w):Env B w0 bs ps w:=by
 cases g with
 | none=>exact h
 | some g=>exact h.tail
theorem Zjc {t:TaskP} {p:List (List Int)} {b m Gw Gu:Nat} {sv hv rv pv:Value} {pb po pc:Nat} {gq gp gc:Nat→Nat} {w:World} (h:WorkW t b m sv hv rv pv w) (hP:PlanW p t.sites.length m pv pb po pc gq gp gc w) (ok:TaskOk t) (inn:ZaV t p)
  {u i:Nat} (hu:u<t.rates.length) (hi:i<t.sites.length) (h1:w.heap[Gw]?=some (wkO b)) (h2:w.heap[Gu]?=some (iO u)) :
  Calls Tryz.prog 136 #[.int .i64 i,.pointer (some ⟨Gw,0,none⟩),.pointer (some ⟨Gu,0,none⟩)] w (fun e w'=>∃ x y,e=.returned (pV x y)∧IsP (priF t p u i) x y∧Below w.heap.size w w'):=by
 obtain⟨sb,so,sc,hb,ho,hc,rb,ro,rk,cv,rq,rp,rc,k1,k2,k3,hA⟩:=h.open ok
 obtain⟨N,hN⟩:∃ n,t.sites.length=n:=⟨_,rfl⟩
 obtain⟨T,hT⟩:∃ n,t.rates.length=n:=⟨_,rfl⟩
 obtain⟨cp,cl,cc,hcv⟩:∃ cp cl cc,cv i=.slice cp cl cc:=by
  obtain⟨_,_,_,p,c,h,_⟩:=(hA w (Keeps.refl _ _)).at'.site i hi
  exact⟨_,_,_,h⟩
 have HS:Hid (∀ V,Below w.heap.size w V→(V.cell? ⟨Gw,0,none⟩=some (.pointer (some ⟨b,0,none⟩))∧V.cell? ⟨Gu,0,none⟩=some (.int .i64 u))∧(V.cell? ⟨b,0,none⟩=some (.slice (some ⟨sb,so,none⟩) N sc)∧V.cell? ⟨sb,so+i*3,none⟩=some (.string (eS t i).weight.1)∧V.cell? ⟨sb,so+i*3+1,none⟩=some (.string (eS t i).weight.2)∧V.cell? ⟨sb,so+i*3+2,none⟩=some (.slice cp cl cc)∧BL V (.slice cp cl cc) (eS t i).curve)∧
   (V.cell? ⟨b,2,none⟩=some (.slice (some ⟨rb,ro,none⟩) T rk)∧V.cell? ⟨rb,ro+u,none⟩=some (.slice (some ⟨rq u,rp u,none⟩) N (rc u))∧V.cell? ⟨rq u,rp u+i*2,none⟩=some (.string (eR t u i).1)∧V.cell? ⟨rq u,rp u+i*2+1,none⟩=some (.string (eR t u i).2))∧DetV V∧Tabs V):=fun V hV=>by
  have A:=hA V (hV.keepsS _)
  obtain⟨a0,a1,a2,a3⟩:=A.at'.site i hi
  obtain⟨b0,_,_,b1⟩:=A.at'.rate u hu
  rw[hN] at b0
  rw[hcv] at a2 a3
  exact⟨⟨Za ((hV.block _ (Array.getElem?_eq_some_iff.1 h1).1).trans h1) 0 rfl,Za ((hV.block _ (Array.getElem?_eq_some_iff.1 h2).1).trans h2) 0 rfl⟩,⟨by rw[← hN];exact A.w0,a0,a1,a2,a3⟩,⟨by rw[← hT];exact A.w2,b0,b1 i hi⟩,A.at'.det,A.at'.tabs⟩
 have HCV:Hid (∀ V,Below w.heap.size w V→Calls Tryz.prog 71 #[.pointer (some ⟨b,0,none⟩),.int .i64 i] V (fun e w'=>∃ x y,e=.returned (pV x y)∧IsP (covR t p i) x y∧Below V.heap.size V w')):=fun V hV=>
  Zez (h.keep (hV.keepsS _)) (hP.keep (hV.keepsS _)) ok inn hi
 have hC:=(ok.site i hi).2
 have HC:=Lib.hid hC
 obtain⟨⟨xs,ys,hxs⟩,_,_⟩:=Zij hC (covR t p i)
 have HXS:=Lib.hid hxs
 have HSL:=Lib.hid (Zgu hC (covR t p i))
 obtain⟨⟨⟨xw,yw,hxw⟩,xp,yp,hxp⟩,_,_⟩:=Zf5 (p:=p) ok hu hi
 have HXW:=Lib.hid hxw
 have HXP:=Lib.hid hxp
 have HZC:Hid (Sz 300 (covR t p i)):=(Zcw ok inn hi (Nat.le_refl _)).2.1.mono (by decide)
 have HWR:Hid (IsP (wR t i) (eS t i).weight.1 (eS t i).weight.2):=(Zco ok hi).1
 have HRR:Hid (IsP (rR t u i) (eR t u i).1 (eR t u i).2):=(ZcF ok hu hi).1
 have hsc:N≤sc∧sc≤9223372036854775807:=by rw[← hN];exact k1
 have hrk:T≤rk∧rk≤9223372036854775807:=by rw[← hT];exact k3
 obtain⟨_,hrc1,hrc2,_⟩:=(hA w (Keeps.refl _ _)).at'.rate u hu
 rw[hN] at hi hrc1
 rw[hT] at hu
 obtain⟨q1,hq1⟩:∃ z,rq u=z:=⟨_,rfl⟩
 obtain⟨o1,ho1⟩:∃ z,rp u=z:=⟨_,rfl⟩
 obtain⟨c1,hc1⟩:∃ z,rc u=z:=⟨_,rfl⟩
 obtain⟨⟨s1,t1⟩,hs1⟩:∃ z,eR t u i=z:=⟨_,rfl⟩
 obtain⟨⟨s2,t2⟩,hs2⟩:∃ z,(eS t i).weight=z:=⟨_,rfl⟩
 rw[hq1,ho1,hc1,hs1,hs2] at HS
 rw[hc1] at hrc1 hrc2
 rw[hs1] at HRR
 rw[hs2] at HWR
 dsimp only at HS HRR HWR
 obtain⟨G,hG⟩:∃ G,w.heap.size=G:=⟨_,rfl⟩
 obtain⟨w1,hw1⟩:∃ z,w.alloc (pObj ⟨#[]⟩ ⟨#[]⟩)=z:=⟨_,rfl⟩
 have HE0:Hid (Env w.heap.size w [(G,pObj ⟨#[]⟩ ⟨#[]⟩)] [] w1):=by rw[← hw1];exact(Env.start w).push _ hG.symm
 clear h hP ok inn hA k1 k2 k3 hN hT hq1 ho1 hc1 hs1 hs2 h1 h2 hC hxs hxw hxp hcv
 have i0':(0:Int)≤(i:Int):=by omega
 have i1':(i:Int)<(N:Int):=by omega
 have u0':(0:Int)≤(u:Int):=by omega
 have u1':(u:Int)<(T:Int):=by omega
 go_enter Tryz.func136,Tryz.ntmps136
 go_wp2_with fail
 refine ZbE 16 5 [(0,17)] [(1,0),(1,1),(1,2),(1,3),(1,4),(1,5),(1,6),(1,7),(1,8),(1,9),(1,10),(0,11),(0,12),(1,13),(1,14),(0,15)] (fun _ g V=>Env w.heap.size w (Zef (pObj ⟨#[]⟩ ⟨#[]⟩) [(G,pObj ⟨#[]⟩ ⟨#[]⟩)] g) [] V) (fun i=>i==17)
  (by kernel_rfl) (by kernel_rfl) (fun j hj=>by have h:18≤j:=hj;simp;omega) (fun _ _ o _ _ h=>by cases o<;>exact h) rfl rfl (fun _=>rfl) (fun a V K hK=>by go_simp;exact hK) (fun j V h=>h.push _ rfl) HE0.out.drew ?_
 iterate 11
  refine ZI _ rfl (fun z=>rfl) (fun z j g w' hS=>by have hE:=hS.bareG;obtain⟨⟨e0,e1⟩,⟨a0,a1,a2,a3,_⟩,_⟩:=HS.out _ hE.base;simp only[Act.put,List.setIfInBounds_toArray,List.set_cons_zero,List.set_cons_succ];go_simp;first | rfl | (rw[if_pos (by omega)])) ?_
  simp only[Znc,Znd,Zne,Act.put,Znf,Zng,Znh]
 refine Zau 71 _ rfl (fun z=>rfl) (fun z w'=>by simp only[Act.put,List.setIfInBounds_toArray,List.set_cons_zero,List.set_cons_succ];go_simp;rfl) (fun g V hS=>?_)
 refine(HCV.out _ hS.bareG.base).mono ?_
 rintro e V' ⟨xc,yc,rfl,hxc,hb⟩
 have HXC:=Lib.hid hxc
 refine .inl ⟨_,rfl,hS.step hb,?_⟩
 clear hb hS hxc
 simp only[Znc,Znd,Zne,Act.put,Znf,Zng,Znh]
 refine Zau 137 _ rfl (fun z=>rfl) (fun z w'=>by simp only[Act.put,List.setIfInBounds_toArray,List.set_cons_zero,List.set_cons_succ];go_simp;rfl) (fun g V hS=>?_)
 refine(Zl3 (HS.out _ hS.bareG.base).2.1.2.2.2.2 HC.out HC.out.limB HXC.out HZC.out HSL.out HXS.out (HS.out _ hS.bareG.base).2.2.2.1 (HS.out _ hS.bareG.base).2.2.2.2).mono ?_
 rintro e V' ⟨rfl,hb⟩
 refine .inl ⟨_,rfl,hS.step hb,?_⟩
 clear hb hS
 simp only[Znc,Znd,Zne,Act.put,Znf,Zng,Znh]
 iterate 2
  refine ZI _ rfl (fun z=>rfl) (fun z j g w' hS=>by skip;simp only[Act.put,List.setIfInBounds_toArray,List.set_cons_zero,List.set_cons_succ];go_simp;first | rfl | (rw[if_pos (by omega)])) ?_
  simp only[Znc,Znd,Zne,Act.put,Znf,Zng,Znh]
 refine Zau 103 _ rfl (fun z=>rfl) (fun z w'=>by simp only[Act.put,List.setIfInBounds_toArray,List.set_cons_zero,List.set_cons_succ];go_simp;rfl) (fun g V hS=>?_)
 refine(Z4 xs ys _).mono ?_
 rintro e V' ⟨rfl,hb⟩
 refine .inl ⟨_,rfl,hS.step hb,?_⟩
 clear hb hS
 simp only[Znc,Znd,Zne,Act.put,Znf,Zng,Znh]
 refine ZaF fun g8 V hS=>?_
 simp only[Znc,Znd,Zne,Act.put,Znf,Zng,Znh]
 have HE8:Hid (Env w.heap.size w [(g8,pObj ⟨#[]⟩ ⟨#[]⟩),(G,pObj ⟨#[]⟩ ⟨#[]⟩)] [] V):=hS
 have r0:=HE8.out.cell 0 0 rfl rfl
 have r1:=HE8.out.cell 0 1 rfl rfl
 have f0:=HE8.out.free 0 0 rfl
 have f1:=HE8.out.free 0 1 rfl
 refine Zn rfl rfl fun K hK=>?_
 go_simp
 have HE9:=Lib.hid (HE8.out.fill (.string xs) (.string ys))
 refine hK _ _ (.inl rfl) ?_
 clear hK K r0 r1 f0 f1 HE8 HE0 hS
 refine Zq ?_
 obtain⟨Z,hZ⟩:∃ z,(V.setCell ⟨g8,0,none⟩ (.string xs)).setCell ⟨g8,1,none⟩ (.string ys)=z:=⟨_,rfl⟩
 rw[hZ] at HE9 ⊢
 clear hZ
 go_wp2_with fail
 refine ZG [(1,0),(1,1),(1,2),(1,3),(1,4),(1,5),(1,6),(1,7),(1,8),(1,9),(1,14),(1,15),(1,16),(1,17),(1,18),(1,19),(1,20),(1,21),(1,22),(1,23),(1,24),(0,10),(1,11),(1,12),(0,13),(0,25),(1,26),(1,27),(0,28),(0,29)] (Env w.heap.size w [(g8,pObj xs ys),(G,pObj ⟨#[]⟩ ⟨#[]⟩)] []) (fun i=>i==29)
  (by kernel_rfl) (by kernel_rfl) (fun j hj=>by have h:30≤j:=hj;simp;omega) (fun _ _ o _ _ h=>by cases o<;>exact h) HE9.out.drew ?_
 obtain⟨w5,hw5⟩:∃ z,Z.drew=z:=⟨_,rfl⟩
 have HE5:Hid (Env w.heap.size w [(g8,pObj xs ys),(G,pObj ⟨#[]⟩ ⟨#[]⟩)] [] w5):=by rw[← hw5];exact HE9.out.drew
 rw[hw5]
 clear hw5 HE9
 iterate 21
  refine Zc _ rfl rfl (fun w' hS=>by obtain⟨⟨e0,e1⟩,⟨a0,a1,a2,a3,_⟩,⟨b0,b1,b2,b3⟩,_⟩:=HS.out _ hS.base;have c0:=hS.cell 0 0 (v:=.string xs) rfl rfl;have c1:=hS.cell 0 1 (v:=.string ys) rfl rfl;go_simp;first | rfl | (rw[if_pos (by omega)])) ?_
  simp only[Znc,Znd,Zne,Act.put,Znf,Zng,Znh]
 refine Zl 119 _ rfl rfl (by go_simp;rfl) ?_
 have HEC:=HE5
 refine(Zcb HWR.out HXS.out HXW.out rfl _ (HS.out _ HEC.out.base).2.2.2.2).mono ?_
 rintro e w6 ⟨rfl,hb⟩
 have HE6:=Lib.hid (HEC.out.step hb)
 refine .inl ⟨_,rfl,HE6.out,?_⟩
 clear hb HEC
 simp only[Znc,Znd,Zne,Act.put,Znf,Zng,Znh]
 iterate 2
  refine Zc _ rfl rfl (fun w' hS=>by skip;go_simp;first | rfl | (rw[if_pos (by omega)])) ?_
  simp only[Znc,Znd,Zne,Act.put,Znf,Zng,Znh]
 refine Zl 103 _ rfl rfl (by go_simp;rfl) ?_
 have HEC:=HE6
 refine(Z4 xw yw _).mono ?_
 rintro e w7 ⟨rfl,hb⟩
 have HE7:=Lib.hid (HEC.out.step hb)
 refine .inl ⟨_,rfl,HE7.out,?_⟩
 clear hb HEC
 simp only[Znc,Znd,Zne,Act.put,Znf,Zng,Znh]
 refine Zl 119 _ rfl rfl (by go_simp;rfl) ?_
 have HEC:=HE7
 refine(Zcb HXW.out HRR.out HXP.out rfl _ (HS.out _ HEC.out.base).2.2.2.2).mono ?_
 rintro e w8 ⟨rfl,hb⟩
 have HE8:=Lib.hid (HEC.out.step hb)
 refine .inl ⟨_,rfl,HE8.out,?_⟩
 clear hb HEC
 simp only[Znc,Znd,Zne,Act.put,Znf,Zng,Znh]
 iterate 2
  refine Zc _ rfl rfl (fun w' hS=>by skip;go_simp;first | rfl | (rw[if_pos (by omega)])) ?_
  simp only[Znc,Znd,Zne,Act.put,Znf,Zng,Znh]
 refine Zl 103 _ rfl rfl (by go_simp;rfl) ?_
 have HEC:=HE8
 refine(Z4 xp yp _).mono ?_
 rintro e w9 ⟨rfl,hb⟩
 have HE9:=Lib.hid (HEC.out.step hb)
 refine .inl ⟨_,rfl,HE9.out,?_⟩
 clear hb HEC
 simp only[Znc,Znd,Zne,Act.put,Znf,Zng,Znh]
 have r0:=HE9.out.cell 1 0 (v:=.string ⟨#[]⟩) rfl rfl
 have r1:=HE9.out.cell 1 1 (v:=.string ⟨#[]⟩) rfl rfl
 have f0:=HE9.out.free 1 0 rfl
 have f1:=HE9.out.free 1 1 rfl
 refine Zn rfl rfl fun K hK=>?_
 go_simp
 refine hK _ _ (.inl rfl) ?_
 clear hK K
 refine Zq ?_
 have hgb:=HE9.out.block 1 rfl
 have HBB:Hid (Below w.heap.size w ((w9.setCell ⟨G,0,none⟩ (.string xp)).setCell ⟨G,1,none⟩ (.string yp))):=Zf HE9.out.base (by omega) _ _
 obtain⟨q0,q1'⟩:=Zh hgb (.string xp) (.string yp)
 clear r0 r1 f0 f1 hgb
 go_wp2
 exact bodyPost_ret (v:=pV xp yp) (by simp[results,Tryz.f136,go_sem,q0,q1']) rfl ⟨xp,yp,rfl,HXP.out,HBB.out⟩
end Go.Proofs.YtmpaflidennnoaaGreatDoor
namespace Go.Proofs.YtmpaflidennnoaaGreatDoor
open Go.RowKit Go.Shelf
attribute [local go_sem ↓] Go.wp_at_zero Go.wp_at_succ
attribute [local go_sem] Oper.semAt_some
theorem ZiA {N b Gw sc:Nat} {sp:Option Addr} {S:Nat→Prop} {w0:World} (hN24:N≤24)
  (hF:∀ V,Keeps S w0 V→V.cell? ⟨Gw,0,none⟩=some (.pointer (some ⟨b,0,none⟩))∧V.cell? ⟨b,0,none⟩=some (.slice sp N sc)) :
  Iter Tryz.prog 134 #[.pointer (some ⟨Gw,0,none⟩)] (fun k=>#[.int .i64 ((k:Nat):Int)]) N S (fun _=>True) w0:=by
 intro n l J Jx W hK hJ hJx hY h0
 have HFF:Hid (∀ V,Keeps S W V→V.cell? ⟨Gw,0,none⟩=some (.pointer (some ⟨b,0,none⟩))∧V.cell? ⟨b,0,none⟩=some (.slice sp N sc)):=fun V hV=>hF V (hK.trans hV)
 have HY:=Lib.hid hY
 have HJ:=Lib.hid hJ
 clear hF hY hJ hK
 obtain⟨a0,a1⟩:=HFF.out W (Keeps.refl _ _)
 refine callsIn_of_wp Tryz.func134 rfl trivial ?_ rfl
 simp only[Tryz.ntmps134,List.size_toArray,List.length_cons,List.length_nil,Nat.reduceAdd,Nat.reduceSub,Array.replicate_succ,Array.replicate_zero,List.push_toArray,List.append_toArray,List.nil_append,List.cons_append]
 gi_wp2
 clear a0 a1
 gi_loopw [10] (fun iv wr=>∃ i:Nat,iv=.int .i64 i∧i≤N∧J i wr∧Hid (Keeps S W wr)) (fun iv _=>N-(intOf iv).toNat)
 case atStart=>exact⟨0,rfl,Nat.zero_le _,h0,Keeps.refl _ _⟩
 case round=>
  obtain⟨i,rfl,hi,hJs,HN⟩:=hrel
  by_cases hlt:i<N
  ·have HLT:=Lib.hid hlt
   have hy:=HY.out i wr hlt hJs
   obtain⟨fn,tmps,assign,body,hy,hRR⟩:=hy
   gi_wp2
   refine⟨(fun h=>by cases h),hRR.mono ?_⟩
   rintro e W3 (⟨rfl,hJ3,hk3⟩ | ⟨rfl,hJx3⟩)
   ·have HN3:=Lib.hid (HN.out.trans hk3)
    clear hk3 hy hRR
    gi_wp2
    go_roundw
    case rel=>exact⟨i+1,by go_num,by omega,hJ3,HN3⟩
    case measure=>simp[intOf];omega
   ·clear hy hRR
    gi_wp2
    refine bodyPost_ret (results_none rfl _ _ _) rfl ?_
    exact⟨⟨_,rfl⟩,.inr ⟨_,HLT.out,hJx3⟩⟩
  ·obtain rfl:i=N:=by omega
   gi_wp2
   go_end0
   exact⟨⟨_,rfl⟩,.inl hJs⟩
theorem Zj0:(Tryz.prog.info? 41).map (fun i=>(i.zero,i.size,i.bytes))=some (some (.agg #[.string ⟨#[]⟩,.string ⟨#[]⟩]),2,32):=by kernel_rfl
theorem ZhK {t:TaskP} {p:List (List Int)} {b m Gw Gu:Nat} {sv hv rv pv:Value} {pb po pc:Nat} {gq gp gc:Nat→Nat} {w:World} (h:WorkW t b m sv hv rv pv w) (hP:PlanW p t.sites.length m pv pb po pc gq gp gc w) (ok:TaskOk t) (inn:ZaV t p)
  {u:Nat} (hu:u<t.rates.length) (h1:w.heap[Gw]?=some (wkO b)) (h2:w.heap[Gu]?=some (iO u)) :
  Calls Tryz.prog 135 #[.func (.func 134) #[] #[.pointer (some ⟨Gw,0,none⟩)],.func (.func 136) #[] #[.pointer (some ⟨Gw,0,none⟩),.pointer (some ⟨Gu,0,none⟩)]] w
   (fun e w'=>∃ r mx x y,e=.returned (.tuple #[numE (fun k=>(k:Int)) r,pV x y,.bool r.isSome])∧Best (priF t p u) t.sites.length r mx∧IsP mx x y∧Below w.heap.size w w'):=by
 obtain⟨sb,so,sc,hb,ho,hc,rb,ro,rk,cv,rq,rp,rc,k1,k2,k3,hA⟩:=h.open ok
 have all:∀ {V V':World} {S:Nat→Prop},Keeps (fun _=>True) V V'→Keeps S V V':=fun hk=>hk.mono fun _ _ _=>trivial
 refine(ZhJ (e:=fun k=>(k:Int)) (g:=priF t p u) (N:=t.sites.length) (Sx:=fun _=>True) (J:=fun _ _=>True)
  (enters_of Tryz.func134 (by kernel_rfl) rfl) (enters_of Tryz.func136 (by kernel_rfl) rfl)
  (fun _ _=>trivial) (fun _ _ _ _ _=>trivial) trivial (fun V hV=>(hA V (all hV)).at'.eff) (fun V hV=>?_) (fun k hk V hV _=>?_)).mono ?_
 ·refine ZiA (b:=b) (sp:=some ⟨sb,so,none⟩) (sc:=sc) ok.sites.2 (fun V' hV'=>?_)
  have hk:Keeps (fun _=>True) w V':=hV.via hV' fun x hx hs=>⟨hx,hs⟩
  exact⟨Za (hk.at h1 trivial) 0 rfl,(hA V' (all hk)).w0⟩
 ·refine(Zjc (h.keep (all hV)) (hP.keep (all hV)) ok inn hu hk (hV.at h1 trivial) (hV.at h2 trivial)).mono ?_
  rintro e w' ⟨x,y,he,hx,hb⟩
  exact⟨x,y,he,hx,hb.keepsS _,trivial⟩
 ·rintro e w' ⟨r,mx,x,y,he,hB,hx,hk,_⟩
  exact⟨r,mx,x,y,he,hB,hx,hk.below_of (fun _ _=>trivial) (Nat.le_refl _)⟩
theorem Zfx {t:TaskP} {p:List (List Int)} {b m:Nat} {sv hv rv pv:Value} {pb po pc:Nat} {gq gp gc:Nat→Nat} {w:World} (h:WorkW t b m sv hv rv pv w) (hP:PlanW p t.sites.length m pv pb po pc gq gp gc w) (ok:TaskOk t) (inn:ZaV t p) :
  Calls Tryz.prog 83 #[.pointer (some ⟨b,0,none⟩)] w (fun e w'=>∃ v qs,e=.returned v∧Za5 t p qs∧Own w' w.heap.size v qs∧Below w.heap.size w w'):=by
 obtain⟨sb,so,sc,hb,ho,hc,rb,ro,rk,cv,rq,rp,rc,k1,k2,k3,hA⟩:=h.open ok
 obtain⟨T,hT⟩:∃ n,t.hours.length=n:=⟨_,rfl⟩
 have hT8:=ok.teams
 rw[hT] at hT8
 obtain⟨i0,hi,hz0,hz1,hz2⟩:=info_parts Zj0
 have hmf:∀ (fn:Fn) (first cap:Array Value) (w:World),(Instr.makeFunc fn first cap).run Tryz.prog w=.ok (.func fn first cap) w:=fun _ _ _ _=>rfl
 obtain⟨G,hG⟩:∃ g,w.heap.size=g:=⟨_,rfl⟩
 have HG:=Lib.hid hG
 obtain⟨w1,hw1⟩:∃ z,w.alloc (wkO b)=z:=⟨_,rfl⟩
 have HE1:Hid (Env w.heap.size w [(G,wkO b)] [] w1):=by rw[← hw1];exact(Env.start w).push _ hG.symm
 have HW:Hid (∀ V,Below w.heap.size w V→WorkW t b m sv hv rv pv V∧PlanW p t.sites.length m pv pb po pc gq gp gc V∧V.cell? ⟨b,1,none⟩=some (.slice (some ⟨hb,ho,none⟩) T hc)):=fun V hV=>
  ⟨h.keep (hV.keepsS _),hP.keep (hV.keepsS _),by rw[← hT];exact(hA V (hV.keepsS _)).w1⟩
 have HOK:=Lib.hid (And.intro ok inn)
 have HTT:=Lib.hid hT
 clear h hP hA k1 k2 k3 ok inn hT
 go_enter Tryz.func83,Tryz.ntmps83
 have c0:=HE1.out.cell 0 0 (v:=.pointer (some ⟨b,0,none⟩)) rfl rfl
 have c1:=(HW.out _ HE1.out.base).2.2
 go_wp2_with fail
 clear c0 c1 hw1 hG
 obtain⟨B0,hB0⟩:∃ z,w1.heap.size=z:=⟨_,rfl⟩
 have HB0:=Lib.hid hB0
 have hGB:w.heap.size≤B0:=by rw[← hB0];exact HE1.out.base.size
 clear hB0
 go_loopw [3,15] (fun uv iv wr=>∃ (u:Nat) (qs:List PP),iv=.int .i64 u∧u≤T∧Hid (Own wr B0 uv qs)∧Hid (qs.length=u∧∀ j,j<u→∃ r m,Best (priF t p j) t.sites.length r m∧IsP m (qs.getD j (⟨#[]⟩,⟨#[]⟩)).1 (qs.getD j (⟨#[]⟩,⟨#[]⟩)).2)∧Hid (Below B0 w1 wr)) (fun _ iv _=>T-(intOf iv).toNat)
 case atStart=>exact⟨0,[],rfl,Nat.zero_le _,Own.nil _ _,⟨rfl,fun j hj=>absurd hj (Nat.not_lt_zero _)⟩,Below.refl _ _⟩
 case round=>
  obtain⟨u,qs,rfl,hu,HO,HQ,HW1⟩:=hrel
  have HE:=Lib.hid (HE1.out.after HW1.out (by rw[HB0.out];exact Nat.le_refl _))
  have hBw:B0≤wr.heap.size:=by rw[← HB0.out];exact HW1.out.size
  by_cases hlt:u<T
  ·obtain⟨Bu,hBu⟩:∃ g,wr.heap.size=g:=⟨_,rfl⟩
   obtain⟨w2,hw2⟩:∃ z,wr.alloc (iO u)=z:=⟨_,rfl⟩
   have HE2:Hid (Env w.heap.size w [(Bu,iO u),(G,wkO b)] [] w2):=by rw[← hw2];exact HE.out.push _ hBu.symm
   have HO2:Hid (Own w2 B0 u3 qs):=by rw[← hw2];exact HO.out.alloc _
   have HW2:Hid (Below B0 w1 w2):=by rw[← hw2];exact HW1.out.alloc hBw _
   go_wp2_with fail
   clear hw2 hBu
   refine(ZhK (HW.out _ HE2.out.base).1 (HW.out _ HE2.out.base).2.1 HOK.out.1 HOK.out.2 (u:=u) (by rw[HOK.out.1.rates,HTT.out];exact hlt) (HE2.out.block 1 rfl) (HE2.out.block 0 rfl)).mono ?_
   rintro e w3 ⟨r,mx,x,y,rfl,hB,hx,hb⟩
   have HB9:Hid (Best (priF t p u) t.sites.length r mx∧IsP mx x y):=⟨hB,hx⟩
   obtain⟨re,hre⟩:∃ z,numE (fun k=>(k:Int)) r=z:=⟨_,rfl⟩
   obtain⟨rbb,hrb⟩:∃ z,r.isSome=z:=⟨_,rfl⟩
   rw[hre,hrb]
   obtain⟨C,hC⟩:∃ g,w3.heap.size=g:=⟨_,rfl⟩
   obtain⟨V1,hV1⟩:∃ z,w3.alloc (pObj x y)=z:=⟨_,rfl⟩
   have HE3:Hid (Env w.heap.size w [(C,pObj x y),(Bu,iO u),(G,wkO b)] [] V1):=by rw[← hV1];exact(HE2.out.step hb).push _ hC.symm
   have hs2:B0≤w2.heap.size:=by rw[← HB0.out];exact HW2.out.size
   have HW3:Hid (Below B0 w1 V1):=by
    rw[← hV1]
    exact(HW2.out.trans (hb.mono hs2)).alloc (Nat.le_trans hs2 hb.size) _
   have hsz1:B0+1≤V1.heap.size:=by have:=hb.size;rw[← hV1];simp;omega
   have hown1:V1.ownsRow B0 41 2 u3 qs.length (Zbk qs):=by
    have h1:Own w3 B0 u3 qs:=HO2.out.after hb
    rw[← hV1]
    exact h1.alloc _
   have hownA:(V1.alloc (pObj x y)).ownsRow B0 41 2 u3 qs.length (Zbk qs):=hown1.alloc _
   have d0:=HE3.out.cell 0 0 (v:=.string x) rfl rfl
   have d1:=HE3.out.cell 0 1 (v:=.string y) rfl rfl
   have hql:=HQ.out.1
   have hm1:qs.length+1≤maxLen:=by unfold maxLen;omega
   have hm2:(qs.length+1)*32≤140737488355328:=by omega
   have hm3:B0≤(V1.alloc (pObj x y)).heap.size:=by simp;omega
   have hnews:∀ (j:Nat) (z:Value),([.string x,.string y]:List Value)[j]?=some z→(V1.alloc (pObj x y)).cell? ((⟨V1.heap.size,0,none⟩:Addr).add j)=some z:=World.news_of_block (World.alloc_heap_new V1 _)
   obtain⟨po9,no9,co9,rfl⟩:∃ p n c,u3=Value.slice p n c:=by
    obtain⟨p,c,h,_⟩:=HO.out.pl
    exact⟨_,_,_,h⟩
   have HQL:=Lib.hid hql
   clear hown1 hB hx hb hre hrb hql
   go_wp2_with (at_builtin;go_loud (refine wpList_append_own _ rfl (.tmp 26) (.tmp 28) 37 rfl B0 41 i0 (.agg #[.string ⟨#[]⟩,.string ⟨#[]⟩]) 2 32 Tryz.underlying37 hi hz0 hz1 hz2 rfl (by decide) _ qs.length (Zbk qs) rfl hownA ⟨V1.heap.size,0,none⟩ 1 1 [.string x,.string y] rfl rfl hnews (by simp[Value.oneCell']) hm1 hm2 hm3 ?_);intro v' w4' hown4 hgrow4 _)
   have HO4:Hid (Own w4' B0 v' (qs++[(x,y)])):=by
    show w4'.ownsRow _ _ _ _ _ _
    rw[List.length_append,ZhI]
    exact hown4
   have HW4:Hid (Below B0 w1 w4'):=(HW3.out.alloc (by omega) (pObj x y)).grown hgrow4 hm3 (fun z hz=>(World.ownsRow.lt hownA z hz).1)
   have HQ4:Hid ((qs++[(x,y)]).length=u+1∧∀ j,j<u+1→∃ r m,Best (priF t p j) t.sites.length r m∧IsP m ((qs++[(x,y)]).getD j (⟨#[]⟩,⟨#[]⟩)).1 ((qs++[(x,y)]).getD j (⟨#[]⟩,⟨#[]⟩)).2):=by
    refine⟨by rw[List.length_append,HQL.out];rfl,fun j hj=>?_⟩
    rcases Nat.lt_or_ge j u with h | h
    ·rw[show (qs++[(x,y)]).getD j (⟨#[]⟩,⟨#[]⟩)=qs.getD j (⟨#[]⟩,⟨#[]⟩) by simp only[List.getD];rw[List.getElem?_append_left (by rw[HQL.out];exact h)]]
     exact HQ.out.2 j h
    ·obtain rfl:j=u:=by omega
     rw[show (qs++[(x,y)]).getD j (⟨#[]⟩,⟨#[]⟩)=(x,y) by simp only[List.getD];rw[List.getElem?_append_right (by rw[HQL.out];exact Nat.le_refl _),HQL.out,Nat.sub_self];rfl]
     exact⟨r,mx,HB9.out.1,HB9.out.2⟩
   clear hown4 hgrow4 hownA hnews hm1 hm2 hm3 d0 d1 hV1 hC HQ HB9 HW3 HE3
   go_roundw
   case rel=>exact⟨u+1,qs++[(x,y)],by go_num,by omega,HO4,HQ4,HW4⟩
   case measure=>simp[intOf];omega
  ·obtain rfl:u=T:=by omega
   obtain⟨po9,no9,co9,rfl⟩:∃ p n c,u3=Value.slice p n c:=by
    obtain⟨p,c,h,_⟩:=HO.out.pl
    exact⟨_,_,_,h⟩
   have HPR:Hid (Za5 t p qs):=⟨by rw[HQ.out.1,HTT.out],fun j hj=>HQ.out.2 j (by rw[← HTT.out];exact hj)⟩
   clear HQ
   go_wp2
   exact bodyPost_ret (by simp[results,Tryz.f83,go_sem]) rfl ⟨_,qs,rfl,HPR.out,HO.out.mono hGB,HE.out.base⟩
end Go.Proofs.YtmpaflidennnoaaGreatDoor
namespace Go.Proofs.YtmpaflidennnoaaGreatDoor
open Go.RowKit Go.Shelf
attribute [local go_sem ↓] Go.wp_at_zero Go.wp_at_succ
abbrev prO (v:Value):Obj:=.cells #[v] 37
def Zdd (t:TaskP) (p:List (List Int)) (g B:Nat) (n:Int) (V:World):Prop:=n=0∧∃ v qs,V.heap[g]?=some (prO v)∧Za5 t p qs∧Own V B v qs
theorem Zdd.stay {t:TaskP} {p:List (List Int)} {g h B:Nat} (hne:g≠h) (hB:h<B) (n:Int) (W W':World) (q:Zdd t p g B n W) (hk:Keeps (fun b=>b≠h) W W'):Zdd t p g B n W':=by
 obtain⟨h0,v,qs,h1,h2,h3⟩:=q
 exact⟨h0,v,qs,hk.at h1 hne,h2,h3.kept fun x hx hv=>hk.block x (World.ownsRow.lt h3 x hv).2 (by show x≠h;omega)⟩
theorem ZiM {t:TaskP} {p:List (List Int)} {Ge Gp Gr:Nat} {ps ph pr pp:Option Addr} {ns nh nr np cs ch cr cp:Nat} {W:World} (he:W.heap[Ge]?=some (efO (.slice ps ns cs) (.slice ph nh ch) (.slice pr nr cr))) (hp:W.heap[Gp]?=some (plO (.slice pp np cp))) (hr:W.heap[Gr]?=some (prO (.slice none 0 0)))
  (hT:TaskIn t (.slice ps ns cs) (.slice ph nh ch) (.slice pr nr cr) W) (hI:IIL W (.slice pp np cp) p) (ok:PlanOk t p) :
  Calls Tryz.prog 82 #[.pointer (some ⟨Ge,0,none⟩),.pointer (some ⟨Gp,0,none⟩),.pointer (some ⟨Gr,0,none⟩)] W (Zed (Zdd t p Gr W.heap.size) (fun b=>b≠Gr) W):=by
 have e0:=Za he 0 (v:=.slice ps ns cs) rfl
 have e1:=Za he 1 (v:=.slice ph nh ch) rfl
 have e2:=Za he 2 (v:=.slice pr nr cr) rfl
 have p0:=Za hp 0 (v:=.slice pp np cp) rfl
 have HBG:=Lib.hid (ZcL hT hI ok.len8.2 ok.task.sites (fun u h=>ok.row u h))
 have HR:=Lib.hid hr
 have HOK:=Lib.hid ok
 have hrl:=(Array.getElem?_eq_some_iff.1 hr).1
 clear hT hI he hp hr ok
 go_enter Tryz.func82,Tryz.ntmps82
 go_wp2_with fail
 refine HBG.out.mono ?_
 rintro e w1 ⟨b,m,sv,hv,rv,pv,gq,gc,rfl,hW,hP,hM,hm,hb1,hb⟩
 obtain⟨pb,pc,_,hPW⟩:=hP.toW HOK.out.len8.1
 have HV:=Lib.hid (Zfx hW hPW HOK.out.task HOK.out.inn)
 have HB1:=Lib.hid hb
 clear hW hP hM hPW hb HBG e0 e1 e2 p0 hm hb1
 go_wp2_with fail
 refine HV.out.mono ?_
 rintro e w2 ⟨v,qs,rfl,hS,hO,hk⟩
 have HB2:Hid (Below W.heap.size W w2):=HB1.out.trans (hk.mono HB1.out.size)
 have HR2:Hid (w2.heap[Gr]?=some (prO (.slice none 0 0))):=(HB2.out.block _ hrl).trans HR.out
 have HOW:Hid (Own w2 W.heap.size v qs):=hO.mono HB1.out.size
 have HSE:=Lib.hid hS
 obtain⟨po9,no9,co9,rfl⟩:∃ p n c,v=Value.slice p n c:=by
  obtain⟨p,c,h,_⟩:=hO.pl
  exact⟨_,_,_,h⟩
 clear hk hS hO HV
 have r0:=Za HR2.out 0 (v:=.slice none 0 0) rfl
 have f0:=Zb HR2.out 0
 go_wp2
 refine bodyPost_ret (results_none rfl _ _ _) rfl ⟨0,.inl ⟨rfl,rfl⟩,⟨rfl,_,qs,Joins.block_setCell HR2.out _,HSE.out,HOW.out.kept fun x hx _=>Below.heap_setCell _ _ _ _ (by show x≠Gr;omega)⟩,?_⟩
 exact(HB2.out.keepsS (fun b=>b≠Gr)).setCell (p:=⟨Gr,0,none⟩) (by simp) _
def Zmd (t:TaskP) (p:List (List Int)) (w:World) (e:Ending) (w':World):Prop:=
 ((¬ PlanOk t p∧e=.returned (.tuple #[.slice none 0 0,.int .i64 2]))∨(PlanOk t p∧∃ qs v,Za5 t p qs∧Own w' w.heap.size v qs∧e=.returned (.tuple #[v,.int .i64 0])))∧Below w.heap.size w w'
theorem Zjj {t:TaskP} {p:List (List Int)} {sv hv rv pv:Value} {w:World} (hT:TaskIn t sv hv rv w) (hz:LimT t) (hI:IIL w pv p) :
  Calls Tryz.prog 36 #[.agg #[sv,hv,rv],pv] w (Zmd t p w):=by
 obtain⟨ps,cs,rfl,_⟩:=hT.sites.shape rfl
 obtain⟨ph,ch,rfl,_⟩:=hT.hours.shape rfl
 obtain⟨pr,cr,rfl,_⟩:=hT.rates.shape rfl
 obtain⟨pp,pc,rfl,_⟩:=hI.shape rfl
 obtain⟨ns,hns⟩:∃ n,t.sites.length=n:=⟨_,rfl⟩
 obtain⟨nh,hnh⟩:∃ n,t.hours.length=n:=⟨_,rfl⟩
 obtain⟨nr,hnr⟩:∃ n,t.rates.length=n:=⟨_,rfl⟩
 obtain⟨np,hnp⟩:∃ n,p.length=n:=⟨_,rfl⟩
 rw[hns,hnh,hnr] at hT ⊢
 rw[hnp] at hI ⊢
 have HT:=Lib.hid hT
 have HI:=Lib.hid hI
 have HZ:=Lib.hid hz
 have HE0:Hid (Env w.heap.size w [(w.heap.size+1+1,prO (.slice none 0 0)),(w.heap.size+1,plO (.slice pp np pc)),(w.heap.size,efO (.slice ps ns cs) (.slice ph nh ch) (.slice pr nr cr))] []
  (((w.alloc (efO (.slice ps ns cs) (.slice ph nh ch) (.slice pr nr cr))).alloc (plO (.slice pp np pc))).alloc (prO (.slice none 0 0)))):=(((Env.start w).push _ rfl).push _ (by simp)).push _ (by simp)
 have e0:=HE0.out.cell 2 0 (v:=.slice ps ns cs) rfl rfl
 have e1:=HE0.out.cell 2 1 (v:=.slice ph nh ch) rfl rfl
 have e2:=HE0.out.cell 2 2 (v:=.slice pr nr cr) rfl rfl
 have p0:=HE0.out.cell 1 0 (v:=.slice pp np pc) rfl rfl
 clear hT hI hz hns hnh hnr hnp
 go_enter Tryz.func36,Tryz.ntmps36
 go_wp2_with fail
 refine(ZbH (HT.out.below HE0.out.base (Nat.le_refl _)) HZ.out (IIL.stay2 HI.out HE0.out.base (Nat.le_refl _))).mono ?_
 rintro e w1 ⟨hE,hb⟩
 have HE1:=Lib.hid (HE0.out.step hb)
 clear hb HE0 e0 e1 e2 p0
 have r0:=HE1.out.cell 0 0 (v:=.slice none 0 0) rfl rfl
 have f0:=HE1.out.free 0 0 rfl
 rcases hE with ⟨hok,rfl⟩ | ⟨hok,rfl⟩
 rotate_left
 ·have HNO:=Lib.hid hok
  clear hok
  have HS9:=Lib.hid (HE1.out.store 0 0 (.slice none 0 0) rfl)
  go_wp2
  have q0:=HS9.out.cell 0 0 (v:=.slice none 0 0) rfl rfl
  exact bodyPost_ret (v:=.tuple #[.slice none 0 0,.int .i64 2]) (by simp[results,Tryz.f36,go_sem,q0]) rfl ⟨.inl ⟨HNO.out,rfl⟩,HS9.out.base⟩
 ·have HOK:=Lib.hid hok
  obtain⟨G,hG⟩:∃ G,w.heap.size=G:=⟨_,rfl⟩
  have HGG:=Lib.hid hG
  have hGE:=HE1.out
  rw[hG] at hGE
  have hs1:G+3≤w1.heap.size:=by
   have:=hGE.lt 0 rfl
   omega
  have HTR:Hid (Calls Tryz.prog 50 #[.func (.func 82) #[] #[.pointer (some ⟨G,0,none⟩),.pointer (some ⟨G+1,0,none⟩),.pointer (some ⟨G+1+1,0,none⟩)]] w1 (ZcO (Zdd t p (G+1+1) (w1.heap.size+1)) (fun b=>b≠G+1+1) w1)):=by
   have hal:Below w1.heap.size w1 (w1.alloc (erO 0)):=(Below.refl _ w1).alloc (Nat.le_refl _) _
   have hE2:=hGE.step hal
   refine Zb9 (enters_of Tryz.func82 (by kernel_rfl) rfl) (fun b hb=>by show b≠G+1+1;omega) (fun n W W'=>Zdd.stay (by omega) (by omega) n W W') ?_
   have hbw:Below w.heap.size w (w1.alloc (erO 0)):=HE1.out.base.trans (hal.mono HE1.out.own)
   have:=ZiM (hE2.block 2 rfl) (hE2.block 1 rfl) (hE2.block 0 rfl) (HT.out.below hbw (Nat.le_refl _)) (IIL.stay2 HI.out hbw (Nat.le_refl _)) HOK.out
   rw[World.size_alloc] at this
   exact this
  rw[hG] at r0 f0 ⊢
  clear hok hGE r0 f0 hG
  go_wp2_with fail
  refine HTR.out.mono ?_
  rintro e w2 ⟨n,rfl,⟨rfl,v,qs,hxy,hS,hO⟩,hk⟩
  have HSE:=Lib.hid hS
  have HXY:=Lib.hid hxy
  have HB2:Hid (Below w.heap.size w w2):=HE1.out.base.trans (hk.below_of (fun b hb=>by have:=HGG.out;show b≠G+1+1;omega) HE1.out.own)
  obtain⟨po9,no9,co9,rfl⟩:∃ p n c,v=Value.slice p n c:=by
   obtain⟨p,c,h,_⟩:=hO.pl
   exact⟨_,_,_,h⟩
  have HOW:=Lib.hid hO
  clear hS hk HTR hO
  have r0:=Za HXY.out 0 (v:=.slice po9 no9 co9) rfl
  have f0:=Zb HXY.out 0
  clear hxy
  go_wp2
  have hb9:(w2.setCell ⟨G+1+1,0,none⟩ (.slice po9 no9 co9)).heap[G+1+1]?=some (prO (.slice po9 no9 co9)):=Joins.block_setCell HXY.out _
  have q0:=Za hb9 0 (v:=.slice po9 no9 co9) rfl
  refine bodyPost_ret (v:=.tuple #[.slice po9 no9 co9,.int .i64 0]) (by simp[results,Tryz.f36,go_sem,q0]) rfl ⟨.inr ⟨HOK.out,qs,_,HSE.out,(HOW.out.kept fun x hx _=>Below.heap_setCell _ _ _ _ (by show x≠G+1+1;omega)).mono (by have:=HGG.out;omega),rfl⟩,HB2.out.setCell (p:=⟨G+1+1,0,none⟩) (by have:=HGG.out;show w.heap.size≤G+1+1;omega) _⟩
end Go.Proofs.YtmpaflidennnoaaGreatDoor
