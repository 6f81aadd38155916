/- The parts EGainX, ECopied, EffBd, EffHrs, EffD, EffFit, EffImp of a proof, put together by program (merge7.py). -/
import Derived.Test.YtmpaflidennnoaaGreatDoorH01
import Derived.Test.YtmpaflidennnoaaGreatDoorH30
import Derived.Test.YtmpaflidennnoaaGreatDoorH26
import Derived.Test.YtmpaflidennnoaaGreatDoorH24
import Derived.Test.YtmpaflidennnoaaGreatDoorH21
set_option maxRecDepth 100000
set_option maxHeartbeats 4000000
set_option linter.unusedVariables false
set_option linter.unusedSimpArgs false
namespace Go.Proofs.YtmpaflidennnoaaGreatDoor
open Go.RowKit Go.Shelf
attribute [local go_sem ↓] Go.wp_at_zero Go.wp_at_succ
abbrev inO (n:Int):Obj:=.cells #[.int .i64 n] 3
theorem ZkZ {t:TaskP} {p:List (List Int)} {u i:Nat} {Ge Gp Gu Gi Gr:Nat} {ps ph pr pp:Option Addr} {ns nh nr np cs ch cr cp:Nat} {W:World} (he:W.heap[Ge]?=some (efO (.slice ps ns cs) (.slice ph nh ch) (.slice pr nr cr))) (hp:W.heap[Gp]?=some (plO (.slice pp np cp))) (hu':W.heap[Gu]?=some (inO u)) (hi':W.heap[Gi]?=some (inO i)) (hr:W.heap[Gr]?=some (pObj ⟨#[]⟩ ⟨#[]⟩))
  (hT:TaskIn t (.slice ps ns cs) (.slice ph nh ch) (.slice pr nr cr) W) (hI:IIL W (.slice pp np cp) p) (ok:PlanOk t p) (hu:u<t.hours.length) (hi:i<t.sites.length) :
  Calls Tryz.prog 77 #[.pointer (some ⟨Ge,0,none⟩),.pointer (some ⟨Gp,0,none⟩),.pointer (some ⟨Gu,0,none⟩),.pointer (some ⟨Gi,0,none⟩),.pointer (some ⟨Gr,0,none⟩)] W (ZfC (ResQ (fun x y n=>n=0∧IsP (ZU t p u i) x y) Gr) (fun b=>b≠Gr) W):=by
 have HS0:Hid (∀ V,Below W.heap.size W V→V.heap[Ge]?=some (efO (.slice ps ns cs) (.slice ph nh ch) (.slice pr nr cr))∧V.heap[Gp]?=some (plO (.slice pp np cp))∧V.heap[Gu]?=some (inO u)∧V.heap[Gi]?=some (inO i)∧V.heap[Gr]?=some (pObj ⟨#[]⟩ ⟨#[]⟩)∧TaskIn t (.slice ps ns cs) (.slice ph nh ch) (.slice pr nr cr) V∧IIL V (.slice pp np cp) p):=fun V hV=>
  ⟨(hV.block _ (Array.getElem?_eq_some_iff.1 he).1).trans he,(hV.block _ (Array.getElem?_eq_some_iff.1 hp).1).trans hp,(hV.block _ (Array.getElem?_eq_some_iff.1 hu').1).trans hu',(hV.block _ (Array.getElem?_eq_some_iff.1 hi').1).trans hi',(hV.block _ (Array.getElem?_eq_some_iff.1 hr).1).trans hr,hT.below hV (Nat.le_refl _),IIL.stay2 hI hV (Nat.le_refl _)⟩
 have HOK:=Lib.hid ok
 have HUI:=Lib.hid (And.intro hu hi)
 have hgr:=(Array.getElem?_eq_some_iff.1 hr).1
 clear he hp hr hT hI ok hu hi hu' hi'
 go_enter Tryz.func77,Tryz.ntmps77
 go_wp2_with fail
 refine ZG [(1,0),(1,1),(1,3),(1,4),(0,2),(0,5),(0,6)] (fun V=>Below W.heap.size W V) (fun i=>i==6)
  (by kernel_rfl) (by kernel_rfl) (fun j hj=>by have h:7≤j:=hj;simp;omega) (fun _ _ o _ _ h=>by cases o<;>exact h) (Below.refl _ W).drew ?_
 have HB0:Hid (Below W.heap.size W W.drew):=(Below.refl _ W).drew
 obtain⟨V,hV⟩:∃ z,W.drew=z:=⟨_,rfl⟩
 rw[hV] at HB0 ⊢
 clear hV
 iterate 4
  refine Zj _ rfl rfl (fun w' hS=>by obtain⟨q1,q2,q3,q4,_⟩:=HS0.out _ hS;have e0:=Za q1 0 (v:=.slice ps ns cs) rfl;have e1:=Za q1 1 (v:=.slice ph nh ch) rfl;have e2:=Za q1 2 (v:=.slice pr nr cr) rfl;have p0:=Za q2 0 (v:=.slice pp np cp) rfl;have u0:=Za q3 0 (v:=.int .i64 u) rfl;have i0:=Za q4 0 (v:=.int .i64 i) rfl;go_simp;first | rfl | (rw[if_pos (by omega)])) ?_
  simp only[ZmW,ZmX,ZmY,Act.put,ZmZ,Zm0,Zm1]
 refine Zo 48 _ rfl rfl (by go_simp;rfl) ?_
 refine(Zc3 (HS0.out _ HB0.out).2.2.2.2.2.1 (HS0.out _ HB0.out).2.2.2.2.2.2 HOK.out.len8.2 HOK.out.task.sites (fun u h=>HOK.out.row u h)).mono ?_
 rintro e V1 ⟨b,m,sv,hv,rv,pv,gq,gc,rfl,hW,hP,hM,hm,hb1,hb⟩
 obtain⟨pb,pc,_,hPW⟩:=hP.toW HOK.out.len8.1
 have HB1:Hid (Below W.heap.size W V1):=HB0.out.trans (hb.mono HB0.out.size)
 have HC:=Lib.hid (Zgm hW hPW hM (by decide) HOK.out.task HOK.out.inn (by rw[HOK.out.task.rates];exact HUI.out.1) HUI.out.2)
 have hmw:W.heap.size≤m:=Nat.le_trans HB0.out.size hm
 refine .inl ⟨_,rfl,HB1.out,?_⟩
 clear hb hW hP hM hPW hm hb1 HB0
 simp only[ZmW,ZmX,ZmY,Act.put,ZmZ,Zm0,Zm1]
 refine Zo 78 _ rfl rfl (by go_simp;rfl) ?_
 refine HC.out.mono ?_
 rintro e V2 ⟨x,y,rfl,hx,hk,_⟩
 have HB2:Hid (Below W.heap.size W V2):=HB1.out.trans (hk.below_of (fun c hc=>by show c≠m;omega) HB1.out.size)
 have HX:=Lib.hid hx
 have HR:=Lib.hid (HS0.out _ HB2.out).2.2.2.2.1
 refine .inl ⟨_,rfl,HB2.out,?_⟩
 clear hk hx HB1 HC
 simp only[ZmW,ZmX,ZmY,Act.put,ZmZ,Zm0,Zm1]
 have r0:=Za HR.out 0 (v:=.string ⟨#[]⟩) rfl
 have r1:=Za HR.out 1 (v:=.string ⟨#[]⟩) rfl
 have f0:=Zb HR.out 0
 have f1:=Zb HR.out 1
 refine Zt rfl rfl fun K hK=>?_
 go_simp
 obtain⟨V3,hV3⟩:∃ z,(V2.setCell ⟨Gr,0,none⟩ (.string x)).setCell ⟨Gr,1,none⟩ (.string y)=z:=⟨_,rfl⟩
 have hR3:V3.heap[Gr]?=some (pObj x y):=by rw[← hV3];exact ZP HR.out _ _
 have hK3:Keeps (fun b=>b≠Gr) W V3:=by rw[← hV3];exact((HB2.out.keepsS (fun b=>b≠Gr)).setCell (p:=⟨Gr,0,none⟩) (by simp) _).setCell (p:=⟨Gr,1,none⟩) (by simp) _
 have HF3:=Lib.hid (And.intro hR3 hK3)
 rw[hV3]
 refine hK _ _ (.inl rfl) ?_
 clear hK K hV3 r0 r1 f0 f1 hR3 hK3
 refine Zu ?_
 go_wp2
 exact bodyPost_ret (results_none rfl _ _ _) rfl ⟨0,.inl ⟨rfl,rfl⟩,⟨x,y,HF3.out.1,rfl,HX.out⟩,HF3.out.2⟩
def Zez (t:TaskP) (p:List (List Int)) (u i:Int):Prop:=PlanOk t p∧(0≤u∧u≤t.hours.length-1)∧(0≤i∧i≤t.sites.length-1)
def ZfO (t:TaskP) (p:List (List Int)) (u i:Int) (x y:ByteArray) (n:Int):Prop:=(¬ Zez t p u i∧x=⟨#[]⟩∧y=⟨#[]⟩∧n=2)∨(Zez t p u i∧n=0∧IsP (ZU t p u.toNat i.toNat) x y)
theorem ZkG {t:TaskP} {p:List (List Int)} {u i:Int} {sv hv rv pv:Value} {w:World} (hT:TaskIn t sv hv rv w) (hz:LimT t) (hI:IIL w pv p) :
  Calls Tryz.prog 27 #[.agg #[sv,hv,rv],pv,.int .i64 u,.int .i64 i] w (ZC (ZfO t p u i) w):=by
 obtain⟨ps,cs,rfl,_⟩:=hT.sites.shape rfl
 obtain⟨ph,ch,rfl,_⟩:=hT.hours.shape rfl
 obtain⟨pr,cr,rfl,_⟩:=hT.rates.shape rfl
 obtain⟨pp,pc,rfl,_⟩:=hI.shape rfl
 obtain⟨ns,hns⟩:∃ n,t.sites.length=n:=⟨_,rfl⟩
 obtain⟨nh,hnh⟩:∃ n,t.hours.length=n:=⟨_,rfl⟩
 obtain⟨nr,hnr⟩:∃ n,t.rates.length=n:=⟨_,rfl⟩
 obtain⟨np,hnp⟩:∃ n,p.length=n:=⟨_,rfl⟩
 rw[hns,hnh,hnr] at hT ⊢
 rw[hnp] at hI ⊢
 have HT:=Lib.hid hT
 have HI:=Lib.hid hI
 have HZ:=Lib.hid hz
 have HL:=Lib.hid (And.intro hns hnh)
 have hmf:∀ (fn:Fn) (first cap:Array Value) (w:World),(Instr.makeFunc fn first cap).run Tryz.prog w=.ok (.func fn first cap) w:=fun _ _ _ _=>rfl
 obtain⟨G,hG⟩:∃ G,w.heap.size=G:=⟨_,rfl⟩
 obtain⟨w1,hw1⟩:∃ z,(((((w.alloc (efO (.slice ps ns cs) (.slice ph nh ch) (.slice pr nr cr))).alloc (plO (.slice pp np pc))).alloc (inO u)).alloc (inO i)).alloc (pObj ⟨#[]⟩ ⟨#[]⟩))=z:=⟨_,rfl⟩
 have HE1:Hid (Env w.heap.size w [(G+1+1+1+1,pObj ⟨#[]⟩ ⟨#[]⟩),(G+1+1+1,inO i),(G+1+1,inO u),(G+1,plO (.slice pp np pc)),(G,efO (.slice ps ns cs) (.slice ph nh ch) (.slice pr nr cr))] [] w1):=by
  rw[← hw1,← hG]
  exact(((((Env.start w).push _ rfl).push _ (by simp)).push _ (by simp)).push _ (by simp)).push _ (by simp)
 have HGG:=Lib.hid hG
 have e0:=HE1.out.cell 4 0 (v:=.slice ps ns cs) rfl rfl
 have e1:=HE1.out.cell 4 1 (v:=.slice ph nh ch) rfl rfl
 have e2:=HE1.out.cell 4 2 (v:=.slice pr nr cr) rfl rfl
 have p0:=HE1.out.cell 3 0 (v:=.slice pp np pc) rfl rfl
 clear hT hI hz hns hnh hnr hnp
 go_enter Tryz.func27,Tryz.ntmps27
 go_wp2_with fail
 refine(Zdl (HT.out.below HE1.out.base (Nat.le_refl _)) HZ.out (IIL.stay2 HI.out HE1.out.base (Nat.le_refl _))).mono ?_
 rintro e w2 ⟨hE,hb⟩
 have HE2:=Lib.hid (HE1.out.step hb)
 clear hb HE1 e0 e1 e2 p0 hw1 hG
 rcases hE with ⟨hok,rfl⟩ | ⟨hok,rfl⟩
 rotate_left
 ·have HNO:Hid (¬ Zez t p u i):=fun h=>hok h.1
  clear hok
  have HA:Hid (ZfO t p u i ⟨#[]⟩ ⟨#[]⟩ 2):=.inl ⟨HNO.out,rfl,rfl,rfl⟩
  have r0:=HE2.out.cell 0 0 (v:=.string ⟨#[]⟩) rfl rfl
  have r1:=HE2.out.cell 0 1 (v:=.string ⟨#[]⟩) rfl rfl
  have f0:=HE2.out.free 0 0 rfl
  have f1:=HE2.out.free 0 1 rfl
  go_wp2
  have HE9:=Lib.hid (HE2.out.fill (.string ⟨#[]⟩) (.string ⟨#[]⟩))
  have q0:=HE9.out.cell 0 0 (v:=.string ⟨#[]⟩) rfl rfl
  have q1:=HE9.out.cell 0 1 (v:=.string ⟨#[]⟩) rfl rfl
  exact bodyPost_ret (v:=.tuple #[.agg #[.string ⟨#[]⟩,.string ⟨#[]⟩],.int .i64 2]) (by simp[results,Tryz.f27,go_sem,q0,q1]) rfl ⟨⟨#[]⟩,⟨#[]⟩,2,rfl,HA.out,HE9.out.base⟩
 have HOK:=Lib.hid hok
 have hT8:1≤nh∧nh≤8:=by rw[← HL.out.2];exact hok.task.teams
 have hN24:1≤ns∧ns≤24:=by rw[← HL.out.1];exact hok.task.sites
 have e1:=HE2.out.cell 4 1 (v:=.slice ph nh ch) rfl rfl
 have u0:=HE2.out.cell 2 0 (v:=.int .i64 u) rfl rfl
 clear hok
 go_wp2_with fail
 refine(Zba u 0 ((nh:Int)-1) _).mono ?_
 rintro e w3 ⟨rfl,hb⟩
 have HE3:=Lib.hid (HE2.out.step hb)
 clear hb HE2 e1 u0
 by_cases hU:0≤u∧u≤(nh:Int)-1
 rotate_left
 ·have HNO:Hid (¬ Zez t p u i):=fun h=>hU (by have:=h.2.1;rw[HL.out.2] at this;exact this)
  have hw:(decide ((0:Int)≤u) && decide (u≤(nh:Int)-1))=false:=by
   rw[← Bool.not_eq_true]
   simp only[Bool.and_eq_true,decide_eq_true_eq]
   exact hU
  rw[hw]
  clear hU hw
  have HA:Hid (ZfO t p u i ⟨#[]⟩ ⟨#[]⟩ 2):=.inl ⟨HNO.out,rfl,rfl,rfl⟩
  have r0:=HE3.out.cell 0 0 (v:=.string ⟨#[]⟩) rfl rfl
  have r1:=HE3.out.cell 0 1 (v:=.string ⟨#[]⟩) rfl rfl
  have f0:=HE3.out.free 0 0 rfl
  have f1:=HE3.out.free 0 1 rfl
  go_wp2
  have HE9:=Lib.hid (HE3.out.fill (.string ⟨#[]⟩) (.string ⟨#[]⟩))
  have q0:=HE9.out.cell 0 0 (v:=.string ⟨#[]⟩) rfl rfl
  have q1:=HE9.out.cell 0 1 (v:=.string ⟨#[]⟩) rfl rfl
  exact bodyPost_ret (v:=.tuple #[.agg #[.string ⟨#[]⟩,.string ⟨#[]⟩],.int .i64 2]) (by simp[results,Tryz.f27,go_sem,q0,q1]) rfl ⟨⟨#[]⟩,⟨#[]⟩,2,rfl,HA.out,HE9.out.base⟩
 have hw:(decide ((0:Int)≤u) && decide (u≤(nh:Int)-1))=true:=by simp;exact hU
 rw[hw]
 clear hw
 have e0:=HE3.out.cell 4 0 (v:=.slice ps ns cs) rfl rfl
 have i0:=HE3.out.cell 1 0 (v:=.int .i64 i) rfl rfl
 go_wp2_with fail
 refine(Zba i 0 ((ns:Int)-1) _).mono ?_
 rintro e w4 ⟨rfl,hb⟩
 have HE4:=Lib.hid (HE3.out.step hb)
 clear hb HE3 e0 i0
 by_cases hX:0≤i∧i≤(ns:Int)-1
 rotate_left
 ·have HNO:Hid (¬ Zez t p u i):=fun h=>hX (by have:=h.2.2;rw[HL.out.1] at this;exact this)
  have hw:(decide ((0:Int)≤i) && decide (i≤(ns:Int)-1))=false:=by
   rw[← Bool.not_eq_true]
   simp only[Bool.and_eq_true,decide_eq_true_eq]
   exact hX
  rw[hw]
  clear hX hw
  have HA:Hid (ZfO t p u i ⟨#[]⟩ ⟨#[]⟩ 2):=.inl ⟨HNO.out,rfl,rfl,rfl⟩
  have r0:=HE4.out.cell 0 0 (v:=.string ⟨#[]⟩) rfl rfl
  have r1:=HE4.out.cell 0 1 (v:=.string ⟨#[]⟩) rfl rfl
  have f0:=HE4.out.free 0 0 rfl
  have f1:=HE4.out.free 0 1 rfl
  go_wp2
  have HE9:=Lib.hid (HE4.out.fill (.string ⟨#[]⟩) (.string ⟨#[]⟩))
  have q0:=HE9.out.cell 0 0 (v:=.string ⟨#[]⟩) rfl rfl
  have q1:=HE9.out.cell 0 1 (v:=.string ⟨#[]⟩) rfl rfl
  exact bodyPost_ret (v:=.tuple #[.agg #[.string ⟨#[]⟩,.string ⟨#[]⟩],.int .i64 2]) (by simp[results,Tryz.f27,go_sem,q0,q1]) rfl ⟨⟨#[]⟩,⟨#[]⟩,2,rfl,HA.out,HE9.out.base⟩
 have hw:(decide ((0:Int)≤i) && decide (i≤(ns:Int)-1))=true:=by simp;exact hX
 rw[hw]
 clear hw
 obtain⟨u,rfl⟩:∃ n:Nat,u=n:=⟨u.toNat,by omega⟩
 obtain⟨i,rfl⟩:∃ n:Nat,i=n:=⟨i.toNat,by omega⟩
 have HAO:Hid (Zez t p u i):=⟨HOK.out,by rw[HL.out.2];exact hU,by rw[HL.out.1];exact hX⟩
 have HUI:Hid (u<t.hours.length∧i<t.sites.length):=by
  show _∧_
  rw[HL.out.1,HL.out.2]
  omega
 have hs1:G+5≤w4.heap.size:=by
  have:=HE4.out.lt 0 rfl
  omega
 have HTR:Hid (Calls Tryz.prog 50 #[.func (.func 77) #[] #[.pointer (some ⟨G,0,none⟩),.pointer (some ⟨G+1,0,none⟩),.pointer (some ⟨G+1+1,0,none⟩),.pointer (some ⟨G+1+1+1,0,none⟩),.pointer (some ⟨G+1+1+1+1,0,none⟩)]] w4 (Zdd (ResQ (fun x y n=>n=0∧IsP (ZU t p u i) x y) (G+1+1+1+1)) (fun b=>b≠G+1+1+1+1) w4)):=by
  have hal:Below w4.heap.size w4 (w4.alloc (erO 0)):=(Below.refl _ w4).alloc (Nat.le_refl _) _
  have hE2:=HE4.out.step hal
  refine Zdu (enters_of Tryz.func77 (by kernel_rfl) rfl) (fun b hb=>by show b≠G+1+1+1+1;omega) (fun n W W'=>ResQ.stay (by omega) n W W') ?_
  have hbw:Below w.heap.size w (w4.alloc (erO 0)):=HE4.out.base.trans (hal.mono HE4.out.own)
  exact ZkZ (hE2.block 4 rfl) (hE2.block 3 rfl) (hE2.block 2 rfl) (hE2.block 1 rfl) (hE2.block 0 rfl) (HT.out.below hbw (Nat.le_refl _)) (IIL.stay2 HI.out hbw (Nat.le_refl _)) HOK.out HUI.out.1 HUI.out.2
 clear hU hX
 go_wp2_with fail
 refine HTR.out.mono ?_
 rintro e w5 ⟨n,rfl,⟨x,y,hxy,rfl,hS⟩,hk⟩
 have HA:Hid (ZfO t p u i x y 0):=.inr ⟨HAO.out,rfl,hS⟩
 have HXY:=Lib.hid hxy
 have HB5:Hid (Below w.heap.size w w5):=HE4.out.base.trans (hk.below_of (fun b hb=>by have:=HGG.out;show b≠G+1+1+1+1;omega) HE4.out.own)
 clear hS hk HTR
 have r0:=Za HXY.out 0 (v:=.string x) rfl
 have r1:=Za HXY.out 1 (v:=.string y) rfl
 have f0:=Zb HXY.out 0
 have f1:=Zb HXY.out 1
 clear hxy
 go_wp2
 obtain⟨q0,q1⟩:=Zf HXY.out (.string x) (.string y)
 exact bodyPost_ret (v:=.tuple #[.agg #[.string x,.string y],.int .i64 0]) (by simp[results,Tryz.f27,go_sem,q0,q1]) rfl ⟨x,y,0,rfl,HA.out,Zd HB5.out (by have:=HGG.out;omega) (.string x) (.string y)⟩
structure CopyF (p:List (List Int)) (N m T k:Nat) (wr V2 V3:World) (q0 g cap':Nat) (pq:Option Addr) (pn pcap:Nat) (gq gc:Nat→Nat) (l:List Int):Prop where
 own:V3.ownsRow (m+1) 23 1 (.slice pq pn pcap) (p.take k).length (Zc0 N gq gc (p.take k).length)
 news:∀ j u,([Value.slice (some ⟨g,0,none⟩) N cap'])[j]?=some u→V3.cell? ((⟨V2.heap.size,0,none⟩:Addr).add j)=some u
 below:Below wr.heap.size wr V3
 row:V3.ownsRow (m+1) 3 1 (.slice (some ⟨g,0,none⟩) N cap') N (ints l)
 plan:PlanO (p.take k) N m m (.slice pq pn pcap) gq gc V3
 go:∀ u,u<(p.take k).length→gq u≠g
 gp:(Value.slice pq pn pcap).ownBlock≠some g
 mle:m+1≤V3.heap.size
 gm:g≠m
theorem ZmM {p:List (List Int)} {N m T k:Nat} {wr V2:World} {q0 g cap':Nat} {pq:Option Addr} {pn pcap:Nat} {gq gc:Nat→Nat} {l:List Int} (h:PlanO (p.take k) N m m (.slice pq pn pcap) gq gc wr) (hq:wr.heap.size=q0) (hgrow:(wr.alloc (.cells #[] 3)).grownBy V2 (Value.slice (some ⟨wr.heap.size,0,none⟩) 0 0).ownBlock)
  (hat:(Value.slice (some ⟨wr.heap.size,0,none⟩) 0 0).ownBlock=some g∨g=wr.heap.size+1) (hown:V2.ownsRow (m+1) 3 1 (.slice (some ⟨g,0,none⟩) N cap') N (ints l)) (hlt:g<V2.heap.size) (hm:m+1≤wr.heap.size) :
  CopyF p N m T k wr V2 (V2.alloc (.cells #[.slice (some ⟨g,0,none⟩) N cap'] 23)) q0 g cap' pq pn pcap gq gc l:=by
 have hB2:Below wr.heap.size wr V2:=((Below.refl wr.heap.size wr).alloc (Nat.le_refl _) _).grown hgrow (by simp) (fun z hz=>by cases hz;exact Nat.le_refl _)
 have hB3:Below wr.heap.size wr (V2.alloc (.cells #[.slice (some ⟨g,0,none⟩) N cap'] 23)):=hB2.trans (((Below.refl _ V2).alloc (Nat.le_refl _) _).mono hB2.size)
 have hg2:wr.heap.size≤g:=by
  rcases hat with h | h
  ·cases h;exact Nat.le_refl _
  ·omega
 have hP3:=h.keep (hB3.keepsS (NotM m))
 refine⟨hP3.outer,Zco V2 _ _,hB3,Z7 hown fun x hx=>Below.heap_alloc _ _ _ (World.ownsRow.lt hown x hx).2,hP3,fun u hu e=>?_,fun e=>?_,by have:=hB3.size;omega,by omega⟩
 ·have:=(h.gt hu).2
  omega
 ·have:=(World.ownsRow.lt h.outer g e).2
  omega
theorem ZjY {p:List (List Int)} {pv0:Value} {N m:Nat} {w:World} (hp:IIL w pv0 p) (hpl:p.length≤8) (hN:1≤N∧N≤24) (hrow:∀ u (h:u<p.length),p[u].length=N) (hm:m+1=w.heap.size) :
  Calls Tryz.prog 23 #[pv0] w (fun e w'=>∃ pv gq gc,e=.returned pv∧PlanO p N m m pv gq gc w'∧Below w.heap.size w w'):=by
 obtain⟨T,hT⟩:∃ n,p.length=n:=⟨_,rfl⟩
 obtain⟨pp,pc,rfl,hpc1,hpc2⟩:=hp.shape hT
 rw[hT] at hpl
 have HP:=Lib.hid hp
 have HTT:=Lib.hid hT
 have HROW:=Lib.hid hrow
 obtain⟨i0,hi,hz0,hz1,hz2⟩:=info_parts Zdt
 obtain⟨i1,hi',hz0',hz1',hz2'⟩:=info_parts Zd6
 have HP0:Hid (PlanO (p.take 0) N m m (.slice none 0 0) (fun _=>0) (fun _=>0) w):=⟨World.ownsRow_nil _ _ _ _,fun u hu=>by simp at hu,fun u v hu=>by simp at hu,by simp[Value.ownBlock],fun u hu=>by simp at hu⟩
 clear hp hT hrow
 go_enter Tryz.func23,Tryz.ntmps23
 go_wp2_with fail
 go_loopw [3,8] (fun pvv iv wr=>∃ (k:Nat) (gq gc:Nat→Nat),iv=.int .i64 k∧k≤T∧Hid (PlanO (p.take k) N m m pvv gq gc wr)∧Hid (Below w.heap.size w wr)) (fun _ iv _=>T-(intOf iv).toNat)
 case atStart=>exact⟨0,_,_,rfl,Nat.zero_le _,HP0,Below.refl _ _⟩
 case round=>
  obtain⟨k,gq,gc,rfl,hk,HK,HB⟩:=hrel
  clear HP0
  by_cases hlt:k<T
  ·have hkl:((p.take k)).length=k:=by rw[List.length_take,HTT.out];omega
   have hkp:k<p.length:=by rw[HTT.out];exact hlt
   have HKL:=Lib.hid hkl
   obtain⟨b0,o0,_,hv9,_,_,hb0,hat⟩:=Za1 (IIL.stay2 HP.out HB.out (Nat.le_refl _)) (by omega)
   injection hv9 with z1 z2 z3
   subst z1
   obtain⟨v,d1,d2⟩:=hat k hkp
   have hlen:=HROW.out k hkp
   obtain⟨l,hl⟩:∃ l,p[k]=l:=⟨_,rfl⟩
   rw[hl] at d2 hlen
   obtain⟨rb,ro,rc,rfl,e1,e2,e3,e4⟩:=Za1 d2 (by omega)
   rw[Nat.mul_one,hlen] at d1
   have HLL:=Lib.hid (And.intro hl hlen)
   obtain⟨pq,pn,pcap,rfl⟩:∃ p n c,u3=Value.slice p n c:=by
    obtain⟨_,h2⟩:=HK.out.outer
    rcases h2 with ⟨h2,_⟩ | ⟨g,cap,_,h2,_⟩
    ·exact⟨_,_,_,h2⟩
    ·exact⟨_,_,_,h2⟩
   have hml:=ZbG l
   have HB0:Below wr.heap.size wr (wr.alloc (.cells #[] 3)):=(Below.refl wr.heap.size wr).alloc (Nat.le_refl _) _
   have HC1:∀ j u,(ints l)[j]?=some u→(wr.alloc (.cells #[] 3)).cell? ((⟨rb,ro,none⟩:Addr).add j)=some u:=fun j u hu=>by
    have hj:j<l.length:=by
     have:=(List.getElem?_eq_some_iff.1 hu).1
     simpa[ZbG] using this
    rw[ZdD hj] at hu
    have h9:=e4 j hj
    unfold IntR at h9
    rw[Nat.mul_one] at h9
    rw[Addr.add_lit,← hu,HB0.cell (p:=⟨rb,ro+j,none⟩) e3,h9]
    simp[List.getD,hj]
   have hwm:m+1≤wr.heap.size:=by rw[hm];exact HB.out.size
   obtain⟨q0,hq0⟩:∃ q,wr.heap.size=q:=⟨_,rfl⟩
   have HQ0:=Lib.hid hq0
   have i0':(0:Int)≤(k:Int):=by omega
   have i1':(k:Int)<(T:Int):=by omega
   clear hat hb0 d2 e4 hl hkl z2 z3 hq0
   go_wp2_with (first | (at_builtin;refine wpList_append_lies _ rfl (.tmp 13) (.tmp 14) 23 rfl (m+1) 3 i1 (.int .i64 0) 1 8 Tryz.underlying23 hi' hz0' hz1' hz2' rfl (by decide) _ 0 [] rfl (World.ownsRow_lit wr #[] 0 hwm (by simp[maxLen]) rfl) ⟨rb,ro,none⟩ N rc (ints l) rfl (by rw[hml,hlen,Nat.mul_one]) HC1 (ZdX _) (by omega) (by unfold maxLen;omega) (by omega) (by simp;omega) (wr.heap.size+1) (by simp) ?_;intro g cap' V2 hown1 hgrow1 hat1 hlt1;rw[Nat.zero_add,List.nil_append] at hown1;obtain⟨V3,hV3⟩:∃ z,V2.alloc (.cells #[.slice (some ⟨g,0,none⟩) N cap'] 23)=z:=⟨_,rfl⟩;have hfacts:CopyF p N m T k wr V2 V3 q0 g cap' pq pn pcap gq gc l:=(by subst hV3;exact ZmM HK.out HQ0.out hgrow1 hat1 hown1 hlt1 hwm);obtain⟨hown2,hnews,hb3,hrow3,hp3,hgo,hgp,hm3,hg3⟩:=hfacts) | (at_builtin;refine wpList_append_lies _ rfl (.tmp 12) (.tmp 16) 29 rfl (m+1) 23 i0 (.slice none 0 0) 1 24 Tryz.underlying29 hi hz0 hz1 hz2 rfl (by decide) (.slice pq pn pcap) _ _ rfl hown2 ⟨V2.heap.size,0,none⟩ 1 1 [.slice (some ⟨g,0,none⟩) N cap'] rfl rfl hnews (by simp[Value.oneCell']) (by decide) (by rw[HKL.out];unfold maxLen;omega) (by rw[HKL.out];omega) hm3 V3.heap.size rfl ?_;intro g2 cap2 V4 hown4 hgrow4 hor4 hlt4))
   have hsn:=hp3.snoc hrow3 hg3 hgo hgp (by omega) hown4 hgrow4 (by
    rcases hor4 with h | h
    ·exact .inl (by rw[h];rfl)
    ·exact .inr ⟨g2,rfl,by omega⟩)
   have hb4:Below w.heap.size w V4:=(HB.out.trans (hb3.mono HB.out.size)).grown hgrow4 (by omega) (fun x hx=>by have:=(World.ownsRow.lt hp3.outer x hx).1;omega)
   have e9:p.take k++[l]=p.take (k+1):=by
    rw[List.take_add_one,List.getElem?_eq_getElem hkp,HLL.out.1]
    rfl
   rw[e9] at hsn
   have hmin:min k p.length=(p.take k).length:=by rw[List.length_take]
   rw[hmin]
   refine⟨⟨k+1,_,_,by go_num,by omega,hsn,hb4⟩,?_⟩
   simp[intOf]
   omega
  ·obtain rfl:k=T:=by omega
   have e:p.take k=p:=by rw[← HTT.out,List.take_length]
   rw[e] at HK
   go_wp2
   exact bodyPost_ret (by simp[results,Tryz.f23,go_sem]) rfl ⟨_,gq,gc,rfl,HK.out,HB.out⟩
end Go.Proofs.YtmpaflidennnoaaGreatDoor
namespace Go.Proofs.YtmpaflidennnoaaGreatDoor
open Go.RowKit Go.Shelf
theorem ZfX (f:Nat→Rat) (T:Nat):∀ N,sumF f (T+N)=sumF f T+sumF (fun i=>f (T+i)) N
 | 0=>by
  show sumF f T=sumF f T+0
  rw[Rat.add_zero]
 | N+1=>by
  have h:=ZfX f T N
  show sumF f (T+N)+f (T+N)=sumF f T+(sumF (fun i=>f (T+i)) N+f (T+N))
  rw[h,Rat.add_assoc]
theorem ZiT {bs:List BB} (h:CurveP bs) (q:Rat):chF bs q≤1:=Zr.top h.conc' (ZcV h q)
theorem Ze5 {t:TaskP} (p:List (List Int)) (ok:TaskOk t):sumF (valF t p) t.sites.length≤sumF (wR t) t.sites.length:=Zda fun i hi=>by
 have h1:=ZiT (ok.site i hi).2 (covR t p i)
 have hw:0≤wR t i:=(Zb8 ok hi).1.nn
 have:=Rat.mul_le_mul_of_nonneg_left h1 hw
 unfold valF
 grind
theorem Zfb {f g:Nat→Rat} {d:Rat} {k:Nat} (hk:∀ i,i≠k→g i=f i) (hd:g k=f k+d):∀ n,sumF g n=sumF f n+if k<n then d else 0
 | 0=>by
  rw[if_neg (by omega)]
  show (0:Rat)=0+0
  rw[Rat.add_zero]
 | n+1=>by
  have h:=Zfb hk hd n
  show sumF g n+g n=sumF f n+f n+_
  rw[h]
  by_cases e:n=k
  ·subst e
   rw[hd,if_neg (by omega),if_pos (by omega)]
   grind
  ·rw[hk n e]
   by_cases hl:k<n
   ·rw[if_pos hl,if_pos (by omega)]
    grind
   ·rw[if_neg hl,if_neg (by omega)]
    grind
theorem Zhd {t:TaskP} {p:List (List Int)} {u i:Nat} (d:Int) (hu:u<p.length) (hi:i<p[u].length) (j:Nat):covR t (bump p u i d) j=covR t p j+if j=i then rR t u i*((d:Int):Rat) else 0:=by
 unfold covR
 rw[ZV,Zel,Zel]
 by_cases e:j=i
 ·subst e
  rw[if_pos rfl]
  have h:=Zfb (f:=fun u=>rR t u j*((pN p u j:Int):Rat)) (g:=fun v=>rR t v j*((pN (bump p u j d) v j:Int):Rat)) (k:=u) (d:=rR t u j*((d:Int):Rat))
   (fun v hv=>by
    show rR t v j*_=rR t v j*_
    rw[ZaL (.inl hv)])
   (by
    show rR t u j*_=rR t u j*_+_
    rw[Zck hu hi,Rat.intCast_add]
    grind) p.length
  rw[h,if_pos hu]
 ·rw[if_neg e,Rat.add_zero]
  congr 1
  funext v
  rw[ZaL (.inr e)]
theorem Zjl {t:TaskP} {p:List (List Int)} {u i:Nat} (hu:u<p.length) (hi:i<p[u].length) (hN:i<t.sites.length):sumF (valF t (bump p u i 1)) t.sites.length=sumF (valF t p) t.sites.length+ZU t p u i:=by
 have e1:((1:Int):Rat)=1:=rfl
 have h:=Zfb (f:=valF t p) (g:=valF t (bump p u i 1)) (k:=i) (d:=ZU t p u i)
  (fun j hj=>by
   unfold valF
   rw[Zhd 1 hu hi,if_neg hj,Rat.add_zero])
  (by
   unfold valF ZU
   rw[Zhd 1 hu hi,if_pos rfl,e1,Rat.mul_one]
   grind) t.sites.length
 rw[h,if_pos hN]
theorem Zb7 (q:Rat):q*((q.den:Nat):Rat)=((q.num:Int):Rat):=by
 have h1:(q.num:Rat)/((q.den:Nat):Rat)=q:=by rw[← Rat.mkRat_eq_div,Rat.mkRat_self]
 have h2:((q.den:Nat):Rat)≠0:=by
  have:=Rat.natCast_pos.2 q.den_pos
  grind
 have h3:=Rat.div_mul_cancel (a:=(q.num:Rat)) h2
 rw[h1] at h3
 exact h3
def Den (D:Nat) (q:Rat):Prop:=0<D∧∃ z:Int,q*((D:Nat):Rat)=((z:Int):Rat)
theorem Den.own (q:Rat):Den q.den q:=⟨q.den_pos,q.num,Zb7 q⟩
theorem Den.one {n:Int} : Den 1 ((n:Int):Rat):=⟨by decide,n,by
 have e:((1:Nat):Rat)=1:=rfl
 rw[e,Rat.mul_one]⟩
theorem Den.mul {D E:Nat} {a b:Rat} (h:Den D a) (g:Den E b):Den (D*E) (a*b):=by
 obtain⟨d0,x,hx⟩:=h
 obtain⟨e0,y,hy⟩:=g
 refine⟨Nat.mul_pos d0 e0,x*y,?_⟩
 rw[Rat.natCast_mul,Rat.intCast_mul,← hx,← hy]
 grind
theorem Den.add {D E:Nat} {a b:Rat} (h:Den D a) (g:Den E b):Den (D*E) (a+b):=by
 obtain⟨d0,x,hx⟩:=h
 obtain⟨e0,y,hy⟩:=g
 refine⟨Nat.mul_pos d0 e0,x*E+y*D,?_⟩
 rw[Rat.natCast_mul,Rat.intCast_add,Rat.intCast_mul,Rat.intCast_mul,← hx,← hy,Rat.intCast_natCast,Rat.intCast_natCast]
 grind
theorem Den.le {D:Nat} {q:Rat} (h:Den D q):q.den≤D:=by
 obtain⟨d0,z,hz⟩:=h
 have h1:q.num*D=z*q.den:=by
  have h2:=Zb7 q
  have h3:((q.num*(D:Nat):Int):Rat)=((z*(q.den:Nat):Int):Rat):=by
   rw[Rat.intCast_mul,Rat.intCast_mul,← h2,← hz,Rat.intCast_natCast,Rat.intCast_natCast]
   grind
  exact Rat.intCast_inj.1 h3
 have h2:(q.den:Int) ∣ q.num*D:=⟨z,by rw[h1,Int.mul_comm]⟩
 have h3:q.den ∣ q.num.natAbs*D:=by
  have:=Int.natAbs_dvd_natAbs.2 h2
  rwa [Int.natAbs_mul,Int.natAbs_natCast,Int.natAbs_natCast] at this
 have h4:q.den ∣ D:=Nat.Coprime.dvd_of_dvd_mul_left (Nat.Coprime.symm q.reduced) h3
 exact Nat.le_of_dvd d0 h4
theorem Den.sz {D k M:Nat} {q:Rat} (h:Den D q) (h0:0≤q) (hD:D<10 ^ k) (hM:q≤((M:Nat):Rat)):q.den<10 ^ k∧q.num.toNat≤M*q.den:=by
 refine⟨Nat.lt_of_le_of_lt h.le hD,?_⟩
 have h2:=Zb7 q
 have h3:=ZK h0
 have hd:(0:Rat)≤((q.den:Nat):Rat):=Rat.le_of_lt (Rat.natCast_pos.2 q.den_pos)
 have h4:=Rat.mul_le_mul_of_nonneg_right hM hd
 rw[h2] at h4
 have h5:((q.num:Int):Rat)≤(((M*q.den:Nat):Int):Rat):=by
  rw[Rat.intCast_natCast,Rat.natCast_mul]
  exact h4
 have h6:=Rat.intCast_le_intCast.1 h5
 omega
theorem ZkE {H H' C C' q:Rat} {e1 e2 d1 d2 m:Nat} {k:Nat} (hH:Den e1 H) (hH':Den e2 H') (hC:Den d1 C) (hC':Den d2 C') (hq:Den m q) (hlt:C<C') (hC0:0≤C) {c2:Nat} (hc2:C'*((d2:Nat):Rat)=((c2:Nat):Rat)) (h1:c2<10 ^ k) (h2:d1<10 ^ k) :
  ∃ K:Nat,0<K∧K<10 ^ (k+k)∧Den (K*(e1*e2*m)) (H+(H'-H)/(C'-C)*(q-C)):=by
 obtain⟨e1p,x1,hx1⟩:=hH
 obtain⟨e2p,x2,hx2⟩:=hH'
 obtain⟨d1p,c1,hc1⟩:=hC
 obtain⟨d2p,_⟩:=hC'
 obtain⟨mp,z,hz⟩:=hq
 have p1:(0:Rat)<((d1:Nat):Rat):=Rat.natCast_pos.2 d1p
 have p2:(0:Rat)<((d2:Nat):Rat):=Rat.natCast_pos.2 d2p
 have hKr:(C'-C)*(((d1:Nat):Rat)*((d2:Nat):Rat))=(((c2:Int)*(d1:Int)-c1*(d2:Int):Int):Rat):=by
  rw[Rat.intCast_sub,Rat.intCast_mul,Rat.intCast_mul,← hc1,Rat.intCast_natCast,Rat.intCast_natCast,Rat.intCast_natCast,← hc2]
  grind
 have hpos:0<(C'-C)*(((d1:Nat):Rat)*((d2:Nat):Rat)):=Rat.mul_pos (by grind) (Rat.mul_pos p1 p2)
 rw[hKr] at hpos
 have hK0:0<(c2:Int)*(d1:Int)-c1*(d2:Int):=by
  have e:((0:Int):Rat)=0:=rfl
  rw[← e] at hpos
  exact Rat.intCast_lt_intCast.1 hpos
 have hc1n:0≤c1:=by
  have h3:0≤C*((d1:Nat):Rat):=Rat.mul_nonneg hC0 (Rat.le_of_lt p1)
  rw[hc1] at h3
  have e:((0:Int):Rat)=0:=rfl
  rw[← e] at h3
  exact Rat.intCast_le_intCast.1 h3
 obtain⟨K,hK⟩:∃ K:Nat,(K:Int)=(c2:Int)*(d1:Int)-c1*(d2:Int):=⟨((c2:Int)*(d1:Int)-c1*(d2:Int)).toNat,Int.toNat_of_nonneg (by omega)⟩
 have hKle:(K:Int)≤(c2:Int)*(d1:Int):=by
  have:=Int.mul_nonneg hc1n (Int.natCast_nonneg d2)
  omega
 refine⟨K,by omega,?_,Nat.mul_pos (by omega) (Nat.mul_pos (Nat.mul_pos e1p e2p) mp),x1*e2*(c2*d1*m-z*d1*d2)+x2*e1*(z*d1*d2-c1*d2*m),?_⟩
 ·have h3:K≤c2*d1:=by exact_mod_cast hKle
  exact Nat.lt_of_le_of_lt h3 (Zaq h1 h2)
 ·have hKR:((K:Nat):Rat)=(C'-C)*(((d1:Nat):Rat)*((d2:Nat):Rat)):=by rw[hKr,← hK,Rat.intCast_natCast]
  have hd:C'-C≠0:=by grind
  have hdiv:(H'-H)/(C'-C)*(C'-C)=H'-H:=Rat.div_mul_cancel hd
  simp only[Rat.natCast_mul,Rat.intCast_add,Rat.intCast_mul,Rat.intCast_sub,Rat.intCast_natCast,hKR]
  rw[← hx1,← hx2,← hc1,← hz,← hc2]
  generalize (H'-H)/(C'-C)=sl at *
  generalize ((d1:Nat):Rat)=D1 at *
  generalize ((d2:Nat):Rat)=D2 at *
  generalize ((e1:Nat):Rat)=E1 at *
  generalize ((e2:Nat):Rat)=E2 at *
  generalize ((m:Nat):Rat)=M at *
  clear hKr hKR hx1 hx2 hc1 hz hc2 hpos hK0 hK hKle p1 p2
  grind
def DE (e:Nat) (q:Rat):Prop:=∃ D,Den D q∧D≤10 ^ e
theorem DE.mul {e f:Nat} {a b:Rat} (h:DE e a) (g:DE f b):DE (e+f) (a*b):=by
 obtain⟨D,h1,h2⟩:=h
 obtain⟨E,g1,g2⟩:=g
 exact⟨D*E,h1.mul g1,by rw[Nat.pow_add];exact Nat.mul_le_mul h2 g2⟩
theorem DE.add {e f:Nat} {a b:Rat} (h:DE e a) (g:DE f b):DE (e+f) (a+b):=by
 obtain⟨D,h1,h2⟩:=h
 obtain⟨E,g1,g2⟩:=g
 exact⟨D*E,h1.add g1,by rw[Nat.pow_add];exact Nat.mul_le_mul h2 g2⟩
theorem DE.mono {e f:Nat} {a:Rat} (h:DE e a) (hf:e≤f):DE f a:=by
 obtain⟨D,h1,h2⟩:=h
 exact⟨D,h1,Nat.le_trans h2 (Nat.pow_le_pow_right (by decide) hf)⟩
theorem DE.sz {k:Nat} {q:Rat} (h:Sz k q):DE k q:=⟨q.den,Den.own q,Nat.le_of_lt h.2⟩
theorem DE.int (n:Int):DE 0 ((n:Int):Rat):=⟨1,Den.one,Nat.le_refl _⟩
theorem DE.zero:DE 0 (0:Rat):=DE.int 0
theorem Zkg {t:TaskP} {p:List (List Int)} (ok:TaskOk t) {i:Nat} (hi:i<t.sites.length):∀ k,k≤t.rates.length→DE (9*k) (Zau t p i k)
 | 0,_=>DE.zero
 | k+1,h=>by
  have h1:=Zkg ok hi k (by omega) (p:=p)
  have h2:=(DE.sz (Zdv ok (u:=k) (by omega) hi).2).mul (DE.int (pN p k i))
  have h3:=h1.add h2
  unfold Zau
  exact h3.mono (by omega)
theorem Zl6 {q:Rat} (h0:0≤q):((q.num:Int):Rat)=((q.num.toNat:Nat):Rat):=by
 have h:0≤q.num:=Rat.num_nonneg.2 h0
 obtain⟨k,hk⟩:=Int.eq_ofNat_of_zero_le h
 rw[hk]
 rfl
theorem ZiP {q:Rat} (h0:0≤q):q*((q.den:Nat):Rat)=((q.num.toNat:Nat):Rat):=by
 rw[Zb7 q,Zl6 h0]
theorem ZmH {bs:List BB} (h:CurveP bs) {q:Rat} {m:Nat} (hq:DE m q):DE (72+m) (chF bs q):=by
 obtain⟨k,hk,hr⟩:=ZcV h q
 rw[hr]
 obtain⟨hzC,hzH⟩:=h.sizes
 by_cases hi:k+1<bs.length
 ·have hlt:cR bs k<cR bs (k+1):=(h.up k hi).1
  obtain⟨Dq,hDq,hDm⟩:=hq
  have hC0:0≤cR bs k:=h.conc'.c_nn hk.1
  have hC1:0≤cR bs (k+1):=h.conc'.c_nn hi
  obtain⟨K,K0,K1,hK⟩:=ZkE (k:=18) (Den.own (hR bs k)) (Den.own (hR bs (k+1))) (Den.own (cR bs k)) (Den.own (cR bs (k+1))) hDq hlt hC0 (ZiP hC1) (hzC _ hi).1 (hzC _ hk.1).2
  unfold lin slo
  rw[if_pos hi]
  refine⟨_,hK,?_⟩
  have e1:=Nat.mul_le_mul (Nat.le_of_lt (hzH _ hk.1).2) (Nat.le_of_lt (hzH _ hi).2)
  have e2:=Nat.mul_le_mul (Nat.le_of_lt K1) (Nat.mul_le_mul e1 hDm)
  refine Nat.le_trans e2 ?_
  rw[← Nat.pow_add,← Nat.pow_add,← Nat.pow_add]
  exact Nat.pow_le_pow_right (by decide) (by omega)
 ·have e:lin bs.length (cR bs) (hR bs) k q=hR bs k:=by
   unfold lin slo
   rw[if_neg hi]
   grind
  rw[e]
  exact(DE.sz (hzH _ hk.1)).mono (by omega)
theorem ZmC {q:Rat} (h0:0≤q) {k:Nat} (h:q.num.toNat<10 ^ k):q≤((10 ^ k:Nat):Rat):=by
 have h1:=ZiP h0
 have h2:((1:Nat):Rat)≤((q.den:Nat):Rat):=Rat.natCast_le_natCast.2 q.den_pos
 have h3:=Rat.mul_le_mul_of_nonneg_left h2 h0
 rw[h1] at h3
 have h4:((q.num.toNat:Nat):Rat)≤((10 ^ k:Nat):Rat):=Rat.natCast_le_natCast.2 (Nat.le_of_lt h)
 have e:((1:Nat):Rat)=1:=rfl
 rw[e,Rat.mul_one] at h3
 exact Rat.le_trans h3 h4
theorem Zfo {t:TaskP} (ok:TaskOk t):∀ n,n≤t.sites.length→sumF (wR t) n≤((n*10 ^ 9:Nat):Rat)
 | 0,_=>by
  rw[Nat.zero_mul]
  exact Rat.le_refl
 | n+1,h=>by
  have h1:=Zfo ok n (by omega)
  obtain⟨w1,w2⟩:=Zb8 ok (i:=n) (by omega)
  have h2:=ZmC w1.nn w2.1
  show sumF (wR t) n+wR t n≤_
  rw[Nat.add_mul,Nat.one_mul,Rat.natCast_add]
  grind
theorem ZhP {t:TaskP} {p:List (List Int)} (ok:TaskOk t) (inn:Zbe t p) (hT:t.hours.length≤3):∀ n,n≤t.sites.length→DE (108*n) (sumF (valF t p) n)
 | 0,_=>DE.zero
 | n+1,h=>by
  have h1:=ZhP ok inn hT n (by omega)
  have hi:n<t.sites.length:=by omega
  have h2:=(Zkg (p:=p) ok hi p.length (by rw[inn.1,ok.rates];exact Nat.le_refl _)).mono (f:=27) (by have:=inn.1;omega)
  have h3:=(DE.sz (Zb8 ok hi).2).mul (ZmH (ok.site n hi).2 h2)
  have h4:=h1.add h3
  show DE _ (sumF (valF t p) n+valF t p n)
  exact h4.mono (by omega)
theorem DE.fits {e m:Nat} {q:Rat} (h:DE e q) (h0:0≤q) (hM:q≤((10 ^ m:Nat):Rat)):Sz (m+e+1) q:=by
 obtain⟨D,hD,hle⟩:=h
 have hD2:D<10 ^ (e+1):=Nat.lt_of_le_of_lt hle (Nat.pow_lt_pow_right (by decide) (Nat.lt_succ_self e))
 obtain⟨z1,z2⟩:=hD.sz h0 hD2 hM
 refine⟨?_,Nat.lt_of_lt_of_le z1 (Nat.pow_le_pow_right (by decide) (by omega))⟩
 refine Nat.lt_of_le_of_lt z2 ?_
 have h3:10 ^ m*q.den<10 ^ m*10 ^ (e+1):=Nat.mul_lt_mul_of_pos_left z1 (Nat.pow_pos (by decide))
 rw[← Nat.pow_add] at h3
 exact h3
theorem ZmF {t:TaskP} {p:List (List Int)} (ok:TaskOk t) (inn:Zbe t p) (hN:t.sites.length≤4) (hT:t.hours.length≤3):Z8 (valF t p) t.sites.length:=fun k hk=>by
 have hde:=ZhP ok inn hT k hk
 have h0:0≤sumF (valF t p) k:=Ziz fun i hi=>by
  have hi':i<t.sites.length:=by omega
  obtain⟨_,_,c3⟩:=Zdm ok inn hi' (Nat.le_refl p.length)
  exact Rat.mul_nonneg (Zb8 ok hi').1.nn (Zr.nn (ok.site i hi').2.conc' c3 (ZcV (ok.site i hi').2 _))
 have hM:sumF (valF t p) k≤((10 ^ 10:Nat):Rat):=by
  refine Rat.le_trans (Zda fun i hi=>?_) (Rat.le_trans (Zfo ok k hk) (Rat.natCast_le_natCast.2 ?_))
  ·have hi':i<t.sites.length:=by omega
   have h1:=Rat.mul_le_mul_of_nonneg_left (ZiT (ok.site i hi').2 (covR t p i)) (Zb8 ok hi').1.nn
   rw[Rat.mul_one] at h1
   exact h1
  ·have:k≤4:=by omega
   have h1:=Nat.mul_le_mul_right (10 ^ 9) this
   exact Nat.le_trans h1 (by decide)
 exact(hde.fits h0 hM).fits (by omega) (by omega)
noncomputable def valR (t:TaskP) (p:List (List Int)):Rat:=sumF (valF t p) t.sites.length
def mvU (t:TaskP) (j:Nat):Nat:=j/t.sites.length/t.sites.length
def mvI (t:TaskP) (j:Nat):Nat:=j/t.sites.length % t.sites.length
def mvK (t:TaskP) (j:Nat):Nat:=j % t.sites.length
def mvB (t:TaskP) (p:List (List Int)) (j:Nat):Bool:=decide (0<pN p (mvU t j) (mvI t j)) && (decide (mvI t j≠mvK t j) && decide (rR t (mvU t j) (mvK t j)≠0))
def ZcC (t:TaskP) (p:List (List Int)) (j:Nat):List (List Int):=bump (bump p (mvU t j) (mvI t j) (-1)) (mvU t j) (mvK t j) 1
def mvN (t:TaskP):Nat:=t.hours.length*t.sites.length*t.sites.length
inductive MoveR (t:TaskP) (p:List (List Int)):Option (List (List Int))→Prop
 | no (h:∀ j,j<mvN t→mvB t p j=true→valR t (ZcC t p j)≤valR t p):MoveR t p none
 | yes (j:Nat) (hj:j<mvN t) (hm:mvB t p j=true) (hv:valR t p<valR t (ZcC t p j)) (hf:∀ i,i<j→mvB t p i=true→valR t (ZcC t p i)≤valR t p):MoveR t p (some (ZcC t p j))
theorem MoveR.det {t:TaskP} {p:List (List Int)} {r s:Option (List (List Int))} (h:MoveR t p r) (g:MoveR t p s):r=s:=by
 cases h with
 | no h=>
  cases g with
  | no _=>rfl
  | yes j hj hm hv _=>exact absurd hv (Rat.not_lt.2 (h j hj hm))
 | yes j hj hm hv hf=>
  cases g with
  | no g=>exact absurd hv (Rat.not_lt.2 (g j hj hm))
  | yes i hi gm gv gf=>
   rcases Nat.lt_trichotomy i j with h | rfl | h
   ·exact absurd gv (Rat.not_lt.2 (hf i h gm))
   ·rfl
   ·exact absurd hv (Rat.not_lt.2 (gf j h hm))
inductive ImproveR (t:TaskP):Nat→List (List Int)→List (List Int)→Nat→Prop
 | stop (p:List (List Int)):ImproveR t 0 p p 0
 | rest {n:Nat} {p:List (List Int)} (h:MoveR t p none):ImproveR t (n+1) p p 0
 | more {n k:Nat} {p q r:List (List Int)} (h:MoveR t p (some q)) (g:ImproveR t n q r k):ImproveR t (n+1) p r (k+1)
theorem ImproveR.det {t:TaskP} {n k l:Nat} {p q r:List (List Int)} (h:ImproveR t n p q k) (g:ImproveR t n p r l):q=r∧k=l:=by
 induction h generalizing r l with
 | stop _=>cases g;exact⟨rfl,rfl⟩
 | rest h=>
  cases g with
  | rest _=>exact⟨rfl,rfl⟩
  | more g _=>cases h.det g
 | more h _ ih=>
  cases g with
  | rest g=>cases h.det g
  | more g1 g2=>
   obtain rfl:=Option.some.inj (h.det g1)
   obtain⟨e1,e2⟩:=ih g2
   exact⟨e1,by rw[e2]⟩
theorem ZlU {t:TaskP} {j:Nat} (h:j<mvN t):mvU t j<t.hours.length∧mvI t j<t.sites.length∧mvK t j<t.sites.length:=by
 have h0:0<t.sites.length:=by
  refine Nat.pos_of_ne_zero fun e=>?_
  unfold mvN at h
  rw[e,Nat.mul_zero] at h
  exact absurd h (Nat.not_lt_zero _)
 unfold mvN at h
 exact⟨Nat.div_lt_of_lt_mul (Nat.div_lt_of_lt_mul (by rw[Nat.mul_comm] at h;rwa [Nat.mul_comm t.sites.length t.hours.length])),Nat.mod_lt _ h0,Nat.mod_lt _ h0⟩
section
variable {t:TaskP} {p:List (List Int)}
theorem ZbY (j:Nat):(ZcC t p j).length=p.length:=by unfold ZcC;rw[ZV,ZV]
theorem Zcb {u i:Nat} {d:Int} {v N:Nat} (hv:v<p.length) (h:p[v].length=N):∃ h2:v<(bump p u i d).length,(bump p u i d)[v].length=N:=by
 have h2:v<(bump p u i d).length:=by rw[ZV];exact hv
 exact⟨h2,by rw[Zfe h2];exact h⟩
theorem ZgE (ok:PlanOk t p) {j:Nat} (hj:j<mvN t) (v:Nat):ZJ (ZcC t p j) v t.sites.length=ZJ p v t.sites.length:=by
 obtain⟨h1,h2,h3⟩:=ZlU hj
 have hu:mvU t j<p.length:=by rw[ok.teams];exact h1
 have hr:=ok.row _ hu
 obtain⟨hu2,hr2⟩:=Zcb (u:=mvU t j) (i:=mvI t j) (d:=-1) hu hr
 unfold ZcC
 rw[ZbZ 1 hu2 (by rw[hr2];exact h3),ZbZ (-1) hu (by rw[hr];exact h2)]
 by_cases e:v=mvU t j
 ·rw[if_pos ⟨e,h2⟩,if_pos ⟨e,h3⟩]
  omega
 ·rw[if_neg (fun h=>e h.1),if_neg (fun h=>e h.1)]
  omega
theorem PlanOk.moved (ok:PlanOk t p) {j:Nat} (hj:j<mvN t) (hm:mvB t p j=true):PlanOk t (ZcC t p j):=by
 obtain⟨h1,h2,h3⟩:=ZlU hj
 have hu:mvU t j<p.length:=by rw[ok.teams];exact h1
 have hr:=ok.row _ hu
 obtain⟨hu2,hr2⟩:=Zcb (u:=mvU t j) (i:=mvI t j) (d:=-1) hu hr
 have hs:=ZgE ok hj
 have h48:∀ v,v<p.length→eH t v≤48:=fun v hv=>(ok.task.team v (by rw[ok.task.rates,← ok.teams];exact hv)).1.2
 unfold mvB at hm
 simp only[Bool.and_eq_true,decide_eq_true_eq] at hm
 obtain⟨m1,m2,m3⟩:=hm
 have hval:∀ v i,pN (Go.Proofs.YtmpaflidennnoaaGreatDoor.ZcC t p j) v i=if v=mvU t j∧i=mvK t j then pN p v i+1 else if v=mvU t j∧i=mvI t j then pN p v i-1 else pN p v i:=fun v i=>by
  unfold Go.Proofs.YtmpaflidennnoaaGreatDoor.ZcC
  by_cases e:v=mvU t j∧i=mvK t j
  ·obtain⟨rfl,rfl⟩:=e
   rw[if_pos ⟨rfl,rfl⟩,Zck hu2 (by rw[hr2];exact h3),ZaL (.inr fun e=>m2 e.symm)]
  ·rw[if_neg e,ZaL (by by_cases h:v=mvU t j;exact .inr fun h2=>e ⟨h,h2⟩;exact .inl h)]
   by_cases e2:v=mvU t j∧i=mvI t j
   ·obtain⟨rfl,rfl⟩:=e2
    rw[if_pos ⟨rfl,rfl⟩,Zck hu (by rw[hr];exact h2)]
    omega
   ·rw[if_neg e2,ZaL (by by_cases h:v=mvU t j;exact .inr fun h2=>e2 ⟨h,h2⟩;exact .inl h)]
 have hnn:∀ v i,v<p.length→i<t.sites.length→0≤pN (Go.Proofs.YtmpaflidennnoaaGreatDoor.ZcC t p j) v i:=fun v i hv hi=>by
  have:=(ok.hour v i hv hi).1.1
  rw[hval]
  split
  ·omega
  ·split
   ·rename_i h
    obtain⟨rfl,rfl⟩:=h
    omega
   ·exact this
 refine⟨ok.task,by rw[ZbY];exact ok.teams,fun v hv=>?_,fun v i hv hi=>?_,fun v hv=>?_⟩
 ·rw[ZbY] at hv
  obtain⟨g1,g2⟩:=Zcb (u:=mvU t j) (i:=mvI t j) (d:=-1) hv (ok.row v hv)
  obtain⟨_,g3⟩:=Zcb (u:=mvU t j) (i:=mvK t j) (d:=1) g1 g2
  exact g3
 ·rw[ZbY] at hv
  have h0:=ok.hour v i hv hi
  have hle:=(ZdL (p:=Go.Proofs.YtmpaflidennnoaaGreatDoor.ZcC t p j) (u:=v) (n:=t.sites.length) fun k hk=>hnn v k hv hk).2 i hi
  rw[hs v] at hle
  have:=ok.sum v hv
  have:=h48 v hv
  refine⟨⟨hnn v i hv hi,by omega⟩,fun hp=>?_⟩
  rw[hval] at hp
  split at hp
  ·rename_i h
   obtain⟨rfl,rfl⟩:=h
   exact m3
  ·split at hp
   ·exact h0.2 (by omega)
   ·exact h0.2 hp
 ·rw[ZbY] at hv
  rw[hs v]
  exact ok.sum v hv
theorem MoveR.plan {q:List (List Int)} (h:MoveR t p (some q)) (ok:PlanOk t p):PlanOk t q∧valR t p<valR t q∧∀ v,ZJ q v t.sites.length=ZJ p v t.sites.length:=by
 cases h with
 | yes j hj hm hv hf=>exact⟨ok.moved hj hm,hv,ZgE ok hj⟩
theorem ImproveR.law {n k:Nat} {q:List (List Int)} (h:ImproveR t n p q k) (ok:PlanOk t p) :
  PlanOk t q∧k≤n∧valR t p≤valR t q∧(valR t p<valR t q↔0<k)∧(∀ v,ZJ q v t.sites.length=ZJ p v t.sites.length)∧(k<n→MoveR t q none):=by
 induction h with
 | stop p=>exact⟨ok,Nat.le_refl _,Rat.le_refl,⟨fun h=>absurd h Rat.lt_irrefl,fun h=>absurd h (Nat.lt_irrefl _)⟩,fun _=>rfl,fun h=>absurd h (Nat.lt_irrefl _)⟩
 | rest h=>exact⟨ok,Nat.zero_le _,Rat.le_refl,⟨fun h=>absurd h Rat.lt_irrefl,fun h=>absurd h (Nat.lt_irrefl _)⟩,fun _=>rfl,fun _=>h⟩
 | @more n k p q1 q h _ ih=>
  obtain⟨m1,m2,m3⟩:=h.plan ok
  obtain⟨i1,i2,i3,i4,i5,i6⟩:=ih m1
  have hlt:valR t p<valR t q:=by grind
  exact⟨i1,by omega,Rat.le_of_lt hlt,⟨fun _=>by omega,fun _=>hlt⟩,fun v=>by rw[i5,m3],fun hk=>i6 (by omega)⟩
end
end Go.Proofs.YtmpaflidennnoaaGreatDoor
