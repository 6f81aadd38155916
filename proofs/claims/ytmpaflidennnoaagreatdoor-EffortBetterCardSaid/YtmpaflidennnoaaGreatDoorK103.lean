/- The parts EGainX, EImproveX, ESame, LawEBetter of a proof, put together by program (merge7.py). -/
import Derived.Test.YtmpaflidennnoaaGreatDoorH01
import Derived.Test.YtmpaflidennnoaaGreatDoorH30
import Derived.Test.YtmpaflidennnoaaGreatDoorK102
import Derived.Test.YtmpaflidennnoaaGreatDoorH27
import Derived.Test.YtmpaflidennnoaaGreatDoorH31
import Derived.Test.YtmpaflidennnoaaGreatDoorH32
set_option maxRecDepth 100000
set_option maxHeartbeats 8000000
set_option linter.unusedVariables false
set_option linter.unusedSimpArgs false
namespace Go.Proofs.YtmpaflidennnoaaGreatDoor
open Go.RowKit Go.Shelf
attribute [local go_sem ↓] Go.wp_at_zero Go.wp_at_succ
abbrev inO (n:Int):Obj:=.cells #[.int .i64 n] 3
theorem ZkF {t:TaskP} {p:List (List Int)} {u i:Nat} {Ge Gp Gu Gi Gr:Nat} {ps ph pr pp:Option Addr} {ns nh nr np cs ch cr cp:Nat} {W:World} (he:W.heap[Ge]?=some (efO (.slice ps ns cs) (.slice ph nh ch) (.slice pr nr cr))) (hp:W.heap[Gp]?=some (plO (.slice pp np cp))) (hu':W.heap[Gu]?=some (inO u)) (hi':W.heap[Gi]?=some (inO i)) (hr:W.heap[Gr]?=some (pObj ⟨#[]⟩ ⟨#[]⟩))
  (hT:TaskIn t (.slice ps ns cs) (.slice ph nh ch) (.slice pr nr cr) W) (hI:IIL W (.slice pp np cp) p) (ok:PlanOk t p) (hu:u<t.hours.length) (hi:i<t.sites.length) :
  Calls Tryz.prog 77 #[.pointer (some ⟨Ge,0,none⟩),.pointer (some ⟨Gp,0,none⟩),.pointer (some ⟨Gu,0,none⟩),.pointer (some ⟨Gi,0,none⟩),.pointer (some ⟨Gr,0,none⟩)] W (ZeW (ResQ (fun x y n=>n=0∧IsP (Z0 t p u i) x y) Gr) (fun b=>b≠Gr) W):=by
 have HS0:Hid (∀ V,Below W.heap.size W V→V.heap[Ge]?=some (efO (.slice ps ns cs) (.slice ph nh ch) (.slice pr nr cr))∧V.heap[Gp]?=some (plO (.slice pp np cp))∧V.heap[Gu]?=some (inO u)∧V.heap[Gi]?=some (inO i)∧V.heap[Gr]?=some (pObj ⟨#[]⟩ ⟨#[]⟩)∧TaskIn t (.slice ps ns cs) (.slice ph nh ch) (.slice pr nr cr) V∧IIL V (.slice pp np cp) p):=fun V hV=>
  ⟨(hV.block _ (Array.getElem?_eq_some_iff.1 he).1).trans he,(hV.block _ (Array.getElem?_eq_some_iff.1 hp).1).trans hp,(hV.block _ (Array.getElem?_eq_some_iff.1 hu').1).trans hu',(hV.block _ (Array.getElem?_eq_some_iff.1 hi').1).trans hi',(hV.block _ (Array.getElem?_eq_some_iff.1 hr).1).trans hr,hT.below hV (Nat.le_refl _),IIL.stay2 hI hV (Nat.le_refl _)⟩
 have HOK:=Lib.hid ok
 have HUI:=Lib.hid (And.intro hu hi)
 have hgr:=(Array.getElem?_eq_some_iff.1 hr).1
 clear he hp hr hT hI ok hu hi hu' hi'
 go_enter Tryz.func77,Tryz.ntmps77
 go_wp2_with fail
 refine ZE [(1,0),(1,1),(1,3),(1,4),(0,2),(0,5),(0,6)] (fun V=>Below W.heap.size W V) (fun i=>i==6)
  (by kernel_rfl) (by kernel_rfl) (fun j hj=>by have h:7≤j:=hj;simp;omega) (fun _ _ o _ _ h=>by cases o<;>exact h) (Below.refl _ W).drew ?_
 have HB0:Hid (Below W.heap.size W W.drew):=(Below.refl _ W).drew
 obtain⟨V,hV⟩:∃ z,W.drew=z:=⟨_,rfl⟩
 rw[hV] at HB0 ⊢
 clear hV
 iterate 4
  refine Zj _ rfl rfl (fun w' hS=>by obtain⟨q1,q2,q3,q4,_⟩:=HS0.out _ hS;have e0:=Za q1 0 (v:=.slice ps ns cs) rfl;have e1:=Za q1 1 (v:=.slice ph nh ch) rfl;have e2:=Za q1 2 (v:=.slice pr nr cr) rfl;have p0:=Za q2 0 (v:=.slice pp np cp) rfl;have u0:=Za q3 0 (v:=.int .i64 u) rfl;have i0:=Za q4 0 (v:=.int .i64 i) rfl;go_simp;first | rfl | (rw[if_pos (by omega)])) ?_
  simp only[Zna,Znb,Znc,Act.put,Znd,Zne,Znf]
 refine Zo 48 _ rfl rfl (by go_simp;rfl) ?_
 refine(Zdj (HS0.out _ HB0.out).2.2.2.2.2.1 (HS0.out _ HB0.out).2.2.2.2.2.2 HOK.out.len8.2 HOK.out.task.sites (fun u h=>HOK.out.row u h)).mono ?_
 rintro e V1 ⟨b,m,sv,hv,rv,pv,gq,gc,rfl,hW,hP,hM,hm,hb1,hb⟩
 obtain⟨pb,pc,_,hPW⟩:=hP.toW HOK.out.len8.1
 have HB1:Hid (Below W.heap.size W V1):=HB0.out.trans (hb.mono HB0.out.size)
 have HC:=Lib.hid (ZgZ hW hPW hM (by decide) HOK.out.task HOK.out.inn (by rw[HOK.out.task.rates];exact HUI.out.1) HUI.out.2)
 have hmw:W.heap.size≤m:=Nat.le_trans HB0.out.size hm
 refine .inl ⟨_,rfl,HB1.out,?_⟩
 clear hb hW hP hM hPW hm hb1 HB0
 simp only[Zna,Znb,Znc,Act.put,Znd,Zne,Znf]
 refine Zo 78 _ rfl rfl (by go_simp;rfl) ?_
 refine HC.out.mono ?_
 rintro e V2 ⟨x,y,rfl,hx,hk,_⟩
 have HB2:Hid (Below W.heap.size W V2):=HB1.out.trans (hk.below_of (fun c hc=>by show c≠m;omega) HB1.out.size)
 have HX:=Lib.hid hx
 have HR:=Lib.hid (HS0.out _ HB2.out).2.2.2.2.1
 refine .inl ⟨_,rfl,HB2.out,?_⟩
 clear hk hx HB1 HC
 simp only[Zna,Znb,Znc,Act.put,Znd,Zne,Znf]
 have r0:=Za HR.out 0 (v:=.string ⟨#[]⟩) rfl
 have r1:=Za HR.out 1 (v:=.string ⟨#[]⟩) rfl
 have f0:=Zb HR.out 0
 have f1:=Zb HR.out 1
 refine Zp rfl rfl fun K hK=>?_
 go_simp
 obtain⟨V3,hV3⟩:∃ z,(V2.setCell ⟨Gr,0,none⟩ (.string x)).setCell ⟨Gr,1,none⟩ (.string y)=z:=⟨_,rfl⟩
 have hR3:V3.heap[Gr]?=some (pObj x y):=by rw[← hV3];exact ZR HR.out _ _
 have hK3:Keeps (fun b=>b≠Gr) W V3:=by rw[← hV3];exact((HB2.out.keepsS (fun b=>b≠Gr)).setCell (p:=⟨Gr,0,none⟩) (by simp) _).setCell (p:=⟨Gr,1,none⟩) (by simp) _
 have HF3:=Lib.hid (And.intro hR3 hK3)
 rw[hV3]
 refine hK _ _ (.inl rfl) ?_
 clear hK K hV3 r0 r1 f0 f1 hR3 hK3
 refine Zs ?_
 go_wp2
 exact bodyPost_ret (results_none rfl _ _ _) rfl ⟨0,.inl ⟨rfl,rfl⟩,⟨x,y,HF3.out.1,rfl,HX.out⟩,HF3.out.2⟩
def ZeU (t:TaskP) (p:List (List Int)) (u i:Int):Prop:=PlanOk t p∧(0≤u∧u≤t.hours.length-1)∧(0≤i∧i≤t.sites.length-1)
def ZfC (t:TaskP) (p:List (List Int)) (u i:Int) (x y:ByteArray) (n:Int):Prop:=(¬ ZeU t p u i∧x=⟨#[]⟩∧y=⟨#[]⟩∧n=2)∨(ZeU t p u i∧n=0∧IsP (Z0 t p u.toNat i.toNat) x y)
theorem Zm6 {t:TaskP} {p:List (List Int)} {u i:Int} {sv hv rv pv:Value} {w:World} (hT:TaskIn t sv hv rv w) (hz:LimT t) (hI:IIL w pv p) :
  Calls Tryz.prog 27 #[.agg #[sv,hv,rv],pv,.int .i64 u,.int .i64 i] w (ZD (ZfC t p u i) w):=by
 obtain⟨ps,cs,rfl,_⟩:=hT.sites.shape rfl
 obtain⟨ph,ch,rfl,_⟩:=hT.hours.shape rfl
 obtain⟨pr,cr,rfl,_⟩:=hT.rates.shape rfl
 obtain⟨pp,pc,rfl,_⟩:=hI.shape rfl
 obtain⟨ns,hns⟩:∃ n,t.sites.length=n:=⟨_,rfl⟩
 obtain⟨nh,hnh⟩:∃ n,t.hours.length=n:=⟨_,rfl⟩
 obtain⟨nr,hnr⟩:∃ n,t.rates.length=n:=⟨_,rfl⟩
 obtain⟨np,hnp⟩:∃ n,p.length=n:=⟨_,rfl⟩
 rw[hns,hnh,hnr] at hT ⊢
 rw[hnp] at hI ⊢
 have HT:=Lib.hid hT
 have HI:=Lib.hid hI
 have HZ:=Lib.hid hz
 have HL:=Lib.hid (And.intro hns hnh)
 have hmf:∀ (fn:Fn) (first cap:Array Value) (w:World),(Instr.makeFunc fn first cap).run Tryz.prog w=.ok (.func fn first cap) w:=fun _ _ _ _=>rfl
 obtain⟨G,hG⟩:∃ G,w.heap.size=G:=⟨_,rfl⟩
 obtain⟨w1,hw1⟩:∃ z,(((((w.alloc (efO (.slice ps ns cs) (.slice ph nh ch) (.slice pr nr cr))).alloc (plO (.slice pp np pc))).alloc (inO u)).alloc (inO i)).alloc (pObj ⟨#[]⟩ ⟨#[]⟩))=z:=⟨_,rfl⟩
 have HE1:Hid (Env w.heap.size w [(G+1+1+1+1,pObj ⟨#[]⟩ ⟨#[]⟩),(G+1+1+1,inO i),(G+1+1,inO u),(G+1,plO (.slice pp np pc)),(G,efO (.slice ps ns cs) (.slice ph nh ch) (.slice pr nr cr))] [] w1):=by
  rw[← hw1,← hG]
  exact(((((Env.start w).push _ rfl).push _ (by simp)).push _ (by simp)).push _ (by simp)).push _ (by simp)
 have HGG:=Lib.hid hG
 have e0:=HE1.out.cell 4 0 (v:=.slice ps ns cs) rfl rfl
 have e1:=HE1.out.cell 4 1 (v:=.slice ph nh ch) rfl rfl
 have e2:=HE1.out.cell 4 2 (v:=.slice pr nr cr) rfl rfl
 have p0:=HE1.out.cell 3 0 (v:=.slice pp np pc) rfl rfl
 clear hT hI hz hns hnh hnr hnp
 go_enter Tryz.func27,Tryz.ntmps27
 go_wp2_with fail
 refine(ZbA (HT.out.below HE1.out.base (Nat.le_refl _)) HZ.out (IIL.stay2 HI.out HE1.out.base (Nat.le_refl _))).mono ?_
 rintro e w2 ⟨hE,hb⟩
 have HE2:=Lib.hid (HE1.out.step hb)
 clear hb HE1 e0 e1 e2 p0 hw1 hG
 rcases hE with ⟨hok,rfl⟩ | ⟨hok,rfl⟩
 rotate_left
 ·have HNO:Hid (¬ ZeU t p u i):=fun h=>hok h.1
  clear hok
  have HA:Hid (ZfC t p u i ⟨#[]⟩ ⟨#[]⟩ 2):=.inl ⟨HNO.out,rfl,rfl,rfl⟩
  have r0:=HE2.out.cell 0 0 (v:=.string ⟨#[]⟩) rfl rfl
  have r1:=HE2.out.cell 0 1 (v:=.string ⟨#[]⟩) rfl rfl
  have f0:=HE2.out.free 0 0 rfl
  have f1:=HE2.out.free 0 1 rfl
  go_wp2
  have HE9:=Lib.hid (HE2.out.fill (.string ⟨#[]⟩) (.string ⟨#[]⟩))
  have q0:=HE9.out.cell 0 0 (v:=.string ⟨#[]⟩) rfl rfl
  have q1:=HE9.out.cell 0 1 (v:=.string ⟨#[]⟩) rfl rfl
  exact bodyPost_ret (v:=.tuple #[.agg #[.string ⟨#[]⟩,.string ⟨#[]⟩],.int .i64 2]) (by simp[results,Tryz.f27,go_sem,q0,q1]) rfl ⟨⟨#[]⟩,⟨#[]⟩,2,rfl,HA.out,HE9.out.base⟩
 have HOK:=Lib.hid hok
 have hT8:1≤nh∧nh≤8:=by rw[← HL.out.2];exact hok.task.teams
 have hN24:1≤ns∧ns≤24:=by rw[← HL.out.1];exact hok.task.sites
 have e1:=HE2.out.cell 4 1 (v:=.slice ph nh ch) rfl rfl
 have u0:=HE2.out.cell 2 0 (v:=.int .i64 u) rfl rfl
 clear hok
 go_wp2_with fail
 refine(ZaT u 0 ((nh:Int)-1) _).mono ?_
 rintro e w3 ⟨rfl,hb⟩
 have HE3:=Lib.hid (HE2.out.step hb)
 clear hb HE2 e1 u0
 by_cases hU:0≤u∧u≤(nh:Int)-1
 rotate_left
 ·have HNO:Hid (¬ ZeU t p u i):=fun h=>hU (by have:=h.2.1;rw[HL.out.2] at this;exact this)
  have hw:(decide ((0:Int)≤u) && decide (u≤(nh:Int)-1))=false:=by
   rw[← Bool.not_eq_true]
   simp only[Bool.and_eq_true,decide_eq_true_eq]
   exact hU
  rw[hw]
  clear hU hw
  have HA:Hid (ZfC t p u i ⟨#[]⟩ ⟨#[]⟩ 2):=.inl ⟨HNO.out,rfl,rfl,rfl⟩
  have r0:=HE3.out.cell 0 0 (v:=.string ⟨#[]⟩) rfl rfl
  have r1:=HE3.out.cell 0 1 (v:=.string ⟨#[]⟩) rfl rfl
  have f0:=HE3.out.free 0 0 rfl
  have f1:=HE3.out.free 0 1 rfl
  go_wp2
  have HE9:=Lib.hid (HE3.out.fill (.string ⟨#[]⟩) (.string ⟨#[]⟩))
  have q0:=HE9.out.cell 0 0 (v:=.string ⟨#[]⟩) rfl rfl
  have q1:=HE9.out.cell 0 1 (v:=.string ⟨#[]⟩) rfl rfl
  exact bodyPost_ret (v:=.tuple #[.agg #[.string ⟨#[]⟩,.string ⟨#[]⟩],.int .i64 2]) (by simp[results,Tryz.f27,go_sem,q0,q1]) rfl ⟨⟨#[]⟩,⟨#[]⟩,2,rfl,HA.out,HE9.out.base⟩
 have hw:(decide ((0:Int)≤u) && decide (u≤(nh:Int)-1))=true:=by simp;exact hU
 rw[hw]
 clear hw
 have e0:=HE3.out.cell 4 0 (v:=.slice ps ns cs) rfl rfl
 have i0:=HE3.out.cell 1 0 (v:=.int .i64 i) rfl rfl
 go_wp2_with fail
 refine(ZaT i 0 ((ns:Int)-1) _).mono ?_
 rintro e w4 ⟨rfl,hb⟩
 have HE4:=Lib.hid (HE3.out.step hb)
 clear hb HE3 e0 i0
 by_cases hX:0≤i∧i≤(ns:Int)-1
 rotate_left
 ·have HNO:Hid (¬ ZeU t p u i):=fun h=>hX (by have:=h.2.2;rw[HL.out.1] at this;exact this)
  have hw:(decide ((0:Int)≤i) && decide (i≤(ns:Int)-1))=false:=by
   rw[← Bool.not_eq_true]
   simp only[Bool.and_eq_true,decide_eq_true_eq]
   exact hX
  rw[hw]
  clear hX hw
  have HA:Hid (ZfC t p u i ⟨#[]⟩ ⟨#[]⟩ 2):=.inl ⟨HNO.out,rfl,rfl,rfl⟩
  have r0:=HE4.out.cell 0 0 (v:=.string ⟨#[]⟩) rfl rfl
  have r1:=HE4.out.cell 0 1 (v:=.string ⟨#[]⟩) rfl rfl
  have f0:=HE4.out.free 0 0 rfl
  have f1:=HE4.out.free 0 1 rfl
  go_wp2
  have HE9:=Lib.hid (HE4.out.fill (.string ⟨#[]⟩) (.string ⟨#[]⟩))
  have q0:=HE9.out.cell 0 0 (v:=.string ⟨#[]⟩) rfl rfl
  have q1:=HE9.out.cell 0 1 (v:=.string ⟨#[]⟩) rfl rfl
  exact bodyPost_ret (v:=.tuple #[.agg #[.string ⟨#[]⟩,.string ⟨#[]⟩],.int .i64 2]) (by simp[results,Tryz.f27,go_sem,q0,q1]) rfl ⟨⟨#[]⟩,⟨#[]⟩,2,rfl,HA.out,HE9.out.base⟩
 have hw:(decide ((0:Int)≤i) && decide (i≤(ns:Int)-1))=true:=by simp;exact hX
 rw[hw]
 clear hw
 obtain⟨u,rfl⟩:∃ n:Nat,u=n:=⟨u.toNat,by omega⟩
 obtain⟨i,rfl⟩:∃ n:Nat,i=n:=⟨i.toNat,by omega⟩
 have HAO:Hid (ZeU t p u i):=⟨HOK.out,by rw[HL.out.2];exact hU,by rw[HL.out.1];exact hX⟩
 have HUI:Hid (u<t.hours.length∧i<t.sites.length):=by
  show _∧_
  rw[HL.out.1,HL.out.2]
  omega
 have hs1:G+5≤w4.heap.size:=by
  have:=HE4.out.lt 0 rfl
  omega
 have HTR:Hid (Calls Tryz.prog 50 #[.func (.func 77) #[] #[.pointer (some ⟨G,0,none⟩),.pointer (some ⟨G+1,0,none⟩),.pointer (some ⟨G+1+1,0,none⟩),.pointer (some ⟨G+1+1+1,0,none⟩),.pointer (some ⟨G+1+1+1+1,0,none⟩)]] w4 (Zde (ResQ (fun x y n=>n=0∧IsP (Z0 t p u i) x y) (G+1+1+1+1)) (fun b=>b≠G+1+1+1+1) w4)):=by
  have hal:Below w4.heap.size w4 (w4.alloc (erO 0)):=(Below.refl _ w4).alloc (Nat.le_refl _) _
  have hE2:=HE4.out.step hal
  refine ZcL (enters_of Tryz.func77 (by kernel_rfl) rfl) (fun b hb=>by show b≠G+1+1+1+1;omega) (fun n W W'=>ResQ.stay (by omega) n W W') ?_
  have hbw:Below w.heap.size w (w4.alloc (erO 0)):=HE4.out.base.trans (hal.mono HE4.out.own)
  exact ZkF (hE2.block 4 rfl) (hE2.block 3 rfl) (hE2.block 2 rfl) (hE2.block 1 rfl) (hE2.block 0 rfl) (HT.out.below hbw (Nat.le_refl _)) (IIL.stay2 HI.out hbw (Nat.le_refl _)) HOK.out HUI.out.1 HUI.out.2
 clear hU hX
 go_wp2_with fail
 refine HTR.out.mono ?_
 rintro e w5 ⟨n,rfl,⟨x,y,hxy,rfl,hS⟩,hk⟩
 have HA:Hid (ZfC t p u i x y 0):=.inr ⟨HAO.out,rfl,hS⟩
 have HXY:=Lib.hid hxy
 have HB5:Hid (Below w.heap.size w w5):=HE4.out.base.trans (hk.below_of (fun b hb=>by have:=HGG.out;show b≠G+1+1+1+1;omega) HE4.out.own)
 clear hS hk HTR
 have r0:=Za HXY.out 0 (v:=.string x) rfl
 have r1:=Za HXY.out 1 (v:=.string y) rfl
 have f0:=Zb HXY.out 0
 have f1:=Zb HXY.out 1
 clear hxy
 go_wp2
 obtain⟨q0,q1⟩:=Zf HXY.out (.string x) (.string y)
 exact bodyPost_ret (v:=.tuple #[.agg #[.string x,.string y],.int .i64 0]) (by simp[results,Tryz.f27,go_sem,q0,q1]) rfl ⟨x,y,0,rfl,HA.out,Zd HB5.out (by have:=HGG.out;omega) (.string x) (.string y)⟩
theorem Zb0.mono {a c:Nat} {Q:World→Prop} {w:World} (h:Zb0 a Q w) (hc:a≤c):Zb0 c Q w:=by
 obtain⟨w1,h1,h2,h3⟩:=h
 exact⟨w1,h1,h2,by omega⟩
def ZdI (t:TaskP) (p:List (List Int)) (R b m Gm:Nat) (pv:Value) (gq gc:Nat→Nat) (n:Int) (W:World):Prop:=
 n=0∧∃ q k,ImproveR t R p q k∧PlanOk t q∧PlanO q t.sites.length m b pv gq gc W∧W.heap[Gm]?=some (inO (k:Nat))
theorem Zir {t:TaskP} {p:List (List Int)} {b m T R Gm Gr Gw:Nat} {sv hv rv pv:Value} {gq gc:Nat→Nat} {w:World} (hW:WorkW t b m sv hv rv pv w) (hP:PlanO p t.sites.length m b pv gq gc w) (hm:Memo w m t 0) (ok:PlanOk t p) (hT:p.length=T) (hR:R≤64)
  (hfit:∀ q,PlanOk t q→ZZ (valF t q) t.sites.length) (h1:w.heap[Gm]?=some (inO 0)) (h2:w.heap[Gr]?=some (inO R)) (h3:w.heap[Gw]?=some (wkO b))
  (hE:Zb0 Gm (TaskIn t sv hv rv) w) (hne:(Gm<m∧Gr<m∧Gm≠Gr)∧Gw≠m∧(∀ u,u<T→gq u≠Gw)∧b≠Gm) :
  Calls Tryz.prog 91 #[.pointer (some ⟨Gm,0,none⟩),.pointer (some ⟨Gr,0,none⟩),.pointer (some ⟨Gw,0,none⟩)] w (ZeW (ZdI t p R b m Gm pv gq gc) (fun x=>NotG m T gq x∧x≠Gm) w):=by
 have hgm:∀ u,u<T→m<gq u:=fun u hu=>(hP.gt (by rw[hT];exact hu)).1
 have hpo:∀ x,pv.ownBlock=some x→m<x:=fun x hx=>(World.ownsRow.lt hP.outer x hx).1
 obtain⟨⟨n1,n2,n3⟩,n4,n5,n6⟩:=hne
 have HG:=Lib.hid (And.intro hgm (And.intro hpo n5))
 have HFIT:=Lib.hid hfit
 have HTL:=Lib.hid hT
 have HI:Hid (WorkW t b m sv hv rv pv w∧PlanO p t.sites.length m b pv gq gc w∧Memo w m t 0∧w.heap[Gm]?=some (inO 0)∧w.heap[Gr]?=some (inO R)∧w.heap[Gw]?=some (wkO b)∧Keeps (fun x=>NotG m T gq x∧x≠Gm) w w):=⟨hW,hP,hm,h1,h2,h3,Keeps.refl _ _⟩
 have HEL:=Lib.hid hE
 have HOK:=Lib.hid ok
 have hGwm:Gw≠Gm:=fun e=>by
  subst e
  rw[h1] at h3
  cases h3
 clear hW hP hm ok hT hfit h1 h2 h3 hgm hpo n5 hE
 go_enter Tryz.func91,Tryz.ntmps91
 go_wp2_with fail
 go_loopg [] 65 (fun gf wr=>∃ (pl:List (List Int)) (k:Nat),Hid (k≤R∧R-k<gf∧PlanOk t pl∧pl.length=T∧∀ n q r,ImproveR t n pl q r→ImproveR t (n+k) p q (r+k))∧Hid (WorkW t b m sv hv rv pv wr∧PlanO pl t.sites.length m b pv gq gc wr∧Memo wr m t (200000*k)∧wr.heap[Gm]?=some (inO (k:Nat))∧wr.heap[Gr]?=some (inO R)∧wr.heap[Gw]?=some (wkO b)∧Keeps (fun x=>NotG m T gq x∧x≠Gm) w wr))
 case atStart=>exact⟨p,0,⟨Nat.zero_le _,by omega,HOK.out,HTL.out,fun n q r h=>h⟩,HI⟩
 case round=>
  clear HI
  obtain⟨pl,k,HR,HI⟩:=hrel
  obtain⟨i1,i2,i3,i4,i5,i6,i7⟩:=HI.out
  have a0:=Za i4 0 (v:=.int .i64 (k:Nat)) rfl
  have a1:=Za i5 0 (v:=.int .i64 R) rfl
  have a2:=Za i6 0 (v:=.pointer (some ⟨b,0,none⟩)) rfl
  obtain⟨j1,j2,j3,j4,j5⟩:=HR.out
  by_cases hlt:(k:Int)<(R:Int)
  ·have hcall:=ZiD i1 i2 i3 (by omega) j3 j4 HFIT.out
   have HC:=Lib.hid hcall
   clear i1 i2 i3 i4 i5 i6 i7 hcall j3 j4 j5
   go_wp2_with fail
   refine HC.out.mono ?_
   rintro e w2 ⟨r,rfl,hM,hP2,hm2,hk⟩
   have hI:=HI.out
   have HM:=Lib.hid hM
   have hW2:WorkW t b m sv hv rv pv w2:=hI.1.keepS hk (fun x hx=>⟨by omega,fun u hu e=>by have:=HG.out.1 u hu;omega⟩) ⟨hI.1.ne,fun u hu e=>(hI.2.1.out.2 u (by rw[HR.out.2.2.2.1];exact hu)).1 e.symm⟩
   have hg:∀ {x o},wr.heap[x]?=some o→x<m∨x=Gw→w2.heap[x]?=some o:=fun {x o} h hx=>hk.at h ⟨by omega,fun u hu e=>by
    have h1:=HG.out.1 u hu
    have h2:=HG.out.2.2 u hu
    omega⟩
   have b0:=hg hI.2.2.2.1 (.inl n1)
   have b1:=hg hI.2.2.2.2.1 (.inl n2)
   have b2:=hg hI.2.2.2.2.2.1 (.inr rfl)
   have hk2:Keeps (fun x=>NotG m T gq x∧x≠Gm) w w2:=hI.2.2.2.2.2.2.trans (hk.mono fun x _ h=>h.1)
   cases r with
   | none=>
    have HQ:Hid (ZdI t p R b m Gm pv gq gc 0 w2):=by
     have hR:=HR.out.2.2.2.2 (R-k) pl 0 (by
      rw[show R-k=(R-k-1)+1 by omega]
      exact .rest HM.out)
     rw[show R-k+k=R by omega,Nat.zero_add] at hR
     exact⟨rfl,pl,k,hR,HR.out.2.2.1,hP2,b0⟩
    have HK2:=Lib.hid hk2
    clear hM hP2 hm2 hk hI hW2 hg hk2 a0 a1 a2 HC b0 b1 b2
    go_wp2
    exact bodyPost_ret (results_none rfl _ _ _) rfl ⟨0,.inl ⟨rfl,rfl⟩,HQ.out,HK2.out⟩
   | some q=>
    obtain⟨y1,y2,y3⟩:=HM.out.plan HR.out.2.2.1
    obtain⟨gk',rfl⟩:∃ z,gk=z+1:=⟨gk-1,by omega⟩
    have HNX:Hid (k+1≤R∧R-(k+1)<gk'∧PlanOk t q∧q.length=T∧∀ n q' r,ImproveR t n q q' r→ImproveR t (n+(k+1)) p q' (r+(k+1))):=
     ⟨by omega,by omega,y1,by rw[y1.teams,← HR.out.2.2.1.teams];exact HR.out.2.2.2.1,fun n q' r h=>by
      have:=HR.out.2.2.2.2 _ _ _ (.more HM.out h)
      rw[show n+(k+1)=n+1+k by omega,show r+(k+1)=r+1+k by omega]
      exact this⟩
    have d0:=Za b0 0 (v:=.int .i64 (k:Nat)) rfl
    have f0:=Zb b0 0
    have eW:IntKind.i64.wrap ((k:Int)+1)=(k:Int)+1:=IntWalk.i64_in _ (by omega)
    obtain⟨V,hV⟩:∃ z,w2.setCell ⟨Gm,0,none⟩ (.int .i64 ((k:Int)+1))=z:=⟨_,rfl⟩
    have ek:((k+1:Nat):Int)=(k:Int)+1:=by omega
    have k9:Keeps (fun x=>x≠Gm) w2 V:=by rw[← hV];exact(Keeps.refl _ w2).setCell (p:=⟨Gm,0,none⟩) (by simp) _
    have HV:Hid (WorkW t b m sv hv rv pv V∧PlanO q t.sites.length m b pv gq gc V∧Memo V m t (200000*(k+1))∧V.heap[Gm]?=some (inO ((k+1:Nat):Int))∧V.heap[Gr]?=some (inO R)∧V.heap[Gw]?=some (wkO b)∧Keeps (fun x=>NotG m T gq x∧x≠Gm) w V):=by
     have hP3:PlanO q t.sites.length m b pv gq gc w2:=hP2
     refine⟨?_,?_,(hm2.stay (k9.block m hm2.lt (by show m≠Gm;omega))).mono (by omega),by rw[← hV,ek];exact Joins.block_setCell b0 _,k9.at b1 (Ne.symm n3),k9.at b2 hGwm,hk2.trans (k9.mono fun x _ h=>h.2)⟩
     ·refine⟨k9.at hW2.blk n6,hW2.ne,?_⟩
      exact(HEL.out.keepS (hk2.trans (k9.mono fun x _ h=>h.2)) (fun x hx=>⟨⟨by omega,fun u hu e=>by have:=HG.out.1 u hu;omega⟩,by omega⟩)).mono (by omega)
     ·refine⟨ZH hP3.outer fun x hx=>k9.block x (World.ownsRow.lt hP3.outer x hx).2 (fun e=>?_),fun v hv=>ZH (hP3.row v hv) fun x hx=>k9.block x (World.ownsRow.lt (hP3.row v hv) x hx).2 (fun e=>?_),hP3.inj,hP3.out⟩
      ·have:=HG.out.2.1 x hx
       omega
      ·have hx':gq v=x:=by simpa[Value.ownBlock] using hx
       have:=(hP3.gt hv).1
       omega
    clear hM hP2 hm2 hk hI hW2 hg hk2 a0 a1 a2 HC b0 b1 b2 k9 y1 y2 y3
    clear ek
    go_wp2
    go_roundg gk'
    case measure=>omega
    case rel=>exact⟨q,k+1,HNX,by first | exact HV | (rw[hV];exact HV)⟩
  ·obtain rfl:k=R:=by omega
   have HQ:Hid (ZdI t p k b m Gm pv gq gc 0 wr):=by
    have hR:=j5 0 pl 0 (.stop pl)
    rw[Nat.zero_add] at hR
    exact⟨rfl,pl,k,hR,j3,i2,i4⟩
   have HK7:=Lib.hid i7
   clear i1 i2 i3 i4 i5 i6 i7
   go_wp2
   exact bodyPost_ret (results_none rfl _ _ _) rfl ⟨0,.inl ⟨rfl,rfl⟩,HQ.out,HK7.out⟩
def Zly (t:TaskP) (p:List (List Int)) (R:Int) (w:World) (e:Ending) (w':World):Prop:=
 ((¬ (PlanOk t p∧0≤R∧R≤64)∧e=.returned (.tuple #[.slice none 0 0,.int .i64 0,.int .i64 2]))∨
  ((PlanOk t p∧0≤R∧R≤64)∧∃ q k pv,ImproveR t R.toNat p q k∧PlanOk t q∧IIL w' pv q∧e=.returned (.tuple #[pv,.int .i64 (k:Nat),.int .i64 0])))∧Below w.heap.size w w'
theorem Zev {t:TaskP} {p:List (List Int)} {R:Int} {sv hv rv pv:Value} {w:World} (hT:TaskIn t sv hv rv w) (hz:LimT t) (hI:IIL w pv p) (hsm:TaskOk t→t.sites.length≤4∧t.hours.length≤3) :
  Calls Tryz.prog 39 #[.agg #[sv,hv,rv],pv,.int .i64 R] w (Zly t p R w):=by
 obtain⟨ps,cs,rfl,_⟩:=hT.sites.shape rfl
 obtain⟨ph,ch,rfl,_⟩:=hT.hours.shape rfl
 obtain⟨pr,cr,rfl,_⟩:=hT.rates.shape rfl
 obtain⟨pp,pc,rfl,_⟩:=hI.shape rfl
 obtain⟨ns,hns⟩:∃ n,t.sites.length=n:=⟨_,rfl⟩
 obtain⟨nh,hnh⟩:∃ n,t.hours.length=n:=⟨_,rfl⟩
 obtain⟨nr,hnr⟩:∃ n,t.rates.length=n:=⟨_,rfl⟩
 obtain⟨np,hnp⟩:∃ n,p.length=n:=⟨_,rfl⟩
 rw[hns,hnh,hnr] at hT ⊢
 rw[hnp] at hI ⊢
 have HT:=Lib.hid hT
 have HI:=Lib.hid hI
 have HZ:=Lib.hid hz
 have HSM:=Lib.hid hsm
 have HNP:=Lib.hid hnp
 have hmf:∀ (fn:Fn) (first cap:Array Value) (w:World),(Instr.makeFunc fn first cap).run Tryz.prog w=.ok (.func fn first cap) w:=fun _ _ _ _=>rfl
 obtain⟨G,hG⟩:∃ G,w.heap.size=G:=⟨_,rfl⟩
 obtain⟨w1,hw1⟩:∃ z,(((w.alloc (efO (.slice ps ns cs) (.slice ph nh ch) (.slice pr nr cr))).alloc (inO R)).alloc (inO 0))=z:=⟨_,rfl⟩
 have HE1:Hid (Env w.heap.size w [(G+1+1,inO 0),(G+1,inO R),(G,efO (.slice ps ns cs) (.slice ph nh ch) (.slice pr nr cr))] [] w1):=by
  rw[← hw1,← hG]
  exact(((Env.start w).push _ rfl).push _ (by simp)).push _ (by simp)
 have HGG:=Lib.hid hG
 have e0:=HE1.out.cell 2 0 (v:=.slice ps ns cs) rfl rfl
 have e1:=HE1.out.cell 2 1 (v:=.slice ph nh ch) rfl rfl
 have e2:=HE1.out.cell 2 2 (v:=.slice pr nr cr) rfl rfl
 clear hT hI hz hns hnh hnr hnp hsm
 go_enter Tryz.func39,Tryz.ntmps39
 go_wp2_with fail
 refine(ZbA (HT.out.below HE1.out.base (Nat.le_refl _)) HZ.out (IIL.stay2 HI.out HE1.out.base (Nat.le_refl _))).mono ?_
 rintro e w2 ⟨hE,hb⟩
 have HE2:=Lib.hid (HE1.out.step hb)
 clear hb HE1 e0 e1 e2 hw1 hG
 rcases hE with ⟨hok,rfl⟩ | ⟨hok,rfl⟩
 rotate_left
 ·have HNO:Hid (¬ (PlanOk t p∧0≤R∧R≤64)):=fun h=>hok h.1
  clear hok
  have d0:=HE2.out.cell 0 0 (v:=.int .i64 0) rfl rfl
  have f0:=HE2.out.free 0 0 rfl
  have HS9:=Lib.hid (HE2.out.store 0 0 (.int .i64 0) rfl)
  go_wp2
  have q0:=HS9.out.cell 0 0 (v:=.int .i64 0) rfl rfl
  exact bodyPost_ret (v:=.tuple #[.slice none 0 0,.int .i64 0,.int .i64 2]) (by simp[results,Tryz.f39,go_sem,q0]) rfl ⟨.inl ⟨HNO.out,rfl⟩,HS9.out.base⟩
 have HOK:=Lib.hid hok
 have r0:=HE2.out.cell 1 0 (v:=.int .i64 R) rfl rfl
 clear hok
 go_wp2_with fail
 refine(ZaT R 0 64 _).mono ?_
 rintro e w3 ⟨rfl,hb⟩
 have HE3:=Lib.hid (HE2.out.step hb)
 clear hb HE2 r0
 by_cases hU:0≤R∧R≤64
 rotate_left
 ·have HNO:Hid (¬ (PlanOk t p∧0≤R∧R≤64)):=fun h=>hU h.2
  have hw:(decide ((0:Int)≤R) && decide (R≤64))=false:=by
   rw[← Bool.not_eq_true]
   simp only[Bool.and_eq_true,decide_eq_true_eq]
   exact hU
  rw[hw]
  clear hU hw
  have d0:=HE3.out.cell 0 0 (v:=.int .i64 0) rfl rfl
  have f0:=HE3.out.free 0 0 rfl
  have HS9:=Lib.hid (HE3.out.store 0 0 (.int .i64 0) rfl)
  go_wp2
  have q0:=HS9.out.cell 0 0 (v:=.int .i64 0) rfl rfl
  exact bodyPost_ret (v:=.tuple #[.slice none 0 0,.int .i64 0,.int .i64 2]) (by simp[results,Tryz.f39,go_sem,q0]) rfl ⟨.inl ⟨HNO.out,rfl⟩,HS9.out.base⟩
 have hw:(decide ((0:Int)≤R) && decide (R≤64))=true:=by simp;exact hU
 rw[hw]
 clear hw
 have HYES:Hid (PlanOk t p∧0≤R∧R≤64):=⟨HOK.out,hU⟩
 obtain⟨R,rfl⟩:∃ n:Nat,R=n:=⟨R.toNat,by omega⟩
 have e0:=HE3.out.cell 2 0 (v:=.slice ps ns cs) rfl rfl
 have e1:=HE3.out.cell 2 1 (v:=.slice ph nh ch) rfl rfl
 have e2:=HE3.out.cell 2 2 (v:=.slice pr nr cr) rfl rfl
 go_wp2_with fail
 have hT3:=HT.out.below HE3.out.base (Nat.le_refl _)
 refine(ZfX hT3 (IIL.stay2 HI.out HE3.out.base (Nat.le_refl _)) HOK.out.len8.2 HOK.out.task.sites (fun u h=>HOK.out.row u h)).mono ?_
 rintro e w4 ⟨b,m,pv,gq,gc,rfl,hW,hP,hM,hm,hb1,hb⟩
 obtain⟨q,hq⟩:∃ g,w4.heap.size=g:=⟨_,rfl⟩
 obtain⟨w5,hw5⟩:∃ z,w4.alloc (wkO b)=z:=⟨_,rfl⟩
 have hE4:=HE3.out.step hb
 have HE5:Hid (Env w.heap.size w [(q,wkO b),(G+1+1,inO 0),(G+1,inO R),(G,efO (.slice ps ns cs) (.slice ph nh ch) (.slice pr nr cr))] [] w5):=by rw[← hw5];exact hE4.push _ hq.symm
 have hb5:Below w4.heap.size w4 w5:=by rw[← hw5];exact(Below.refl _ w4).alloc (Nat.le_refl _) _
 have hsG:G+3≤w3.heap.size:=by
  have:=HE3.out.lt 0 rfl
  omega
 have hTR:Calls Tryz.prog 50 #[.func (.func 91) #[] #[.pointer (some ⟨G+1+1,0,none⟩),.pointer (some ⟨G+1,0,none⟩),.pointer (some ⟨q,0,none⟩)]] w5 (Zde (ZdI t p R b m (G+1+1) pv gq gc) (fun x=>NotG m np gq x∧x≠G+1+1) w5):=by
  have hal:Below w5.heap.size w5 (w5.alloc (erO 0)):=(Below.refl _ w5).alloc (Nat.le_refl _) _
  have hE6:=HE5.out.step hal
  have h46:Below w4.heap.size w4 (w5.alloc (erO 0)):=hb5.trans (hal.mono hb5.size)
  have hgs:∀ u,u<np→gq u<w4.heap.size:=fun u hu=>(hP.gt (by rw[HNP.out];exact hu)).2
  have hpo:∀ x,pv.ownBlock=some x→x<w4.heap.size:=fun x hx=>(World.ownsRow.lt hP.outer x hx).2
  have h45:=hb5.size
  have hmV:=hM.lt
  refine ZcL (enters_of Tryz.func91 (by kernel_rfl) rfl) (fun x hx=>⟨⟨by omega,fun u hu e=>by have:=hgs u hu;omega⟩,by have:=hb.size;omega⟩) (fun n W W' hQ hk=>?_) ?_
  ·obtain⟨h0,r,k,h1,h2,h3,h4⟩:=hQ
   refine⟨h0,r,k,h1,h2,h3.keepG (fun e=>by have:=hpo _ e;omega) (fun u hu e=>?_) hk,hk.at h4 (by have:=hb.size;show G+1+1≠_;omega)⟩
   have:=hgs u (by rw[h2.teams,← HOK.out.teams,HNP.out] at hu;exact hu)
   omega
  ·have hbw:Below w.heap.size w (w5.alloc (erO 0)):=hE6.base
   refine Zir (hW.keep (h46.keepsS _)) (hP.keep (h46.keepsS _)) (hM.step h46) HOK.out HNP.out (by omega) (fun r hr=>ZfK hr.task hr.inn (HSM.out hr.task).1 (HSM.out hr.task).2) (hE6.block 1 rfl) (hE6.block 2 rfl) (hE6.block 0 rfl) ⟨w,HT.out,hbw,by have:=HGG.out;omega⟩
    ⟨⟨by omega,by omega,by omega⟩,by omega,fun u hu e=>by have:=hgs u hu;omega,by omega⟩
 have HTR:=Lib.hid hTR
 have HWB:=Lib.hid (And.intro hW.blk hW.ne)
 have hgm:∀ u,u<np→m<gq u∧gq u≠b:=fun u hu=>⟨(hP.gt (by rw[HNP.out];exact hu)).1,(hP.out.2 u (by rw[HNP.out];exact hu)).1⟩
 have hbl:=(Array.getElem?_eq_some_iff.1 hW.blk).1
 have hgs2:∀ u,u<np→gq u<w4.heap.size:=fun u hu=>(hP.gt (by rw[HNP.out];exact hu)).2
 have HGM:=Lib.hid (And.intro hgm hgs2)
 have HB5:=Lib.hid hb5
 have hmV:=hM.lt
 clear hb hW hP hM hT3 hE4 HE3 hb5 hTR e0 e1 e2 hgm hgs2
 go_wp2_with fail
 try rw[hw5]
 try rw[hq]
 refine HTR.out.mono ?_
 rintro e w6 ⟨n,rfl,⟨rfl,r,k,hR,hok2,hP,hkm⟩,hk⟩
 have hSb:NotG m np gq b∧b≠G+1+1:=⟨⟨HWB.out.2,fun u hu e=>(HGM.out.1 u hu).2 e.symm⟩,by omega⟩
 have hblk:=hk.at ((HB5.out.block _ hbl).trans HWB.out.1) hSb
 have hqq:=hk.at (HE5.out.block 0 rfl) ⟨⟨by omega,fun u hu e=>by have:=HGM.out.2 u hu;omega⟩,by omega⟩
 have HB6:Hid (Below w.heap.size w w6):=HE5.out.base.trans (hk.below_of (fun c hc=>⟨⟨by have:=HGG.out;omega,fun u hu e=>by have:=(HGM.out.1 u hu).1;have:=HGG.out;omega⟩,by have:=HGG.out;omega⟩) HE5.out.own)
 have HP6:=Lib.hid hP
 have HR:=Lib.hid (And.intro hR hok2)
 have HKM:=Lib.hid hkm
 have d0:=Za hqq 0 (v:=.pointer (some ⟨b,0,none⟩)) rfl
 have d1:=Za hblk 3 (v:=pv) rfl
 have d2:=Za hkm 0 (v:=.int .i64 (k:Nat)) rfl
 have f2:=Zb hkm 0
 clear hk hR hok2 hP hkm hSb hblk hqq HTR HE5
 go_wp2
 refine ZE [(1,0),(1,1),(1,2),(1,3),(1,4),(1,5),(0,6),(0,7)] (fun V=>V=w6.drew) (fun i=>i==6 || i==7)
  (by kernel_rfl) (by kernel_rfl) (fun j hj=>by have h:8≤j:=hj;simp;omega) (fun _ _ o _ _ h=>by cases o<;>exact h) rfl ?_
 have d0':w6.drew.cell? ⟨q,0,none⟩=some (.pointer (some ⟨b,0,none⟩)):=d0
 have d1':w6.drew.cell? ⟨b,3,none⟩=some pv:=d1
 have d2':w6.drew.cell? ⟨G+1+1,0,none⟩=some (.int .i64 (k:Nat)):=d2
 have f2':w6.drew.frozen? ⟨G+1+1,0,none⟩=false:=f2
 have HB7:Hid (Below w.heap.size w w6.drew):=HB6.out.drew
 have HP7:Hid (PlanO r t.sites.length m b pv gq gc w6.drew):=HP6.out.keep (Keeps.refl _ w6).drew
 have HK7:Hid (w6.drew.heap[G+1+1]?=some (inO (k:Nat))):=HKM.out
 obtain⟨w7,hw7⟩:∃ z,w6.drew=z:=⟨_,rfl⟩
 rw[hw7] at d0' d1' d2' f2' HB7 HP7 HK7 ⊢
 clear hw7 d0 d1 d2 f2
 iterate 6
  refine Zj _ rfl rfl (fun w' hS=>by subst hS;go_simp;rfl) ?_
  simp only[Zna,Znb,Znc,Act.put,Znd,Zne,Znf]
 refine Zp rfl rfl fun K hK=>?_
 go_simp
 obtain⟨w8,hw8⟩:∃ z,w7.setCell ⟨G+1+1,0,none⟩ (.int .i64 (k:Nat))=z:=⟨_,rfl⟩
 have hb8:Below w7.heap.size w7 w7:=Below.refl _ _
 have HB8:Hid (Below w.heap.size w w8):=by rw[← hw8];exact HB7.out.setCell (p:=⟨G+1+1,0,none⟩) (by have:=HGG.out;show w.heap.size≤G+1+1;omega) _
 have e0:w8.heap[G+1+1]?=some (inO (k:Nat)):=by rw[← hw8];exact Joins.block_setCell HK7.out _
 have HI8:Hid (IIL w8 pv r):=by
  refine(HP7.out.keepG (g:=G+1+1) (fun e=>?_) (fun u hu e=>?_) (by rw[← hw8];exact(Keeps.refl _ w7).setCell (p:=⟨G+1+1,0,none⟩) (by simp) _)).toIIL
  ·have:=(World.ownsRow.lt HP7.out.outer _ e).1
   omega
  ·have:=(HP7.out.gt hu).1
   omega
 rw[hw8]
 refine hK _ _ (.inl rfl) ?_
 clear hK K
 refine Zp rfl rfl fun K hK=>?_
 go_simp
 refine hK _ _ (.inl rfl) ?_
 clear hK K
 refine Zs ?_
 go_wp2
 have q0:=Za e0 0 (v:=.int .i64 (k:Nat)) rfl
 exact bodyPost_ret (v:=.tuple #[pv,.int .i64 (k:Nat),.int .i64 0]) (by simp[results,Tryz.f39,go_sem,q0]) rfl ⟨.inr ⟨HYES.out,r,k,pv,HR.out.1,HR.out.2,HI8.out,rfl⟩,HB8.out⟩
theorem Zij {a b:Value} {xs:List Int} {w:World} (ha:IL w a xs) (hb:IL w b xs):Calls Tryz.prog 58 #[a,b] w (ZO w true):=by
 obtain⟨n,hn⟩:∃ n,xs.length=n:=⟨_,rfl⟩
 obtain⟨pa,ca,rfl,ka1,ka2⟩:=ha.shape hn
 obtain⟨pb,cb,rfl,kb1,kb2⟩:=hb.shape hn
 have HA:=Lib.hid ha
 have HB:=Lib.hid hb
 have HN:=Lib.hid hn
 have hne:((n:Int) !=(n:Int))=false:=by simp
 clear ha hb hn
 go_enter Tryz.func58,Tryz.ntmps58
 go_wp2_with fail
 go_loopw [5] (fun iv wr=>∃ k:Nat,iv=.int .i64 k∧k≤n∧Hid (Below w.heap.size w wr)) (fun iv _=>n-(intOf iv).toNat)
 case atStart=>exact⟨0,rfl,Nat.zero_le _,Below.refl _ _⟩
 case round=>
  obtain⟨k,rfl,hk,HW⟩:=hrel
  by_cases hlt:k<n
  ·obtain⟨b1,o1,rfl,g1,g2⟩:=HA.out.at IntR.stays HN.out (by omega)
   obtain⟨b2,o2,rfl,h1,h2⟩:=HB.out.at IntR.stays HN.out (by omega)
   have c1:=g2 wr.drew HW.out.drew k (by rw[HN.out];exact hlt)
   have c2:=h2 wr.drew HW.out.drew k (by rw[HN.out];exact hlt)
   unfold IntR at c1 c2
   rw[Nat.mul_one] at c1 c2
   obtain⟨x,hx⟩:∃ z,xs[k]'(by rw[HN.out];exact hlt)=z:=⟨_,rfl⟩
   rw[hx] at c1 c2
   have hxx:(x !=x)=false:=by simp
   have i0':(0:Int)≤(k:Int):=by omega
   have i1':(k:Int)<(n:Int):=by omega
   clear g1 g2 h1 h2 hx
   go_wp2_with fail
   refine ZE [(1,0),(1,1),(1,2),(1,3),(1,4),(1,5),(1,6),(1,7),(1,8)] (fun V=>V=wr.drew) (fun _=>false)
    (by kernel_rfl) (by kernel_rfl) (fun j hj=>rfl) (fun _ _ o _ _ h=>by cases o<;>exact h) rfl ?_
   iterate 9
    refine Zj _ rfl rfl (fun w' hS=>by subst hS;go_simp;rfl) ?_
    simp only[Zna,Znb,Znc,Act.put,Znd,Zne,Znf]
   refine Zs ?_
   have HW2:Hid (Below w.heap.size w wr.drew):=HW.out.drew
   go_wp2
   go_roundw
   case rel=>exact⟨k+1,by go_num,by omega,HW2⟩
   case measure=>simp[intOf];omega
  ·obtain rfl:k=n:=by omega
   go_wp2
   exact bodyPost_ret (by simp[results,Tryz.f58,go_sem]) rfl ⟨rfl,HW.out⟩
theorem Zln {a b:Value} {p:List (List Int)} {w:World} (ha:IIL w a p) (hb:IIL w b p):Calls Tryz.prog 18 #[a,b] w (ZO w true):=by
 obtain⟨n,hn⟩:∃ n,p.length=n:=⟨_,rfl⟩
 obtain⟨pa,ca,rfl,ka1,ka2⟩:=ha.shape hn
 obtain⟨pb,cb,rfl,kb1,kb2⟩:=hb.shape hn
 have HA:=Lib.hid ha
 have HB:=Lib.hid hb
 have HN:=Lib.hid hn
 have hne:((n:Int) !=(n:Int))=false:=by simp
 clear ha hb hn
 go_enter Tryz.func18,Tryz.ntmps18
 go_wp2_with fail
 go_loopw [5] (fun iv wr=>∃ k:Nat,iv=.int .i64 k∧k≤n∧Hid (Below w.heap.size w wr)) (fun iv _=>n-(intOf iv).toNat)
 case atStart=>exact⟨0,rfl,Nat.zero_le _,Below.refl _ _⟩
 case round=>
  obtain⟨k,rfl,hk,HW⟩:=hrel
  by_cases hlt:k<n
  ·obtain⟨b1,o1,rfl,g1,g2⟩:=HA.out.at IIL.stays HN.out (by omega)
   obtain⟨b2,o2,rfl,h1,h2⟩:=HB.out.at IIL.stays HN.out (by omega)
   obtain⟨v1,c1,l1⟩:=g2 wr.drew HW.out.drew k (by rw[HN.out];exact hlt)
   obtain⟨v2,c2,l2⟩:=h2 wr.drew HW.out.drew k (by rw[HN.out];exact hlt)
   rw[Nat.mul_one] at c1 c2
   obtain⟨q1,e1,rfl,_⟩:=id l1
   obtain⟨q2,e2,rfl,_⟩:=id l2
   obtain⟨l,hl⟩:∃ z,(p[k]'(by rw[HN.out];exact hlt)).length=z:=⟨_,rfl⟩
   rw[hl] at c1 c2 l1 l2
   have HL:=Lib.hid (And.intro l1 l2)
   have i0':(0:Int)≤(k:Int):=by omega
   have i1':(k:Int)<(n:Int):=by omega
   clear g1 g2 h1 h2 hl l1 l2
   go_wp2_with fail
   refine ZE [(1,0),(1,1),(1,2),(1,3),(1,4),(1,5),(1,6),(1,7),(0,8),(0,9)] (fun V=>V=wr.drew) (fun i=>i==8 || i==9)
    (by kernel_rfl) (by kernel_rfl) (fun j hj=>by have h:10≤j:=hj;simp;omega) (fun _ _ o _ _ h=>by cases o<;>exact h) rfl ?_
   iterate 8
    refine Zj _ rfl rfl (fun w' hS=>by subst hS;go_simp;rfl) ?_
    simp only[Zna,Znb,Znc,Act.put,Znd,Zne,Znf]
   refine Zp rfl rfl fun K hK=>?_
   go_simp
   go_at_call 58
   refine(Zij HL.out.1 HL.out.2).mono ?_
   rintro e w3 ⟨rfl,hb⟩
   have HW2:Hid (Below w.heap.size w w3):=HW.out.drew.trans (hb.mono HW.out.drew.size)
   refine hK _ _ (.inl rfl) ?_
   clear hK K hb
   refine Zp rfl rfl fun K hK=>?_
   go_simp
   refine hK _ _ (.inl rfl) ?_
   clear hK K
   refine Zs ?_
   go_wp2
   go_roundw
   case rel=>exact⟨k+1,by go_num,by omega,HW2⟩
   case measure=>simp[intOf];omega
  ·obtain rfl:k=n:=by omega
   go_wp2
   exact bodyPost_ret (by simp[results,Tryz.f18,go_sem]) rfl ⟨rfl,HW.out⟩
theorem SmallT.small {t:TaskP} {a b:Nat} (h:SmallT t a b) (ok:TaskOk t):t.sites.length≤a∧t.hours.length≤b:=by
 have h1:=h.few
 have h2:=ok.sites
 have h3:=ok.teams
 omega
theorem Zed.fit {t:TaskP} {p:List (List Int)} {x y:ByteArray} {n:Int} (h:Zed t p x y n) (ok:PlanOk t p) (hs:t.sites.length≤4∧t.hours.length≤3):n=0∧IsP (valR t p) x y:=by
 rcases h with ⟨h,_⟩ | ⟨_,h⟩
 ·exact absurd ok h
 ·rcases h with ⟨_,h2,h3⟩ | ⟨h,_⟩
  ·exact⟨h3,h2⟩
  ·exact absurd (ZfK ok.task ok.inn hs.1 hs.2) h
theorem ZgX {v:Value} {p:List (List Int)} {w:World} {n u N:Nat} (h:IIL w v p) (hn:p.length=n) (hu:u<p.length) (hN:p[u].length=N) (h0:0<N):∃ b o c q f e,v=.slice (some ⟨b,o,none⟩) n c∧(n≤c∧c≤9223372036854775807)∧(N≤e∧e≤9223372036854775807)∧
  ∀ V,Below w.heap.size w V→V.cell? ⟨b,o+u,none⟩=some (.slice (some ⟨q,f,none⟩) N e)∧∀ i,i<N→V.cell? ⟨q,f+i,none⟩=some (.int .i64 (pN p u i)):=by
 obtain⟨b,o,c,rfl,c1,c2,c3,c4⟩:=Za7 h (by omega)
 obtain⟨v,d1,d2⟩:=c4 u hu
 obtain⟨q,f,e,rfl,e1,e2,e3,e4⟩:=Za7 d2 (by omega)
 rw[Nat.mul_one,hN] at d1
 refine⟨b,o,c,q,f,e,by rw[hn],⟨by omega,c2⟩,⟨by omega,e2⟩,fun V hV=>⟨(hV.cell (p:=⟨b,o+u,none⟩) c3).trans d1,fun i hi=>?_⟩⟩
 have d3:=e4 i (by omega)
 unfold IntR at d3
 rw[Nat.mul_one,ZmJ hu (by omega)] at d3
 exact(hV.cell (p:=⟨q,f+i,none⟩) e3).trans d3
theorem ZjI {t:TaskP} {p:List (List Int)} {sv hv rv pv:Value} {w:World} (hT:TaskIn t sv hv rv w) (hI:IIL w pv p) (r0:Nat) (hr0:r0<256) :
  Calls Tryz.prog 9 #[.agg #[sv,hv,rv],pv,.int .u8 r0] w (ZO w true):=by
 obtain⟨np,hnp⟩:∃ n,p.length=n:=⟨_,rfl⟩
 obtain⟨pp,pc,rfl,hpc1,hpc2⟩:=hI.shape hnp
 have HI:=Lib.hid hI
 have HNP:=Lib.hid hnp
 clear hI hnp
 obtain⟨ps,cs,rfl,_⟩:=hT.sites.shape rfl
 obtain⟨ph,ch,rfl,_⟩:=hT.hours.shape rfl
 obtain⟨pr,cr,rfl,_⟩:=hT.rates.shape rfl
 obtain⟨ns,hns⟩:∃ n,t.sites.length=n:=⟨_,rfl⟩
 obtain⟨nh,hnh⟩:∃ n,t.hours.length=n:=⟨_,rfl⟩
 obtain⟨nr,hnr⟩:∃ n,t.rates.length=n:=⟨_,rfl⟩
 rw[hns,hnh,hnr] at hT ⊢
 have HT:=Lib.hid hT
 have HNS:=Lib.hid hns
 have HNH:=Lib.hid hnh
 obtain⟨w1,hw1⟩:∃ z,w.alloc (efO (.slice ps ns cs) (.slice ph nh ch) (.slice pr nr cr))=z:=⟨_,rfl⟩
 obtain⟨G,hG⟩:∃ g,w.heap.size=g:=⟨_,rfl⟩
 have HG:=Lib.hid hG
 have HE1:Hid (Env w.heap.size w [(G,efO (.slice ps ns cs) (.slice ph nh ch) (.slice pr nr cr))] [] w1):=by rw[← hw1];exact(Env.start w).push _ hG.symm
 clear hT hns hnh hnr
 go_enter Tryz.func9,Tryz.ntmps9
 go_wp2_with fail
 have hT1:=HT.out.below HE1.out.base (Nat.le_refl _)
 refine(ZfR _ hT1.det hT1.tabs hT1.eff).mono ?_
 rintro e w2 ⟨rfl,hb⟩
 have HE2:=Lib.hid (HE1.out.step hb)
 clear hb HE1 hT1 hw1 hG
 have c0:=HE2.out.cell 0 0 (v:=.slice ps ns cs) rfl rfl
 have c1:=HE2.out.cell 0 1 (v:=.slice ph nh ch) rfl rfl
 have c2:=HE2.out.cell 0 2 (v:=.slice pr nr cr) rfl rfl
 go_wp2_with fail
 refine(ZfL (HT.out.below HE2.out.base (Nat.le_refl _)) 4 3 12 (by decide) (by decide) (by decide)).mono ?_
 rintro e w3 ⟨r,rfl,hS,hb⟩
 have HE3:=Lib.hid (HE2.out.step hb)
 clear hb HE2 c0 c1 c2
 cases r with
 | true=>
  go_wp2
  exact bodyPost_ret (by simp[results,Tryz.f9,go_sem]) rfl ⟨rfl,HE3.out.base⟩
 | false=>
  have HZ:=Lib.hid (hS rfl).lim
  have HSM:=Lib.hid (fun ok=>(hS rfl).small ok)
  clear hS
  go_wp2_with fail
  refine(Zh5 (IIL.stay2 HI.out HE3.out.base (Nat.le_refl _))).mono ?_
  rintro e w4 ⟨r,rfl,hW,hb⟩
  have HE4:=Lib.hid (HE3.out.step hb)
  clear hb HE3 hW
  cases r with
  | true=>
   go_wp2
   exact bodyPost_ret (by simp[results,Tryz.f9,go_sem]) rfl ⟨rfl,HE4.out.base⟩
  | false=>
   have c0:=HE4.out.cell 0 0 (v:=.slice ps ns cs) rfl rfl
   have c1:=HE4.out.cell 0 1 (v:=.slice ph nh ch) rfl rfl
   have c2:=HE4.out.cell 0 2 (v:=.slice pr nr cr) rfl rfl
   obtain⟨R,hR⟩:∃ R:Nat,r0 % 5=R:=⟨_,rfl⟩
   have hR4:R≤4:=by omega
   have hRm:((r0:Int) % 5)=(R:Int):=by omega
   have hRt:Int.tmod (r0:Int) 5=(R:Int):=by rw[Int.tmod_eq_emod_of_nonneg (by omega)];exact hRm
   go_wp2_with fail
   refine(Zev (HT.out.below HE4.out.base (Nat.le_refl _)) HZ.out (IIL.stay2 HI.out HE4.out.base (Nat.le_refl _)) HSM.out).mono ?_
   rintro e w5 ⟨hA,hb⟩
   have HE5:=Lib.hid (HE4.out.step hb)
   clear hb HE4 c0 c1 c2
   rcases hA with ⟨_,rfl⟩ | ⟨⟨hok,_⟩,q,k,qv,hR5,hokq,hq,rfl⟩
   ·skip
    go_wp2
    exact bodyPost_ret (by simp[results,Tryz.f9,go_sem]) rfl ⟨rfl,HE5.out.base⟩
   have HOK:=Lib.hid (And.intro hok hokq)
   have hsm:=HSM.out hok.task
   have hRn:((R:Int)).toNat=R:=by omega
   rw[hRn] at hR5
   obtain⟨_,hkR,hv1,hv2,hsum,hrest⟩:=hR5.law hok
   have HLAW:=Lib.hid (And.intro hv1 (And.intro hv2 (And.intro hsum hrest)))
   obtain⟨nq,hnq⟩:∃ n,q.length=n:=⟨_,rfl⟩
   have hnn:nq=np:=by rw[← hnq,← HNP.out,hokq.teams,hok.teams]
   subst hnn
   have HNQ:=Lib.hid hnq
   obtain⟨qp,qc,rfl,hqc1,hqc2⟩:=hq.shape hnq
   have HQ:=Lib.hid hq
   clear hok hokq hR5 hv1 hv2 hsum hrest hq hnq
   have c0:=HE5.out.cell 0 0 (v:=.slice ps ns cs) rfl rfl
   have c1:=HE5.out.cell 0 1 (v:=.slice ph nh ch) rfl rfl
   have c2:=HE5.out.cell 0 2 (v:=.slice pr nr cr) rfl rfl
   go_wp2_with fail
   refine(Zca (HT.out.below HE5.out.base (Nat.le_refl _)) HZ.out (IIL.stay2 HI.out HE5.out.base (Nat.le_refl _))).mono ?_
   rintro e w6 ⟨x,y,n,rfl,hA,hb⟩
   obtain⟨rfl,hx⟩:=hA.fit HOK.out.1 hsm
   have HX:=Lib.hid hx
   have HB56:=Lib.hid hb
   obtain⟨A,hAs⟩:∃ g,w6.heap.size=g:=⟨_,rfl⟩
   obtain⟨w7,hw7⟩:∃ z,w6.alloc (pObj x y)=z:=⟨_,rfl⟩
   have hb7:Below w6.heap.size w6 w7:=by rw[← hw7];exact(Below.refl _ w6).alloc (Nat.le_refl _) _
   have HE7:Hid (Env w.heap.size w [(A,pObj x y),(G,efO (.slice ps ns cs) (.slice ph nh ch) (.slice pr nr cr))] [] w7):=by rw[← hw7];exact(HE5.out.step hb).push _ hAs.symm
   have HB57:Hid (Below w5.heap.size w5 w7):=hb.trans (hb7.mono hb.size)
   clear hA hb hb7 HE5 c0 c1 c2 hx HB56
   have c0:=HE7.out.cell 1 0 (v:=.slice ps ns cs) rfl rfl
   have c1:=HE7.out.cell 1 1 (v:=.slice ph nh ch) rfl rfl
   have c2:=HE7.out.cell 1 2 (v:=.slice pr nr cr) rfl rfl
   go_wp2_with fail
   try rw[hw7]
   try rw[hAs]
   clear hw7 hAs
   refine(Zca (HT.out.below HE7.out.base (Nat.le_refl _)) HZ.out (IIL.stay2 HQ.out HB57.out (Nat.le_refl _))).mono ?_
   rintro e w8 ⟨u,v,n,rfl,hA,hb⟩
   obtain⟨rfl,hu⟩:=hA.fit HOK.out.2 hsm
   have HU:=Lib.hid hu
   obtain⟨B,hBs⟩:∃ g,w8.heap.size=g:=⟨_,rfl⟩
   obtain⟨w9,hw9⟩:∃ z,w8.alloc (pObj u v)=z:=⟨_,rfl⟩
   have hb9:Below w8.heap.size w8 w9:=by rw[← hw9];exact(Below.refl _ w8).alloc (Nat.le_refl _) _
   have HE9:Hid (Env w.heap.size w [(B,pObj u v),(A,pObj x y),(G,efO (.slice ps ns cs) (.slice ph nh ch) (.slice pr nr cr))] [] w9):=by rw[← hw9];exact(HE7.out.step hb).push _ hBs.symm
   have HB59:Hid (Below w5.heap.size w5 w9):=HB57.out.trans ((hb.trans (hb9.mono hb.size)).mono HB57.out.size)
   clear hA hb hb9 HE7 c0 c1 c2 hu HB57
   have c0:=HE9.out.cell 2 0 (v:=.slice ps ns cs) rfl rfl
   have c1:=HE9.out.cell 2 1 (v:=.slice ph nh ch) rfl rfl
   have c2:=HE9.out.cell 2 2 (v:=.slice pr nr cr) rfl rfl
   go_wp2_with fail
   try rw[hw9]
   try rw[hBs]
   clear hw9 hBs
   refine(ZbA (HT.out.below HE9.out.base (Nat.le_refl _)) HZ.out (IIL.stay2 HQ.out HB59.out (Nat.le_refl _))).mono ?_
   rintro e w10 ⟨hE,hb⟩
   obtain rfl:e=.returned (.int .i64 0):=by
    rcases hE with ⟨_,h⟩ | ⟨h,_⟩
    ·exact h
    ·exact absurd HOK.out.2 h
   have HE10:=Lib.hid (HE9.out.step hb)
   have HB510:Hid (Below w5.heap.size w5 w10):=HB59.out.trans (hb.mono HB59.out.size)
   clear hE hb HE9 HB59 c0 c1 c2
   obtain⟨g,hg⟩:∃ g,sgnR (valR t q) (valR t p)=g:=⟨_,rfl⟩
   have HG9:=Lib.hid hg
   have hg0:¬ g<0:=by
    have:=ZgF (Rat.not_lt.2 HLAW.out.1)
    rw[hg] at this
    omega
   have hgk:decide ((0:Int)<g)=decide ((0:Int)<(k:Int)):=by
    by_cases hk0:0<k
    ·have h1:=Zce (Rat.not_le.2 (HLAW.out.2.1.2 hk0))
     rw[hg] at h1
     rw[decide_eq_true h1,decide_eq_true (by omega)]
    ·have h1:=ZbV (Rat.not_lt.1 fun h=>hk0 (HLAW.out.2.1.1 h))
     rw[hg] at h1
     rw[decide_eq_false h1,decide_eq_false (by omega)]
   have hk1:¬ (k:Int)<0:=by omega
   have hk2:¬ (R:Int)<(k:Int):=by omega
   have d0:=HE10.out.cell 1 0 (v:=.string x) rfl rfl
   have d1:=HE10.out.cell 1 1 (v:=.string y) rfl rfl
   have e0:=HE10.out.cell 0 0 (v:=.string u) rfl rfl
   have e1:=HE10.out.cell 0 1 (v:=.string v) rfl rfl
   clear hg
   go_wp2_with fail
   refine(ZaA HU.out HX.out HG9.out _).mono ?_
   rintro e w11 ⟨rfl,hb⟩
   have HE11:=Lib.hid (HE10.out.step hb)
   have HB511:Hid (Below w5.heap.size w5 w11):=HB510.out.trans (hb.mono HB510.out.size)
   clear hb HE10 HB510 d0 d1 e0 e1
   have d0:=HE11.out.cell 1 0 (v:=.string x) rfl rfl
   have d1:=HE11.out.cell 1 1 (v:=.string y) rfl rfl
   have e0:=HE11.out.cell 0 0 (v:=.string u) rfl rfl
   have e1:=HE11.out.cell 0 1 (v:=.string v) rfl rfl
   go_wp2_with fail
   refine(ZaA HU.out HX.out HG9.out _).mono ?_
   rintro e w12 ⟨rfl,hb⟩
   have HE12:=Lib.hid ((HE11.out.step hb).only [2] _ rfl (by decide))
   have HB512:Hid (Below w5.heap.size w5 w12):=HB511.out.trans (hb.mono HB511.out.size)
   clear hb HE11 HB511 d0 d1 e0 e1
   obtain⟨bb,hb1,hb2⟩:∃ bb:Bool,decide ((0:Int)<g)=bb∧decide ((0:Int)<(k:Int))=bb:=⟨_,hgk,rfl⟩
   have hbb:(bb !=bb)=false:=by simp
   have hb3:decide (0<k)=bb:=by rw[← hb2,decide_eq_decide];omega
   clear hgk
   go_wp2_with fail
   clear hb1 hb2 hb3 hbb hg0
   go_loopw [108] (fun iv wr=>∃ u:Nat,iv=.int .i64 u∧u≤nq∧Hid (Below w5.heap.size w5 wr)∧Hid (Env w.heap.size w [(G,efO (.slice ps ns cs) (.slice ph nh ch) (.slice pr nr cr))] [] wr)) (fun iv _=>nq-(intOf iv).toNat)
   case atStart=>exact⟨0,rfl,Nat.zero_le _,HB512,HE12⟩
   case round=>
    clear HB512 HE12
    obtain⟨u,rfl,hu,HB,HE⟩:=hrel
    by_cases hlt:u<nq
    ·have hup:u<p.length:=by rw[HNP.out];exact hlt
     have huq:u<q.length:=by rw[HNQ.out];exact hlt
     have hN1:=HOK.out.1.task.sites
     obtain⟨N,hN⟩:∃ n,t.sites.length=n:=⟨_,rfl⟩
     have hrp:=HOK.out.1.row u hup
     have hrq:=HOK.out.2.row u huq
     rw[hN] at hrp hrq hN1
     obtain⟨b1,o1,d1,q1,f1,e1,hpe,m1,m2,hA1⟩:=ZgX (IIL.stay2 HI.out HE.out.base (Nat.le_refl _)) HNP.out hup hrp (by omega)
     obtain⟨b2,o2,d2,q2,f2,e2,hqe,m3,m4,hA2⟩:=ZgX (IIL.stay2 HQ.out HB.out (Nat.le_refl _)) HNQ.out huq hrq (by omega)
     injection hpe with z1 z2 z3
     injection hqe with z4 z5 z6
     subst z1 z3 z4 z6
     have HRW:Hid (∀ V,Below wr.heap.size wr V→(V.cell? ⟨b1,o1+u,none⟩=some (.slice (some ⟨q1,f1,none⟩) N e1)∧∀ i,i<N→V.cell? ⟨q1,f1+i,none⟩=some (.int .i64 (pN p u i)))∧(V.cell? ⟨b2,o2+u,none⟩=some (.slice (some ⟨q2,f2,none⟩) N e2)∧∀ i,i<N→V.cell? ⟨q2,f2+i,none⟩=some (.int .i64 (pN q u i)))):=fun V hV=>⟨hA1 V hV,hA2 V hV⟩
     have HPN:Hid ((∀ i,i<N→0≤pN p u i∧pN p u i≤48)∧(∀ i,i<N→0≤pN q u i∧pN q u i≤48)):=⟨fun i hi=>(HOK.out.1.hour u i hup (by rw[hN];exact hi)).1,fun i hi=>(HOK.out.2.hour u i huq (by rw[hN];exact hi)).1⟩
     have HNN:=Lib.hid hN
     have c1:=(hA1 wr (Below.refl _ _)).1
     have i0':(0:Int)≤(u:Int):=by omega
     have i1':(u:Int)<(nq:Int):=by omega
     obtain⟨wo,hwo⟩:∃ z,z=wr:=⟨_,rfl⟩
     have HWR:Hid (Below wo.heap.size wo wr):=by rw[hwo];exact Below.refl _ _
     rw[← hwo] at HRW HB HE
     clear hA1 hA2 hrp hrq hN z2 z5 hwo
     go_wp2_with fail
     go_loopw [17,18,116] (fun va vb vi wv=>∃ i:Nat,vi=.int .i64 i∧i≤N∧va=.int .i64 (Zw p u i)∧vb=.int .i64 (Zw q u i)∧Hid (Below wo.heap.size wo wv)) (fun _ _ vi _=>N-(intOf vi).toNat)
     case atStart=>exact⟨0,rfl,Nat.zero_le _,rfl,rfl,HWR⟩
     case round=>
      clear HWR
      obtain⟨i,rfl,hi,rfl,rfl,HV⟩:=hrel
      by_cases hlt2:i<N
      ·obtain⟨⟨k1,k2⟩,k3,k4⟩:=HRW.out wr.drew HV.out.drew
       have s1:=ZcY HPN.out.1 i hi
       have s2:=ZcY HPN.out.2 i hi
       have s3:=HPN.out.1 i hlt2
       have s4:=HPN.out.2 i hlt2
       have k5:=k2 i hlt2
       have k6:=k4 i hlt2
       obtain⟨xa,hxa⟩:∃ z,pN p u i=z:=⟨_,rfl⟩
       obtain⟨xb,hxb⟩:∃ z,pN q u i=z:=⟨_,rfl⟩
       have HS:Hid (Zw p u (i+1)=Zw p u i+xa∧Zw q u (i+1)=Zw q u i+xb):=⟨by rw[← hxa];rfl,by rw[← hxb];rfl⟩
       rw[hxa] at k5 s3
       rw[hxb] at k6 s4
       obtain⟨ya,hya⟩:∃ z,Zw p u i=z:=⟨_,rfl⟩
       obtain⟨yb,hyb⟩:∃ z,Zw q u i=z:=⟨_,rfl⟩
       rw[hya] at HS s1
       rw[hyb] at HS s2
       rw[hya,hyb]
       have eW1:IntKind.i64.wrap (ya+xa)=ya+xa:=IntWalk.i64_in _ (by omega)
       have eW2:IntKind.i64.wrap (yb+xb)=yb+xb:=IntWalk.i64_in _ (by omega)
       have j0':(0:Int)≤(i:Int):=by omega
       have j1':(i:Int)<(N:Int):=by omega
       clear k2 k4 hxa hxb hya hyb
       go_wp2_with fail
       refine ZE [(1,0),(1,1),(1,2),(1,3),(1,4),(1,5),(1,6),(1,7),(1,8),(1,9),(1,10),(1,11),(1,12),(1,13),(1,14),(1,15),(1,16),(1,17),(1,18),(1,19)] (fun V=>V=wr.drew) (fun _=>false)
        (by kernel_rfl) (by kernel_rfl) (fun j hj=>rfl) (fun _ _ o _ _ h=>by cases o<;>exact h) rfl ?_
       iterate 20
        refine Zj _ rfl rfl (fun w' hS=>by subst hS;go_simp;rfl) ?_
        simp only[Zna,Znb,Znc,Act.put,Znd,Zne,Znf]
       refine Zs ?_
       have HV2:Hid (Below wo.heap.size wo wr.drew):=HV.out.drew
       go_wp2
       go_roundw
       case rel=>exact⟨i+1,by go_num,by omega,by rw[HS.out.1],by rw[HS.out.2],HV2⟩
       case measure=>simp[intOf];omega
      ·obtain rfl:i=N:=by omega
       have hss:Zw q u i=Zw p u i:=by rw[← HNN.out];exact HLAW.out.2.2.1 u
       rw[hss]
       obtain⟨ya,hya⟩:∃ z,Zw p u i=z:=⟨_,rfl⟩
       rw[hya]
       have hyy:(ya !=ya)=false:=by simp
       have HB2:=Lib.hid (HB.out.trans (HV.out.mono HB.out.size))
       have HE2:=Lib.hid (HE.out.step HV.out)
       clear hss hya
       go_wp2
       go_roundw
       case rel=>exact⟨u+1,by go_num,by omega,HB2,HE2⟩
       case measure=>simp[intOf];omega
    ·obtain rfl:u=nq:=by omega
     by_cases hkr:k=R
     ·have hkb:((k:Int)==(R:Int))=true:=by rw[hkr];simp
      clear hkr
      go_wp2
      exact bodyPost_ret (by simp[results,Tryz.f9,go_sem]) rfl ⟨rfl,HE.out.base⟩
     ·have hkb:((k:Int)==(R:Int))=false:=by rw[beq_eq_false_iff_ne];omega
      have HM:=Lib.hid (HLAW.out.2.2.2 (by omega))
      have c0:=HE.out.cell 0 0 (v:=.slice ps ns cs) rfl rfl
      have c1:=HE.out.cell 0 1 (v:=.slice ph nh ch) rfl rfl
      have c2:=HE.out.cell 0 2 (v:=.slice pr nr cr) rfl rfl
      go_wp2_with fail
      refine(Zev (R:=1) (HT.out.below HE.out.base (Nat.le_refl _)) HZ.out (IIL.stay2 HQ.out HB.out (Nat.le_refl _)) HSM.out).mono ?_
      rintro e w20 ⟨hA,hb⟩
      have HE20:=Lib.hid (HE.out.step hb)
      have HQ20:=Lib.hid (IIL.stay2 HQ.out (HB.out.trans (hb.mono HB.out.size)) (Nat.le_refl _))
      rcases hA with ⟨h,_⟩ | ⟨_,q9,k9,qv,hR9,_,hq9,rfl⟩
      ·exact absurd ⟨HOK.out.2,by decide,by decide⟩ h
      obtain⟨rfl,rfl⟩:=hR9.det (.rest HM.out)
      obtain⟨p9,c9,rfl,_⟩:=hq9.shape HNQ.out
      have HQ9:=Lib.hid hq9
      clear hb hq9 c0 c1 c2 hR9 hkr
      go_wp2_with fail
      refine(Zln HQ9.out HQ20.out).mono ?_
      rintro e w21 ⟨rfl,hb⟩
      have HB21:=Lib.hid (HE20.out.base.trans (hb.mono HE20.out.own))
      clear hb
      go_wp2
      exact bodyPost_ret (by simp[results,Tryz.f9,go_sem]) rfl ⟨rfl,HB21.out⟩
end Go.Proofs.YtmpaflidennnoaaGreatDoor
