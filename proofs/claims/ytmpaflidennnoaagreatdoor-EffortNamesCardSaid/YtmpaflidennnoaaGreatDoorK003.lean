/- The parts EGainX, EImproveX, EGreatN, EffPri of a proof, put together by program (merge7.py). -/
import Derived.Test.YtmpaflidennnoaaGreatDoorH01
import Derived.Test.YtmpaflidennnoaaGreatDoorH30
import Derived.Test.YtmpaflidennnoaaGreatDoorK002
import Derived.Test.YtmpaflidennnoaaGreatDoorH27
import Derived.Test.YtmpaflidennnoaaGreatDoorH24
import Derived.Test.YtmpaflidennnoaaGreatDoorK001
import Derived.Test.YtmpaflidennnoaaGreatDoorH21
set_option maxRecDepth 100000
set_option maxHeartbeats 8000000
set_option linter.unusedVariables false
set_option linter.unusedSimpArgs false
namespace Go.Proofs.YtmpaflidennnoaaGreatDoor
open Go.RowKit Go.Shelf
attribute [local go_sem ↓] Go.wp_at_zero Go.wp_at_succ
abbrev inO (n:Int):Obj:=.cells #[.int .i64 n] 3
theorem ZkN {t:TaskP} {p:List (List Int)} {u i:Nat} {Ge Gp Gu Gi Gr:Nat} {ps ph pr pp:Option Addr} {ns nh nr np cs ch cr cp:Nat} {W:World} (he:W.heap[Ge]?=some (efO (.slice ps ns cs) (.slice ph nh ch) (.slice pr nr cr))) (hp:W.heap[Gp]?=some (plO (.slice pp np cp))) (hu':W.heap[Gu]?=some (inO u)) (hi':W.heap[Gi]?=some (inO i)) (hr:W.heap[Gr]?=some (pObj ⟨#[]⟩ ⟨#[]⟩))
  (hT:TaskIn t (.slice ps ns cs) (.slice ph nh ch) (.slice pr nr cr) W) (hI:IIL W (.slice pp np cp) p) (ok:PlanOk t p) (hu:u<t.hours.length) (hi:i<t.sites.length) :
  Calls Tryz.prog 77 #[.pointer (some ⟨Ge,0,none⟩),.pointer (some ⟨Gp,0,none⟩),.pointer (some ⟨Gu,0,none⟩),.pointer (some ⟨Gi,0,none⟩),.pointer (some ⟨Gr,0,none⟩)] W (Zed (ResQ (fun x y n=>n=0∧IsP (Z3 t p u i) x y) Gr) (fun b=>b≠Gr) W):=by
 have HS0:Hid (∀ V,Below W.heap.size W V→V.heap[Ge]?=some (efO (.slice ps ns cs) (.slice ph nh ch) (.slice pr nr cr))∧V.heap[Gp]?=some (plO (.slice pp np cp))∧V.heap[Gu]?=some (inO u)∧V.heap[Gi]?=some (inO i)∧V.heap[Gr]?=some (pObj ⟨#[]⟩ ⟨#[]⟩)∧TaskIn t (.slice ps ns cs) (.slice ph nh ch) (.slice pr nr cr) V∧IIL V (.slice pp np cp) p):=fun V hV=>
  ⟨(hV.block _ (Array.getElem?_eq_some_iff.1 he).1).trans he,(hV.block _ (Array.getElem?_eq_some_iff.1 hp).1).trans hp,(hV.block _ (Array.getElem?_eq_some_iff.1 hu').1).trans hu',(hV.block _ (Array.getElem?_eq_some_iff.1 hi').1).trans hi',(hV.block _ (Array.getElem?_eq_some_iff.1 hr).1).trans hr,hT.below hV (Nat.le_refl _),IIL.stay2 hI hV (Nat.le_refl _)⟩
 have HOK:=Lib.hid ok
 have HUI:=Lib.hid (And.intro hu hi)
 have hgr:=(Array.getElem?_eq_some_iff.1 hr).1
 clear he hp hr hT hI ok hu hi hu' hi'
 go_enter Tryz.func77,Tryz.ntmps77
 go_wp2_with fail
 refine ZG [(1,0),(1,1),(1,3),(1,4),(0,2),(0,5),(0,6)] (fun V=>Below W.heap.size W V) (fun i=>i==6)
  (by kernel_rfl) (by kernel_rfl) (fun j hj=>by have h:7≤j:=hj;simp;omega) (fun _ _ o _ _ h=>by cases o<;>exact h) (Below.refl _ W).drew ?_
 have HB0:Hid (Below W.heap.size W W.drew):=(Below.refl _ W).drew
 obtain⟨V,hV⟩:∃ z,W.drew=z:=⟨_,rfl⟩
 rw[hV] at HB0 ⊢
 clear hV
 iterate 4
  refine Zc _ rfl rfl (fun w' hS=>by obtain⟨q1,q2,q3,q4,_⟩:=HS0.out _ hS;have e0:=Za q1 0 (v:=.slice ps ns cs) rfl;have e1:=Za q1 1 (v:=.slice ph nh ch) rfl;have e2:=Za q1 2 (v:=.slice pr nr cr) rfl;have p0:=Za q2 0 (v:=.slice pp np cp) rfl;have u0:=Za q3 0 (v:=.int .i64 u) rfl;have i0:=Za q4 0 (v:=.int .i64 i) rfl;go_simp;first | rfl | (rw[if_pos (by omega)])) ?_
  simp only[Znc,Znd,Zne,Act.put,Znf,Zng,Znh]
 refine Zl 48 _ rfl rfl (by go_simp;rfl) ?_
 refine(ZcL (HS0.out _ HB0.out).2.2.2.2.2.1 (HS0.out _ HB0.out).2.2.2.2.2.2 HOK.out.len8.2 HOK.out.task.sites (fun u h=>HOK.out.row u h)).mono ?_
 rintro e V1 ⟨b,m,sv,hv,rv,pv,gq,gc,rfl,hW,hP,hM,hm,hb1,hb⟩
 obtain⟨pb,pc,_,hPW⟩:=hP.toW HOK.out.len8.1
 have HB1:Hid (Below W.heap.size W V1):=HB0.out.trans (hb.mono HB0.out.size)
 have HC:=Lib.hid (Zg8 hW hPW hM (by decide) HOK.out.task HOK.out.inn (by rw[HOK.out.task.rates];exact HUI.out.1) HUI.out.2)
 have hmw:W.heap.size≤m:=Nat.le_trans HB0.out.size hm
 refine .inl ⟨_,rfl,HB1.out,?_⟩
 clear hb hW hP hM hPW hm hb1 HB0
 simp only[Znc,Znd,Zne,Act.put,Znf,Zng,Znh]
 refine Zl 78 _ rfl rfl (by go_simp;rfl) ?_
 refine HC.out.mono ?_
 rintro e V2 ⟨x,y,rfl,hx,hk,_⟩
 have HB2:Hid (Below W.heap.size W V2):=HB1.out.trans (hk.below_of (fun c hc=>by show c≠m;omega) HB1.out.size)
 have HX:=Lib.hid hx
 have HR:=Lib.hid (HS0.out _ HB2.out).2.2.2.2.1
 refine .inl ⟨_,rfl,HB2.out,?_⟩
 clear hk hx HB1 HC
 simp only[Znc,Znd,Zne,Act.put,Znf,Zng,Znh]
 have r0:=Za HR.out 0 (v:=.string ⟨#[]⟩) rfl
 have r1:=Za HR.out 1 (v:=.string ⟨#[]⟩) rfl
 have f0:=Zb HR.out 0
 have f1:=Zb HR.out 1
 refine Zn rfl rfl fun K hK=>?_
 go_simp
 obtain⟨V3,hV3⟩:∃ z,(V2.setCell ⟨Gr,0,none⟩ (.string x)).setCell ⟨Gr,1,none⟩ (.string y)=z:=⟨_,rfl⟩
 have hR3:V3.heap[Gr]?=some (pObj x y):=by rw[← hV3];exact ZM HR.out _ _
 have hK3:Keeps (fun b=>b≠Gr) W V3:=by rw[← hV3];exact((HB2.out.keepsS (fun b=>b≠Gr)).setCell (p:=⟨Gr,0,none⟩) (by simp) _).setCell (p:=⟨Gr,1,none⟩) (by simp) _
 have HF3:=Lib.hid (And.intro hR3 hK3)
 rw[hV3]
 refine hK _ _ (.inl rfl) ?_
 clear hK K hV3 r0 r1 f0 f1 hR3 hK3
 refine Zq ?_
 go_wp2
 exact bodyPost_ret (results_none rfl _ _ _) rfl ⟨0,.inl ⟨rfl,rfl⟩,⟨x,y,HF3.out.1,rfl,HX.out⟩,HF3.out.2⟩
def Zel (t:TaskP) (p:List (List Int)) (u i:Int):Prop:=PlanOk t p∧(0≤u∧u≤t.hours.length-1)∧(0≤i∧i≤t.sites.length-1)
def Zf8 (t:TaskP) (p:List (List Int)) (u i:Int) (x y:ByteArray) (n:Int):Prop:=(¬ Zel t p u i∧x=⟨#[]⟩∧y=⟨#[]⟩∧n=2)∨(Zel t p u i∧n=0∧IsP (Z3 t p u.toNat i.toNat) x y)
theorem ZcQ {t:TaskP} {p:List (List Int)} {u i:Int} {sv hv rv pv:Value} {w:World} (hT:TaskIn t sv hv rv w) (hz:LimT t) (hI:IIL w pv p) :
  Calls Tryz.prog 27 #[.agg #[sv,hv,rv],pv,.int .i64 u,.int .i64 i] w (Zx (Zf8 t p u i) w):=by
 obtain⟨ps,cs,rfl,_⟩:=hT.sites.shape rfl
 obtain⟨ph,ch,rfl,_⟩:=hT.hours.shape rfl
 obtain⟨pr,cr,rfl,_⟩:=hT.rates.shape rfl
 obtain⟨pp,pc,rfl,_⟩:=hI.shape rfl
 obtain⟨ns,hns⟩:∃ n,t.sites.length=n:=⟨_,rfl⟩
 obtain⟨nh,hnh⟩:∃ n,t.hours.length=n:=⟨_,rfl⟩
 obtain⟨nr,hnr⟩:∃ n,t.rates.length=n:=⟨_,rfl⟩
 obtain⟨np,hnp⟩:∃ n,p.length=n:=⟨_,rfl⟩
 rw[hns,hnh,hnr] at hT ⊢
 rw[hnp] at hI ⊢
 have HT:=Lib.hid hT
 have HI:=Lib.hid hI
 have HZ:=Lib.hid hz
 have HL:=Lib.hid (And.intro hns hnh)
 have hmf:∀ (fn:Fn) (first cap:Array Value) (w:World),(Instr.makeFunc fn first cap).run Tryz.prog w=.ok (.func fn first cap) w:=fun _ _ _ _=>rfl
 obtain⟨G,hG⟩:∃ G,w.heap.size=G:=⟨_,rfl⟩
 obtain⟨w1,hw1⟩:∃ z,(((((w.alloc (efO (.slice ps ns cs) (.slice ph nh ch) (.slice pr nr cr))).alloc (plO (.slice pp np pc))).alloc (inO u)).alloc (inO i)).alloc (pObj ⟨#[]⟩ ⟨#[]⟩))=z:=⟨_,rfl⟩
 have HE1:Hid (Env w.heap.size w [(G+1+1+1+1,pObj ⟨#[]⟩ ⟨#[]⟩),(G+1+1+1,inO i),(G+1+1,inO u),(G+1,plO (.slice pp np pc)),(G,efO (.slice ps ns cs) (.slice ph nh ch) (.slice pr nr cr))] [] w1):=by
  rw[← hw1,← hG]
  exact(((((Env.start w).push _ rfl).push _ (by simp)).push _ (by simp)).push _ (by simp)).push _ (by simp)
 have HGG:=Lib.hid hG
 have e0:=HE1.out.cell 4 0 (v:=.slice ps ns cs) rfl rfl
 have e1:=HE1.out.cell 4 1 (v:=.slice ph nh ch) rfl rfl
 have e2:=HE1.out.cell 4 2 (v:=.slice pr nr cr) rfl rfl
 have p0:=HE1.out.cell 3 0 (v:=.slice pp np pc) rfl rfl
 clear hT hI hz hns hnh hnr hnp
 go_enter Tryz.func27,Tryz.ntmps27
 go_wp2_with fail
 refine(ZbH (HT.out.below HE1.out.base (Nat.le_refl _)) HZ.out (IIL.stay2 HI.out HE1.out.base (Nat.le_refl _))).mono ?_
 rintro e w2 ⟨hE,hb⟩
 have HE2:=Lib.hid (HE1.out.step hb)
 clear hb HE1 e0 e1 e2 p0 hw1 hG
 rcases hE with ⟨hok,rfl⟩ | ⟨hok,rfl⟩
 rotate_left
 ·have HNO:Hid (¬ Zel t p u i):=fun h=>hok h.1
  clear hok
  have HA:Hid (Zf8 t p u i ⟨#[]⟩ ⟨#[]⟩ 2):=.inl ⟨HNO.out,rfl,rfl,rfl⟩
  have r0:=HE2.out.cell 0 0 (v:=.string ⟨#[]⟩) rfl rfl
  have r1:=HE2.out.cell 0 1 (v:=.string ⟨#[]⟩) rfl rfl
  have f0:=HE2.out.free 0 0 rfl
  have f1:=HE2.out.free 0 1 rfl
  go_wp2
  have HE9:=Lib.hid (HE2.out.fill (.string ⟨#[]⟩) (.string ⟨#[]⟩))
  have q0:=HE9.out.cell 0 0 (v:=.string ⟨#[]⟩) rfl rfl
  have q1:=HE9.out.cell 0 1 (v:=.string ⟨#[]⟩) rfl rfl
  exact bodyPost_ret (v:=.tuple #[.agg #[.string ⟨#[]⟩,.string ⟨#[]⟩],.int .i64 2]) (by simp[results,Tryz.f27,go_sem,q0,q1]) rfl ⟨⟨#[]⟩,⟨#[]⟩,2,rfl,HA.out,HE9.out.base⟩
 have HOK:=Lib.hid hok
 have hT8:1≤nh∧nh≤8:=by rw[← HL.out.2];exact hok.task.teams
 have hN24:1≤ns∧ns≤24:=by rw[← HL.out.1];exact hok.task.sites
 have e1:=HE2.out.cell 4 1 (v:=.slice ph nh ch) rfl rfl
 have u0:=HE2.out.cell 2 0 (v:=.int .i64 u) rfl rfl
 clear hok
 go_wp2_with fail
 refine(ZaY u 0 ((nh:Int)-1) _).mono ?_
 rintro e w3 ⟨rfl,hb⟩
 have HE3:=Lib.hid (HE2.out.step hb)
 clear hb HE2 e1 u0
 by_cases hU:0≤u∧u≤(nh:Int)-1
 rotate_left
 ·have HNO:Hid (¬ Zel t p u i):=fun h=>hU (by have:=h.2.1;rw[HL.out.2] at this;exact this)
  have hw:(decide ((0:Int)≤u) && decide (u≤(nh:Int)-1))=false:=by
   rw[← Bool.not_eq_true]
   simp only[Bool.and_eq_true,decide_eq_true_eq]
   exact hU
  rw[hw]
  clear hU hw
  have HA:Hid (Zf8 t p u i ⟨#[]⟩ ⟨#[]⟩ 2):=.inl ⟨HNO.out,rfl,rfl,rfl⟩
  have r0:=HE3.out.cell 0 0 (v:=.string ⟨#[]⟩) rfl rfl
  have r1:=HE3.out.cell 0 1 (v:=.string ⟨#[]⟩) rfl rfl
  have f0:=HE3.out.free 0 0 rfl
  have f1:=HE3.out.free 0 1 rfl
  go_wp2
  have HE9:=Lib.hid (HE3.out.fill (.string ⟨#[]⟩) (.string ⟨#[]⟩))
  have q0:=HE9.out.cell 0 0 (v:=.string ⟨#[]⟩) rfl rfl
  have q1:=HE9.out.cell 0 1 (v:=.string ⟨#[]⟩) rfl rfl
  exact bodyPost_ret (v:=.tuple #[.agg #[.string ⟨#[]⟩,.string ⟨#[]⟩],.int .i64 2]) (by simp[results,Tryz.f27,go_sem,q0,q1]) rfl ⟨⟨#[]⟩,⟨#[]⟩,2,rfl,HA.out,HE9.out.base⟩
 have hw:(decide ((0:Int)≤u) && decide (u≤(nh:Int)-1))=true:=by simp;exact hU
 rw[hw]
 clear hw
 have e0:=HE3.out.cell 4 0 (v:=.slice ps ns cs) rfl rfl
 have i0:=HE3.out.cell 1 0 (v:=.int .i64 i) rfl rfl
 go_wp2_with fail
 refine(ZaY i 0 ((ns:Int)-1) _).mono ?_
 rintro e w4 ⟨rfl,hb⟩
 have HE4:=Lib.hid (HE3.out.step hb)
 clear hb HE3 e0 i0
 by_cases hX:0≤i∧i≤(ns:Int)-1
 rotate_left
 ·have HNO:Hid (¬ Zel t p u i):=fun h=>hX (by have:=h.2.2;rw[HL.out.1] at this;exact this)
  have hw:(decide ((0:Int)≤i) && decide (i≤(ns:Int)-1))=false:=by
   rw[← Bool.not_eq_true]
   simp only[Bool.and_eq_true,decide_eq_true_eq]
   exact hX
  rw[hw]
  clear hX hw
  have HA:Hid (Zf8 t p u i ⟨#[]⟩ ⟨#[]⟩ 2):=.inl ⟨HNO.out,rfl,rfl,rfl⟩
  have r0:=HE4.out.cell 0 0 (v:=.string ⟨#[]⟩) rfl rfl
  have r1:=HE4.out.cell 0 1 (v:=.string ⟨#[]⟩) rfl rfl
  have f0:=HE4.out.free 0 0 rfl
  have f1:=HE4.out.free 0 1 rfl
  go_wp2
  have HE9:=Lib.hid (HE4.out.fill (.string ⟨#[]⟩) (.string ⟨#[]⟩))
  have q0:=HE9.out.cell 0 0 (v:=.string ⟨#[]⟩) rfl rfl
  have q1:=HE9.out.cell 0 1 (v:=.string ⟨#[]⟩) rfl rfl
  exact bodyPost_ret (v:=.tuple #[.agg #[.string ⟨#[]⟩,.string ⟨#[]⟩],.int .i64 2]) (by simp[results,Tryz.f27,go_sem,q0,q1]) rfl ⟨⟨#[]⟩,⟨#[]⟩,2,rfl,HA.out,HE9.out.base⟩
 have hw:(decide ((0:Int)≤i) && decide (i≤(ns:Int)-1))=true:=by simp;exact hX
 rw[hw]
 clear hw
 obtain⟨u,rfl⟩:∃ n:Nat,u=n:=⟨u.toNat,by omega⟩
 obtain⟨i,rfl⟩:∃ n:Nat,i=n:=⟨i.toNat,by omega⟩
 have HAO:Hid (Zel t p u i):=⟨HOK.out,by rw[HL.out.2];exact hU,by rw[HL.out.1];exact hX⟩
 have HUI:Hid (u<t.hours.length∧i<t.sites.length):=by
  show _∧_
  rw[HL.out.1,HL.out.2]
  omega
 have hs1:G+5≤w4.heap.size:=by
  have:=HE4.out.lt 0 rfl
  omega
 have HTR:Hid (Calls Tryz.prog 50 #[.func (.func 77) #[] #[.pointer (some ⟨G,0,none⟩),.pointer (some ⟨G+1,0,none⟩),.pointer (some ⟨G+1+1,0,none⟩),.pointer (some ⟨G+1+1+1,0,none⟩),.pointer (some ⟨G+1+1+1+1,0,none⟩)]] w4 (ZcO (ResQ (fun x y n=>n=0∧IsP (Z3 t p u i) x y) (G+1+1+1+1)) (fun b=>b≠G+1+1+1+1) w4)):=by
  have hal:Below w4.heap.size w4 (w4.alloc (erO 0)):=(Below.refl _ w4).alloc (Nat.le_refl _) _
  have hE2:=HE4.out.step hal
  refine Zb9 (enters_of Tryz.func77 (by kernel_rfl) rfl) (fun b hb=>by show b≠G+1+1+1+1;omega) (fun n W W'=>ResQ.stay (by omega) n W W') ?_
  have hbw:Below w.heap.size w (w4.alloc (erO 0)):=HE4.out.base.trans (hal.mono HE4.out.own)
  exact ZkN (hE2.block 4 rfl) (hE2.block 3 rfl) (hE2.block 2 rfl) (hE2.block 1 rfl) (hE2.block 0 rfl) (HT.out.below hbw (Nat.le_refl _)) (IIL.stay2 HI.out hbw (Nat.le_refl _)) HOK.out HUI.out.1 HUI.out.2
 clear hU hX
 go_wp2_with fail
 refine HTR.out.mono ?_
 rintro e w5 ⟨n,rfl,⟨x,y,hxy,rfl,hS⟩,hk⟩
 have HA:Hid (Zf8 t p u i x y 0):=.inr ⟨HAO.out,rfl,hS⟩
 have HXY:=Lib.hid hxy
 have HB5:Hid (Below w.heap.size w w5):=HE4.out.base.trans (hk.below_of (fun b hb=>by have:=HGG.out;show b≠G+1+1+1+1;omega) HE4.out.own)
 clear hS hk HTR
 have r0:=Za HXY.out 0 (v:=.string x) rfl
 have r1:=Za HXY.out 1 (v:=.string y) rfl
 have f0:=Zb HXY.out 0
 have f1:=Zb HXY.out 1
 clear hxy
 go_wp2
 obtain⟨q0,q1⟩:=Zh HXY.out (.string x) (.string y)
 exact bodyPost_ret (v:=.tuple #[.agg #[.string x,.string y],.int .i64 0]) (by simp[results,Tryz.f27,go_sem,q0,q1]) rfl ⟨x,y,0,rfl,HA.out,Zf HB5.out (by have:=HGG.out;omega) (.string x) (.string y)⟩
theorem ZcC.mono {a c:Nat} {Q:World→Prop} {w:World} (h:ZcC a Q w) (hc:a≤c):ZcC c Q w:=by
 obtain⟨w1,h1,h2,h3⟩:=h
 exact⟨w1,h1,h2,by omega⟩
end Go.Proofs.YtmpaflidennnoaaGreatDoor
namespace Go.Proofs.YtmpaflidennnoaaGreatDoor
open Go.RowKit Go.Shelf
attribute [local go_sem ↓] Go.wp_at_zero Go.wp_at_succ
attribute [local go_sem] Oper.semAt_some
abbrev niO (a:Int):Obj:=.cells #[.int .i64 a] 3
def numE (e:Nat→Int):Option Nat→Value
 | none=>.int .i64 0
 | some k=>.int .i64 (e k)
def numO (e:Nat→Int):Option Nat→Obj
 | none=>niO 0
 | some k=>niO (e k)
def BoxI (e:Nat→Int) (B:Nat) (a1:Nat→Nat→Act) (k:Nat) (a':Act) (W:World):Prop:=
 ∃ A,B≤A∧a'=a1 k A∧W=W
theorem ZhJ {e:Nat→Int} {g:Nat→Rat} {N:Nat} {Sx:Nat→Prop} {J:Nat→World→Prop} {gf of:Nat} {lb caps:Array Value} {w:World}
  (hgf:∀ args w,(callFunc gf args).run Tryz.prog w=.ok (.enter gf args) w) (hof:∀ args w,(callFunc of args).run Tryz.prog w=.ok (.enter of args) w)
  (hup:∀ b,w.heap.size≤b→Sx b) (hJ:∀ k W1 W2,J k W1→Keeps (fun b=>b<w.heap.size) W1 W2→J k W2) (h0:J 0 w) (hz:∀ V,Keeps Sx w V→EffZ V)
  (hit:∀ V,Keeps Sx w V→Iter Tryz.prog gf lb (fun k=>#[.int .i64 (e k)]) N (fun b=>b<w.heap.size∧Sx b) (fun _=>True) V)
  (hc:∀ k,k<N→∀ V,Keeps Sx w V→J k V→Calls Tryz.prog of (#[.int .i64 (e k)]++caps) V (fun e' V'=>∃ x y,e'=.returned (pV x y)∧IsP (g k) x y∧Keeps Sx V V'∧J (k+1) V')) :
  Calls Tryz.prog 135 #[.func (.func gf) #[] lb,.func (.func of) #[] caps] w (Zdk Sx (numE e) g N J w):=by
 have HUP:=Lib.hid hup
 have HJ:=Lib.hid hJ
 have HIT:=Lib.hid hit
 have HC:=Lib.hid hc
 have HZ:=Lib.hid hz
 have HJ0:=Lib.hid h0
 have HGF:=Lib.hid hgf
 clear hup hJ hit hc hz h0 hgf
 obtain⟨w4,hw4⟩:∃ z,(((w.alloc (.cells #[.func (.func of) #[] caps] 116)).alloc (niO 0)).alloc (pObj ⟨#[]⟩ ⟨#[]⟩)).alloc (flO false)=z:=⟨_,rfl⟩
 obtain⟨P,hP⟩:∃ P,w.heap.size=P:=⟨_,rfl⟩
 have HX:Zk P [.cells #[.func (.func of) #[] caps] 116,niO 0,pObj ⟨#[]⟩ ⟨#[]⟩,flO false] w4:=by rw[← hw4,← hP];exact Zk.four w _ _ _ _
 have hk4:Keeps Sx w w4:=by rw[← hw4];exact((((Keeps.refl Sx w).alloc _).alloc _).alloc _).alloc _
 have HK5:Hid (∀ V:World,Keeps (fun b=>b<w.heap.size) w V→J 0 V):=fun V hV=>HJ.out _ _ _ HJ0.out hV
 have hs4:w4.heap.size=P+4:=by rw[← hw4,← hP];simp
 have z:=HZ.out _ hk4
 have z0:=z.z0
 have z1:=z.z1
 have c0:=HX.cell 2 0 (b:=P+1+1) (v:=.string ⟨#[]⟩) rfl rfl rfl
 have c1:=HX.cell 2 1 (b:=P+1+1) (v:=.string ⟨#[]⟩) rfl rfl rfl
 have f0:=HX.free 2 0 (b:=P+1+1) rfl rfl
 have f1:=HX.free 2 1 (b:=P+1+1) rfl rfl
 have HPP:=Lib.hid hP
 clear z
 refine ZbO Tryz.func135 rfl ?_
 simp only[Tryz.ntmps135,List.size_toArray,List.length_cons,List.length_nil,Nat.reduceAdd,Nat.reduceSub,Array.replicate_succ,Array.replicate_zero,List.push_toArray,List.append_toArray,List.nil_append,List.cons_append]
 go_wp2_with fail
 obtain⟨w5,hw5⟩:∃ z,(w4.setCell ⟨P+1+1,0,none⟩ (.string ⟨#[48]⟩)).setCell ⟨P+1+1,1,none⟩ (.string ⟨#[49]⟩)=z:=⟨_,rfl⟩
 have o5:∀ k,k≠P+1+1→w5.heap[k]?=w4.heap[k]?:=fun k hk=>by rw[← hw5];exact(Below.heap_setCell _ _ _ _ hk).trans (Below.heap_setCell _ _ _ _ hk)
 have hk5:Keeps Sx w w5:=by
  refine hk4.via (S':=fun b=>b≠P+1+1) ?_ fun b hb _=>by show b≠P+1+1;omega
  rw[← hw5]
  exact((Keeps.refl _ w4).setCell (by simp) _).setCell (by simp) _
 have HG5:Hid (GreatI Sx w P (.cells #[.func (.func of) #[] caps] 116) (niO 0) ⟨#[48]⟩ ⟨#[49]⟩ false w5):=
  ⟨hk5,(o5 P (by omega)).trans (HX.block 0 rfl rfl),(o5 _ (by omega)).trans (HX.block 1 rfl rfl),by rw[← hw5];exact ZM (HX.block 2 (b:=P+1+1) rfl rfl) _ _,(o5 _ (by omega)).trans (HX.block 3 (b:=P+1+1+1) rfl rfl)⟩
 have hkB:Keeps (fun b=>b<w.heap.size) w w5:=by
  rw[← hw5,← hw4]
  exact((((((Keeps.refl _ w).alloc _).alloc _).alloc _).alloc _).setCell (by show ¬ P+1+1<w.heap.size;omega) _).setCell (by show ¬ P+1+1<w.heap.size;omega) _
 have hD:w5.heap.size=P+4:=by rw[← hw5];simp[hs4]
 rw[hw5]
 clear hw5 o5 z0 z1 c0 c1 f0 f1 HX hk4 hs4 hw4
 refine(wpIn_wide (n:=9)).1 ?_
 refine ZcT (P+4) hD (gf:=gf) (lb:=lb) (f:=fun k=>#[.int .i64 (e k)]) (N:=N) (S:=fun x=>x<P∧Sx x) (T:=fun _=>True)
  rfl HGF.out (fun _=>rfl) ?iter (fun _ h=>by omega) ⟨trivial,trivial⟩
  (ZhU Sx w P (.cells #[.func (.func of) #[] caps] 116) (numO e) g J) (fun _ _ _=>False) ?ci ?cx ?start
  (BoxI e (P+6) ?a1) ?cb ?assign ?body ?done ?stop
 case iter=>
  have:=HIT.out _ hk5
  rwa [hP] at this
 case ci=>
  rintro k W1 W2 ⟨r,m,x,y,h1,h2,h3,h4⟩ hk
  exact⟨r,m,x,y,h1,h2,h3.keep hP.symm hk (fun b hb _=>⟨trivial,by omega,by omega⟩) ⟨⟨trivial,by omega,by omega⟩,⟨trivial,by omega,by omega⟩,⟨trivial,by omega,by omega⟩,⟨trivial,by omega,by omega⟩⟩,
   HJ.out _ _ _ h4 (hk.mono fun b _ hb=>⟨trivial,by omega,by omega⟩)⟩
 case cx=>exact fun _ _ _ _ h _=>h
 case start=>
  exact⟨none,0,_,_,Best.zero g,ZP,HG5.out,HK5.out _ hkB⟩
 case cb=>
  rintro k a' W1 W2 ⟨A,h1,h2,h3⟩ hk
  exact⟨A,h1,h2,rfl⟩
 case assign=>
  intro l k W hk hW
  gi_wp2
  obtain⟨A,hA⟩:∃ A,P+6=A:=⟨_,rfl⟩
  refine⟨Keeps.refl _ W,A,by omega,?_,rfl⟩
  clear hW hA
  exact rfl
 case body=>
  have hfn:∀ k,Fence.wide.fn k:=fun _=>trivial
  rintro l k a' W hk ⟨r,m,x,y,hB,hI,hG,hJk⟩ ⟨A,hA,rfl,_⟩ hW
  have hcall:=HC.out k hk W hG.base hJk
  obtain⟨s,hst⟩:∃ z,e k=z:=⟨_,rfl⟩
  have HST:=Lib.hid hst
  rw[hst] at hcall
  dsimp only
  rw[hst]
  have HB:=Lib.hid hB
  have HI:=Lib.hid hI
  have HG:=Lib.hid hG
  have HCL:=Lib.hid hcall
  have p0:W.cell? ⟨P,0,none⟩=some (.func (.func of) #[] caps):=Za hG.b0 0 rfl
  clear hB hI hG hJk hcall hst
  gi_wp2_with fail
  refine(CallsIn.inRound l (callsIn_wide.2 HCL.out)).mono ?_
  rintro e' V ⟨x2,y2,rfl,hx2,hkV,hJV⟩
  have HX2:=Lib.hid hx2
  have HJV:=Lib.hid hJV
  have HKV:=Lib.hid hkV
  have HGV:=Lib.hid (HG.out.keep hP.symm hkV (fun b _ hs=>hs) ⟨HUP.out _ (by omega),HUP.out _ (by omega),HUP.out _ (by omega),HUP.out _ (by omega)⟩)
  clear hx2 hJV hkV p0
  have c0:(V.alloc (pObj x2 y2)).cell? ⟨V.heap.size,0,none⟩=some (.string x2):=ZC _ _ _ 0 rfl
  have c1:(V.alloc (pObj x2 y2)).cell? ⟨V.heap.size,1,none⟩=some (.string y2):=ZC _ _ _ 1 rfl
  have HG1:Hid (GreatI Sx w P (.cells #[.func (.func of) #[] caps] 116) (numO e r) x y r.isSome (V.alloc (pObj x2 y2))):=HGV.out.keep (S:=fun _=>True) hP.symm ((Keeps.refl _ V).alloc _) (fun _ _ _=>trivial) ⟨trivial,trivial,trivial,trivial⟩
  have d0:=Za HG1.out.b2 0 (v:=.string x) rfl
  have d1:=Za HG1.out.b2 1 (v:=.string y) rfl
  obtain⟨n,hn⟩:∃ n,sgnR (g k) m=n:=⟨_,rfl⟩
  gi_wp2_with fail
  refine(CallsIn.inRound l (callsIn_wide.2 (ZaU HX2.out HI.out hn _))).mono ?_
  rintro e' V2 ⟨rfl,hb⟩
  obtain⟨g8,hg8⟩:∃ g,V.heap.size=g:=⟨_,rfl⟩
  have h8:V2.heap[g8]?=some (pObj x2 y2):=by
   rw[← hg8]
   exact(hb.block _ (by simp)).trans (World.alloc_heap_new V _)
  have hkA:Keeps Sx V (V.alloc (pObj x2 y2)):=(Keeps.refl _ V).alloc _
  have hkJ:Keeps (fun b=>b<w.heap.size) V V2:=((Keeps.refl _ V).alloc _).trans (hb.keepsS _)
  have HK2:=Lib.hid (HKV.out.trans (hkA.trans (hb.keepsS Sx)))
  have HG2:=Lib.hid (HG1.out.keep hP.symm (hb.keepsS (fun _=>True)) (fun _ _ _=>trivial) ⟨trivial,trivial,trivial,trivial⟩)
  have HJ2:=Lib.hid (HJ.out _ _ _ HJV.out hkJ)
  have H8:=Lib.hid h8
  have HRE:Hid (∀ b,((b<P∧Sx b)∨b=P+4∨b=P+4+1)→Sx b):=fun b hs=>by
   rcases hs with ⟨_,h⟩ | h | h
   ·exact h
   ·exact HUP.out _ (by omega)
   ·exact HUP.out _ (by omega)
  have hPg:P+6≤g8:=by
   rw[← hg8]
   exact Nat.le_trans hW HKV.out.size
  clear c0 c1 d0 d1 hb hkA hkJ h8 HG1 HGV HJV
  by_cases hlt:m<g k
  ·have hge:(0:Int)<n:=by rw[← hn];exact Zcu (Rat.not_le.2 hlt)
   have HBU:=Lib.hid (HB.out.up hlt)
   clear hn hlt
   gi_wp2
   obtain⟨sa,hab⟩:∃ a,numO e r=niO a:=by cases r<;>exact⟨_,rfl⟩
   refine Zab [(true,0),(true,1),(false,2),(false,3),(false,4)] (fun W'=>W'.heap[g8]?=some (pObj x2 y2)) (fun _=>false)
    (by kernel_rfl) (by kernel_rfl) (fun _ _=>rfl) (fun _ _ o _ _ h=>by cases o<;>exact h) (fun _ _ h=>h) H8.out ?_
   have b1:V2.drew.heap[P+1]?=some (niO sa):=by rw[← hab];exact HG2.out.b1
   have b2:V2.drew.heap[P+1+1]?=some (pObj x y):=HG2.out.b2
   have b3:V2.drew.heap[P+1+1+1]?=some (flO r.isSome):=HG2.out.b3
   have b0:V2.drew.heap[P]?=some (.cells #[.func (.func of) #[] caps] 116):=HG2.out.b0
   have b8:V2.drew.heap[g8]?=some (pObj x2 y2):=H8.out
   have HKD:Hid (Keeps Sx W V2.drew):=HK2.out.drew
   have HKW:Hid (Keeps Sx w V2.drew):=HG2.out.base.drew
   have HJD:Hid (J (k+1) V2.drew):=HJ.out _ _ _ HJ2.out (Keeps.refl _ V2).drew
   obtain⟨V3,hV3⟩:∃ z,V2.drew=z:=⟨_,rfl⟩
   rw[hV3] at b0 b1 b2 b3 b8 HKD HKW HJD ⊢
   clear hV3 HK2 HG2 HJ2 hab
   iterate 2
    refine Zi _ rfl rfl (fun w' hS=>by have h2:=hS;have e0:=Za h2 0 (v:=.string x2) rfl;have e1:=Za h2 1 (v:=.string y2) rfl;go_simp;rfl) ?_
    simp only[Znc,Znd,Zne,Act.put,Znf,Zng,Znh]
   have c0:=Za b1 0 (v:=.int .i64 sa) rfl
   have f0:=Zb b1 0
   refine Ze rfl rfl fun K hK=>?_
   go_simp
   obtain⟨V4,hV4⟩:∃ z,V3.setCell ⟨P+1,0,none⟩ (.int .i64 s)=z:=⟨_,rfl⟩
   have o4:∀ j,j≠P+1→V4.heap[j]?=V3.heap[j]?:=fun j hj=>by rw[← hV4];exact Below.heap_setCell _ _ _ _ hj
   have d1:V4.heap[P+1]?=some (niO s):=by rw[← hV4];exact Joins.block_setCell b1 _
   have k4:Keeps (fun b=>b≠P+1) V3 V4:=by rw[← hV4];exact(Keeps.refl _ V3).setCell (by simp) _
   rw[hV4]
   refine hK _ _ (.inr ((o4 _ (by omega)).trans b8)) ?_
   clear hK K hV4 c0 f0 b1
   have b0:=(o4 _ (by omega)).trans b0
   have b2:=(o4 _ (by omega)).trans b2
   have b3:=(o4 _ (by omega)).trans b3
   have b8:=(o4 _ (by omega)).trans b8
   have c0:=Za b2 0 (v:=.string x) rfl
   have c1:=Za b2 1 (v:=.string y) rfl
   have f0:=Zb b2 0
   have f1:=Zb b2 1
   refine Ze rfl rfl fun K hK=>?_
   go_simp
   obtain⟨V5,hV5⟩:∃ z,(V4.setCell ⟨P+1+1,0,none⟩ (.string x2)).setCell ⟨P+1+1,1,none⟩ (.string y2)=z:=⟨_,rfl⟩
   have o5:∀ j,j≠P+1+1→V5.heap[j]?=V4.heap[j]?:=fun j hj=>by rw[← hV5];exact(Below.heap_setCell _ _ _ _ hj).trans (Below.heap_setCell _ _ _ _ hj)
   have d2:V5.heap[P+1+1]?=some (pObj x2 y2):=by rw[← hV5];exact ZM b2 _ _
   have k5:Keeps (fun b=>b≠P+1+1) V4 V5:=by rw[← hV5];exact((Keeps.refl _ V4).setCell (by simp) _).setCell (by simp) _
   rw[hV5]
   refine hK _ _ (.inr ((o5 _ (by omega)).trans b8)) ?_
   clear hK K hV5 c0 c1 f0 f1 b2
   have b0:=(o5 _ (by omega)).trans b0
   have d1:=(o5 _ (by omega)).trans d1
   have b3:=(o5 _ (by omega)).trans b3
   have b8:=(o5 _ (by omega)).trans b8
   have c0:=Za b3 0 (v:=.bool r.isSome) rfl
   have f0:=Zb b3 0
   refine Ze rfl rfl fun K hK=>?_
   go_simp
   obtain⟨V6,hV6⟩:∃ z,V5.setCell ⟨P+1+1+1,0,none⟩ (.bool true)=z:=⟨_,rfl⟩
   have o6:∀ j,j≠P+1+1+1→V6.heap[j]?=V5.heap[j]?:=fun j hj=>by rw[← hV6];exact Below.heap_setCell _ _ _ _ hj
   have d3:V6.heap[P+1+1+1]?=some (flO true):=by rw[← hV6];exact Joins.block_setCell b3 _
   have k6:Keeps (fun b=>b≠P+1+1+1) V5 V6:=by rw[← hV6];exact(Keeps.refl _ V5).setCell (by simp) _
   rw[hV6]
   refine hK _ _ (.inr ((o6 _ (by omega)).trans b8)) ?_
   clear hK K hV6 c0 f0 b3
   have HKK:Hid (∀ (S:Nat→Prop),¬ S (P+1)→¬ S (P+1+1)→¬ S (P+1+1+1)→Keeps S V3 V6):=fun S h1 h2 h3=>
    (((k4.mono fun b _ hb e=>h1 (e ▸ hb)).trans (k5.mono fun b _ hb e=>h2 (e ▸ hb))).trans (k6.mono fun b _ hb e=>h3 (e ▸ hb)))
   have HG6:Hid (GreatI Sx w P (.cells #[.func (.func of) #[] caps] 116) (numO e (some k)) x2 y2 true V6):=
    ⟨HKW.out.via (HKK.out (fun b=>b<P) (by omega) (by omega) (by omega)) (fun b hb _=>by omega),(o6 _ (by omega)).trans b0,by show V6.heap[P+1]?=some (niO (e k));rw[HST.out];exact(o6 _ (by omega)).trans d1,(o6 _ (by omega)).trans d2,d3⟩
   have HJ6:Hid (J (k+1) V6):=HJ.out _ _ _ HJD.out (HKK.out _ (by omega) (by omega) (by omega))
   have HKE:Hid (Keeps (fun b=>(b<P∧Sx b)∨b=P+4∨b=P+4+1) W V6):=(HKD.out.mono fun b _ hs=>HRE.out b hs).trans (HKK.out _ (by omega) (by omega) (by omega))
   clear o4 o5 o6 k4 k5 k6 d1 d2 d3 b0 b8
   refine Zt ?_
   gi_wp2
   exact⟨HKE.out,some k,g k,x2,y2,HBU.out,HX2.out,HG6.out,HJ6.out⟩
  ·have hge:¬ (0:Int)<n:=by rw[← hn];exact Zct (Rat.not_lt.1 hlt)
   have HBU:=Lib.hid (HB.out.keep (Rat.not_lt.1 hlt))
   clear hn hlt
   gi_wp2
   exact⟨HK2.out.mono fun b _ hs=>HRE.out b hs,r,m,x,y,HBU.out,HI.out,HG2.out,HJ2.out⟩
 case done=>
  rintro W ⟨r,m,x,y,hB,hI,hG,hJk⟩ hdef
  obtain⟨sa,hab,hae⟩:∃ a,numO e r=niO a∧numE e r=.int .i64 a:=by cases r<;>exact⟨_,rfl,rfl⟩
  obtain⟨ok,hok⟩:∃ z,r.isSome=z:=⟨_,rfl⟩
  rw[hab,hok] at hG
  have HB:=Lib.hid hB
  have HI:=Lib.hid hI
  have HJN:=Lib.hid hJk
  have HAE:=Lib.hid hae
  have HOK:=Lib.hid hok
  clear hB hI hJk hab hae hok
  go_wp2
  refine ZQ [(true,0),(true,1),(true,2),(false,3),(false,4),(false,5)] (fun W'=>W'.heap[P+1]?=some (niO sa)∧W'.heap[P+1+1]?=some (pObj x y)∧W'.heap[P+1+1+1]?=some (flO ok)) (fun _=>false)
   (by kernel_rfl) (by kernel_rfl) (fun _ _=>rfl) (fun _ _ o _ _ h=>by cases o<;>exact h) ⟨hG.b1,hG.b2,hG.b3⟩ ?_
  have b1:W.drew.heap[P+1]?=some (niO sa):=hG.b1
  have b2:W.drew.heap[P+1+1]?=some (pObj x y):=hG.b2
  have b3:W.drew.heap[P+1+1+1]?=some (flO ok):=hG.b3
  have bd:W.drew.heap[P+4]?=some (.deferred (some [])):=hdef
  have HKW:Hid (Keeps Sx w W.drew):=hG.base.drew
  have HJD:Hid (J N W.drew):=HJ.out _ _ _ HJN.out (Keeps.refl _ W).drew
  obtain⟨V3,hV3⟩:∃ z,W.drew=z:=⟨_,rfl⟩
  rw[hV3] at b1 b2 b3 bd HKW HJD ⊢
  clear hV3 hG hdef HJN
  iterate 3
   refine Zi _ rfl rfl (fun w' hS=>by obtain⟨h1,h2,h3⟩:=hS;have a0:=Za h1 0 (v:=.int .i64 sa) rfl;have e0:=Za h2 0 (v:=.string x) rfl;have e1:=Za h2 1 (v:=.string y) rfl;have e2:=Za h3 0 (v:=.bool ok) rfl;go_simp;rfl) ?_
   simp only[Znc,Znd,Zne,Act.put,Znf,Zng,Znh]
  have c0:=Za b1 0 (v:=.int .i64 sa) rfl
  have f0:=Zb b1 0
  refine Ze rfl rfl fun K hK=>?_
  go_simp
  obtain⟨V4,hV4⟩:∃ z,V3.setCell ⟨P+1,0,none⟩ (.int .i64 sa)=z:=⟨_,rfl⟩
  have o4:∀ j,j≠P+1→V4.heap[j]?=V3.heap[j]?:=fun j hj=>by rw[← hV4];exact Below.heap_setCell _ _ _ _ hj
  have d1:V4.heap[P+1]?=some (niO sa):=by rw[← hV4];exact Joins.block_setCell b1 _
  have k4:Keeps (fun b=>b≠P+1) V3 V4:=by rw[← hV4];exact(Keeps.refl _ V3).setCell (by simp) _
  rw[hV4]
  have b2:=(o4 _ (by omega)).trans b2
  have b3:=(o4 _ (by omega)).trans b3
  refine hK _ _ (.inr ⟨d1,b2,b3⟩) ?_
  clear hK K hV4 c0 f0 b1
  have bd:=(o4 _ (by omega)).trans bd
  have c0:=Za b2 0 (v:=.string x) rfl
  have c1:=Za b2 1 (v:=.string y) rfl
  have f0:=Zb b2 0
  have f1:=Zb b2 1
  refine Ze rfl rfl fun K hK=>?_
  go_simp
  obtain⟨V5,hV5⟩:∃ z,(V4.setCell ⟨P+1+1,0,none⟩ (.string x)).setCell ⟨P+1+1,1,none⟩ (.string y)=z:=⟨_,rfl⟩
  have o5:∀ j,j≠P+1+1→V5.heap[j]?=V4.heap[j]?:=fun j hj=>by rw[← hV5];exact(Below.heap_setCell _ _ _ _ hj).trans (Below.heap_setCell _ _ _ _ hj)
  have d2:V5.heap[P+1+1]?=some (pObj x y):=by rw[← hV5];exact ZM b2 _ _
  have k5:Keeps (fun b=>b≠P+1+1) V4 V5:=by rw[← hV5];exact((Keeps.refl _ V4).setCell (by simp) _).setCell (by simp) _
  rw[hV5]
  have d1:=(o5 _ (by omega)).trans d1
  have b3:=(o5 _ (by omega)).trans b3
  refine hK _ _ (.inr ⟨d1,d2,b3⟩) ?_
  clear hK K hV5 c0 c1 f0 f1 b2
  have bd:=(o5 _ (by omega)).trans bd
  have c0:=Za b3 0 (v:=.bool ok) rfl
  have f0:=Zb b3 0
  refine Ze rfl rfl fun K hK=>?_
  go_simp
  obtain⟨V6,hV6⟩:∃ z,V5.setCell ⟨P+1+1+1,0,none⟩ (.bool ok)=z:=⟨_,rfl⟩
  have o6:∀ j,j≠P+1+1+1→V6.heap[j]?=V5.heap[j]?:=fun j hj=>by rw[← hV6];exact Below.heap_setCell _ _ _ _ hj
  have d3:V6.heap[P+1+1+1]?=some (flO ok):=by rw[← hV6];exact Joins.block_setCell b3 _
  have k6:Keeps (fun b=>b≠P+1+1+1) V5 V6:=by rw[← hV6];exact(Keeps.refl _ V5).setCell (by simp) _
  rw[hV6]
  have d1:=(o6 _ (by omega)).trans d1
  have d2:=(o6 _ (by omega)).trans d2
  refine hK _ _ (.inr ⟨d1,d2,d3⟩) ?_
  clear hK K hV6 c0 f0 b3
  have bd:=(o6 _ (by omega)).trans bd
  have k9:Keeps (fun b=>b<P) V3 (V6.putObj (P+4) (.deferred none)):=
   (((k4.mono fun b _ (hb:b<P)=>(by omega)).trans (k5.mono fun b _ (hb:b<P)=>(by omega))).trans (k6.mono fun b _ (hb:b<P)=>(by omega))).putObj (by show ¬ P+4<P;omega) _
  have HKE:Hid (Keeps Sx w (V6.putObj (P+4) (.deferred none))):=HKW.out.via k9 fun b hb _=>by omega
  have HJE:Hid (J N (V6.putObj (P+4) (.deferred none))):=HJ.out _ _ _ HJD.out (by rw[HPP.out];exact k9)
  have k4':∀ {g:Nat} {o:Obj},g≠P+4→V6.heap[g]?=some o→(V6.putObj (P+4) (.deferred none)).heap[g]?=some o:=fun hg h=>(World.putObj_heap_other hg).trans h
  have g1:=k4' (by omega) d1
  have g2:=k4' (by omega) d2
  have g3:=k4' (by omega) d3
  clear o4 o5 o6 k4 k5 k6 k9 d1 d2 d3 k4'
  refine Zt ?_
  go_wp2
  unfold Calm bodyPostM
  refine⟨by simp,.inl ⟨_,_,rfl,run_takeDeferred bd,?_⟩⟩
  have c0:=Za g1 0 (v:=.int .i64 sa) rfl
  have d0:=Za g2 0 (v:=.string x) rfl
  have d1:=Za g2 1 (v:=.string y) rfl
  have f0:=Za g3 0 (v:=.bool ok) rfl
  refine⟨.tuple #[.int .i64 sa,pV x y,.bool ok],?_,r,m,x,y,by rw[HAE.out,HOK.out],HB.out,HI.out,HKE.out,HJE.out⟩
  simp[results,Tryz.f135,go_sem,c0,d0,d1,f0]
 case stop=>exact fun _ _ _ _ h _=>h.elim
end Go.Proofs.YtmpaflidennnoaaGreatDoor
namespace Go.Proofs.YtmpaflidennnoaaGreatDoor
open Go.RowKit Go.Shelf
open Classical in
noncomputable def slF (bs:List BB) (q:Rat):Rat:=if h:∃ r,Zbx bs.length (cR bs) (hR bs) q r then Classical.choose h else 0
theorem Zgu {bs:List BB} (h:CurveP bs) (q:Rat):Zbx bs.length (cR bs) (hR bs) q (slF bs q):=by
 obtain⟨r,_,_,hr,_⟩:=Zh4 (q:=q) h
 have hex:∃ r,Zbx bs.length (cR bs) (hR bs) q r:=⟨r,hr⟩
 unfold slF
 rw[dif_pos hex]
 exact Classical.choose_spec hex
theorem Zij {bs:List BB} (h:CurveP bs) (q:Rat):(∃ x y,IsP (slF bs q) x y)∧Sz 72 (slF bs q)∧0≤slF bs q:=by
 obtain⟨r,x,y,hr,hx,hz,h0⟩:=Zh4 (q:=q) h
 obtain rfl:=(Zgu h q).unique hr
 exact⟨⟨x,y,hx⟩,hz,h0⟩
noncomputable def wsF (t:TaskP) (p:List (List Int)) (i:Nat):Rat:=wR t i*slF (eS t i).curve (covR t p i)
noncomputable def priF (t:TaskP) (p:List (List Int)) (u i:Nat):Rat:=wsF t p i*rR t u i
theorem Zf5 {t:TaskP} {p:List (List Int)} (ok:TaskOk t) {u i:Nat} (hu:u<t.rates.length) (hi:i<t.sites.length) :
  ((∃ x y,IsP (wsF t p i) x y)∧∃ x y,IsP (priF t p u i) x y)∧Sz 90 (priF t p u i)∧0≤priF t p u i:=by
 obtain⟨w1,w2⟩:=Zco ok hi
 obtain⟨r1,r2⟩:=ZcF ok hu hi
 obtain⟨_,s2,s3⟩:=Zij (ok.site i hi).2 (covR t p i)
 have a0:=Rat.mul_nonneg w1.nn s3
 have az:=Sz.mul w1.nn s3 w2 s2
 have b0:=Rat.mul_nonneg a0 r1.nn
 have bz:=Sz.mul a0 r1.nn az r2
 exact⟨⟨ZL a0 az (by decide) (by decide),ZL b0 bz (by decide) (by decide)⟩,bz,b0⟩
def Za5 (t:TaskP) (p:List (List Int)) (qs:List PP):Prop:=qs.length=t.hours.length∧∀ u,u<t.hours.length→∃ r m,Best (priF t p u) t.sites.length r m∧IsP m (qs.getD u (⟨#[]⟩,⟨#[]⟩)).1 (qs.getD u (⟨#[]⟩,⟨#[]⟩)).2
theorem Za5.det {t:TaskP} {p:List (List Int)} {qs rs:List PP} (h:Za5 t p qs) (g:Za5 t p rs):qs=rs:=by
 refine List.ext_getElem (h.1.trans g.1.symm) fun u h1 h2=>?_
 obtain⟨r,m,b1,b2⟩:=h.2 u (by rw[← h.1];exact h1)
 obtain⟨s,l,c1,c2⟩:=g.2 u (by rw[← h.1];exact h1)
 obtain⟨e1,e2⟩:=Z5 b2 c2 (b1.det c1).2
 have e3:qs.getD u (⟨#[]⟩,⟨#[]⟩)=qs[u]:=by simp[List.getD,h1]
 have e4:rs.getD u (⟨#[]⟩,⟨#[]⟩)=rs[u]:=by simp[List.getD,h2]
 rw[e3,e4] at e1 e2
 exact Prod.ext e1 e2
theorem Zmk {t:TaskP} {p:List (List Int)} (ok:TaskOk t) {u:Nat} (hu:u<t.rates.length) {r:Option Nat} {m:Rat} (h:Best (priF t p u) t.sites.length r m):Sz 90 m:=by
 cases r with
 | none=>
  rw[(h.no rfl).1]
  exact⟨by decide +kernel,by decide +kernel⟩
 | some j=>
  obtain⟨hj,e,_⟩:=h.yes j rfl
  rw[e]
  exact(Zf5 ok hu hj).2.1
theorem Za5.ok {t:TaskP} {p:List (List Int)} {qs:List PP} (ok:TaskOk t) (h:Za5 t p qs):PricesOk t qs:=⟨h.1,fun u hu=>by
 obtain⟨r,m,b1,b2⟩:=h.2 u (by rw[← h.1];exact hu)
 have hz:=(Zmk ok (by rw[ok.rates,← h.1];exact hu) b1).mono (l:=300) (by decide)
 exact Zd6 b2 hz (by decide)⟩
end Go.Proofs.YtmpaflidennnoaaGreatDoor
