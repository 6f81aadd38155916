/- The parts REPrices, ECovers, RECovers. -/
import Derived.Test.YtmpaflidennnoaaGreatDoorK008
set_option maxRecDepth 100000
set_option maxHeartbeats 4000000
set_option linter.unusedVariables false
set_option linter.unusedSimpArgs false
namespace Go.Proofs.YtmpaflidennnoaaGreatDoor
open Go.RowKit Go.Shelf
attribute [local go_sem ↓] Go.wp_at_zero Go.wp_at_succ
theorem Zkw {S:Nat->Prop} {w1 w w':World} {B:Nat} (h:Keeps S w1 w) (hB:w1.heap.size=B) (hb:Below B w w'):Keeps S w1 w':=
 ⟨hb.os.trans h.os,hb.tape.trans h.tape,hb.output.trans h.output,Zoz h.size hb.size,fun k hk hs=>(hb.block k Za).trans (h.block k hk hs)⟩
def Zbk (t:TaskP) (p:List (List Int)) (qs:List PP) (n:Nat):Prop:=qs.length=n/\∀ i,i<n->IsP (covR t p i) (qs.getD i (Zpa,Zpa)).1 (qs.getD i (Zpa,Zpa)).2
theorem Zbk.det {t:TaskP} {p:List (List Int)} {qs rs:List PP} {n:Nat} (h:Zbk t p qs n) (g:Zbk t p rs n):qs=rs:=by
 refine List.ext_getElem (h.1.trans g.1.symm) fun u h1 h2=>?_
 obtain⟨e1,e2⟩:=Zcs (h.2 u (by rw[<- h.1];exact h1)) (g.2 u (by rw[<- h.1];exact h1)) rfl
 have e3:qs.getD u (Zpa,Zpa)=qs[u]:=by simp[List.getD,h1]
 have e4:rs.getD u (Zpa,Zpa)=rs[u]:=by simp[List.getD,h2]
 rw[e3,e4] at e1 e2
 exact Prod.ext e1 e2
theorem Zbk.start (t:TaskP) (p:List (List Int)):Zbk t p [] 0:=⟨rfl,fun j hj=>Zo4 hj (ZoQ _)⟩
theorem Zbk.snoc {t:TaskP} {p:List (List Int)} {qs:List PP} {u:Nat} {x y:ByteArray} (h:Zbk t p qs u) (hx:IsP (covR t p u) x y):Zbk t p (qs++[(x,y)]) (u+1):=by
 refine⟨by rw[ZoH,h.1];rfl,fun j hj=>?_⟩
 rcases Zow j u with h2 | h2
 ·rw[show (qs++[(x,y)]).getD j (Zpa,Zpa)=qs.getD j (Zpa,Zpa) by simp only[List.getD];rw[List.getElem?_append_left (by rw[h.1];exact h2)]]
  exact h.2 j h2
 ·obtain rfl:j=u:=Za
  rw[show (qs++[(x,y)]).getD j (Zpa,Zpa)=(x,y) by simp only[List.getD];rw[List.getElem?_append_right (by rw[h.1];exact Nat.le_refl _),h.1,Nat.sub_self];rfl]
  exact hx
def Zdy (t:TaskP) (p:List (List Int)) (g B:Nat) (n:Int) (V:World):Prop:=n=0/\∃ v qs,V.heap[g]?=some (prO v)/\Zbk t p qs t.sites.length/\Own V B v qs
theorem Zdy.stay {t:TaskP} {p:List (List Int)} {g h B:Nat} (hne:g≠h) (hB:h<B) (n:Int) (W W':World) (q:Zdy t p g B n W) (hk:Keeps (fun b=>b≠h) W W'):Zdy t p g B n W':=by
 obtain⟨h0,v,qs,h1,h2,h3⟩:=q
 exact⟨h0,v,qs,hk.at h1 hne,h2,h3.kept fun x hx hv=>hk.block x (ZoE h3 x hv).2 (by show x≠h;omega)⟩
theorem Zjp {t:TaskP} {p:List (List Int)} {Ge Gw Gr b m:Nat} {sv hv rv pv:Value} {ps ph pr:Option Addr} {N nh nr cs ch cr:Nat} {pb po pc:Nat} {gq gp gc:Nat->Nat} {W:World} (he:W.heap[Ge]?=some (efO (.slice ps N cs) (.slice ph nh ch) (.slice pr nr cr))) (hw:W.heap[Gw]?=some (wkO b)) (hr:W.heap[Gr]?=some (prO (.slice none 0 0)))
  (hW:WorkW t b m sv hv rv pv W) (hP:PlanW p t.sites.length m pv pb po pc gq gp gc W) (ok:TaskOk t) (inn:Zbu t p) (hN:t.sites.length=N) :
  Calls Tryz.prog 70 #[.pointer (some ⟨Ge,0,none⟩),.pointer (some ⟨Gw,0,none⟩),.pointer (some ⟨Gr,0,none⟩)] W (ZfA (Zdy t p Gr W.heap.size) (fun b=>b≠Gr) W):=by
 have e0:=Zn he 0 (v:=.slice ps N cs) rfl
 obtain⟨i0,hi,hz0,hz1,hz2⟩:=info_parts ZgC
 have HWW:Hid (∀ V i,Below W.heap.size W V->i<N->Calls Tryz.prog 71 #[.pointer (some ⟨b,0,none⟩),.int .i64 i] V (fun e w'=>∃ x y,e=.returned (pV x y)/\IsP (covR t p i) x y/\Below V.heap.size V w')):=fun V i hV hi=>
  Zfp (hW.keep (hV.keepsS _)) (hP.keep (hV.keepsS _)) ok inn (by rw[hN];exact hi)
 have HWK:=Zpe hw
 have HR:=Zpe hr
 have HNN:=Zpe hN
 have hN24:N<=24:=by rw[<- hN];exact ok.sites.2
 have hrl:=(Zo9 hr)
 have hwl:=(Zo9 hw)
 clear hW hP he hw hr ok inn hN
 obtain⟨B0,hB0⟩:=Zpg W.heap.size
 have HB0:=Zpe hB0
 rw[hB0] at hrl hwl ⊢
 clear hB0
 go_enter Tryz.func70,Tryz.ntmps70
 go_wp2_with fail
 clear e0
 go_loopw [3,8] (fun uv iv wr=>∃ (u:Nat) (qs:List PP),iv=.int .i64 u/\u<=N/\Hid (Own wr B0 uv qs)/\Hid (Zbk t p qs u)/\Hid (Below B0 W wr)) (fun _ iv _=>N-(intOf iv).toNat)
 case atStart=>exact⟨0,[],rfl,ZoD _,Own.nil _ _,Zbk.start t p,Zoq _ _⟩
 case round=>
  obtain⟨u,qs,rfl,hu,HO,HQ,HW1⟩:=hrel
  have hBw:B0<=wr.heap.size:=by rw[<- HB0.out];exact HW1.out.size
  by_cases hlt:u<N
  ·have c1:=Zn ((HW1.out.block Gw hwl).trans HWK.out) 0 (v:=.pointer (some ⟨b,0,none⟩)) rfl
   have hb0:Below W.heap.size W wr:=by rw[HB0.out];exact HW1.out
   have HCV:=Zpe (HWW.out wr u hb0 hlt)
   clear hb0
   go_wp2_with fail
   clear c1
   refine HCV.out.mono ?_
   rintro e w3 ⟨x,y,rfl,hx,hb⟩
   have HX:=Zpe hx
   have HO3:Hid (Own w3 B0 u3 qs):=HO.out.after hb
   have HW3:Hid (Below B0 W w3):=HW1.out.trans (hb.mono hBw)
   have hsz:B0<=w3.heap.size:=Zoz hBw hb.size
   have hownA:(w3.alloc (pObj x y)).ownsRow B0 41 2 u3 qs.length (Za6 qs):=by
    have h1:w3.ownsRow B0 41 2 u3 qs.length (Za6 qs):=HO3.out
    exact h1.alloc _
   have hql:=HQ.out.1
   have hm1:qs.length+1<=maxLen:=by unfold maxLen;omega
   have hm2:(qs.length+1)*32<=140737488355328:=Za
   have hm3:B0<=(w3.alloc (pObj x y)).heap.size:=by simp;omega
   have hnews:∀ (j:Nat) (z:Value),([.string x,.string y]:List Value)[j]?=some z->(w3.alloc (pObj x y)).cell? ((⟨w3.heap.size,0,none⟩:Addr).add j)=some z:=World.news_of_block (Zot w3 _)
   obtain⟨po9,no9,co9,rfl⟩:∃ p n c,u3=Value.slice p n c:=by
    obtain⟨p,c,h,_⟩:=HO.out.pl
    exact⟨_,_,_,h⟩
   clear hb hx hql HCV
   go_wp2_with (at_builtin;go_loud (refine ZoV _ rfl (.tmp 11) (.tmp 15) 37 rfl B0 41 i0 (Zpb Zpa Zpa) 2 32 Tryz.underlying37 hi hz0 hz1 hz2 rfl Zd _ qs.length (Za6 qs) rfl hownA ⟨w3.heap.size,0,none⟩ 1 1 [.string x,.string y] rfl rfl hnews (by simp[Value.oneCell']) hm1 hm2 hm3 ?_);intro v' w4' hown4 hgrow4 _)
   have HO4:Hid (Own w4' B0 v' (qs++[(x,y)])):=by
    show w4'.ownsRow _ _ _ _ _ _
    rw[ZoH,ZeP]
    exact hown4
   have HW4:Hid (Below B0 W w4'):=(HW3.out.alloc Za (pObj x y)).grown hgrow4 hm3 (fun z hz=>(ZoE hownA z hz).1)
   have HQ4:=Zpe (HQ.out.snoc HX.out)
   clear hown4 hgrow4 hownA hnews hm1 hm2 hm3 HQ
   go_roundw
   case rel=>exact⟨u+1,qs++[(x,y)],by go_num,Za,HO4,HQ4,HW4⟩
   case measure=>exact Zj
  ·obtain rfl:u=N:=Za
   obtain⟨po9,no9,co9,rfl⟩:∃ p n c,u3=Value.slice p n c:=by
    obtain⟨p,c,h,_⟩:=HO.out.pl
    exact⟨_,_,_,h⟩
   have HR2:Hid (wr.heap[Gr]?=some (prO (.slice none 0 0))):=(HW1.out.block _ hrl).trans HR.out
   have HPR:Hid (Zbk t p qs t.sites.length):=by rw[HNN.out];exact HQ.out
   have r0:=Zn HR2.out 0 (v:=.slice none 0 0) rfl
   have f0:=Zo HR2.out 0
   clear HQ
   go_wp2
   refine Zor (results_none rfl _ _ _) rfl ⟨0,.inl ⟨rfl,rfl⟩,⟨rfl,_,qs,Zov HR2.out _,HPR.out,HO.out.kept fun x hx _=>Zos _ _ _ _ (by show x≠Gr;omega)⟩,?_⟩
   have hk:Below W.heap.size W wr:=by rw[HB0.out];exact HW1.out
   exact(hk.keepsS (fun b=>b≠Gr)).setCell (p:=⟨Gr,0,none⟩) Zc _
def Zg1 (t:TaskP) (p:List (List Int)) (w:World) (e:Ending) (w':World):Prop:=
 ((¬ PlanOk t p/\e=.returned (.tuple #[.slice none 0 0,.int .i64 2]))\/(PlanOk t p/\∃ qs v,Zbk t p qs t.sites.length/\Own w' w.heap.size v qs/\e=.returned (.tuple #[v,.int .i64 0])))/\Below w.heap.size w w'
theorem ZjD {t:TaskP} {p:List (List Int)} {sv hv rv pv:Value} {w:World} (hT:TaskIn t sv hv rv w) (hz:LimT t) (hI:IIL w pv p) :
  Calls Tryz.prog 24 #[.agg #[sv,hv,rv],pv] w (Zg1 t p w):=by
 obtain⟨ps,cs,rfl,_⟩:=hT.sites.shape rfl
 obtain⟨ph,ch,rfl,_⟩:=hT.hours.shape rfl
 obtain⟨pr,cr,rfl,_⟩:=hT.rates.shape rfl
 obtain⟨pp,pc,rfl,_⟩:=hI.shape rfl
 obtain⟨ns,hns⟩:=Zpg t.sites.length
 obtain⟨nh,hnh⟩:=Zpg t.hours.length
 obtain⟨nr,hnr⟩:=Zpg t.rates.length
 obtain⟨np,hnp⟩:=Zpg p.length
 rw[hns,hnh,hnr] at hT ⊢
 rw[hnp] at hI ⊢
 have HT:=Zpe hT
 have HI:=Zpe hI
 have HZ:=Zpe hz
 have HNS:=Zpe hns
 have HE0:Hid (Env w.heap.size w [(w.heap.size+1,prO (.slice none 0 0)),(w.heap.size,efO (.slice ps ns cs) (.slice ph nh ch) (.slice pr nr cr))] []
  ((w.alloc (efO (.slice ps ns cs) (.slice ph nh ch) (.slice pr nr cr))).alloc (prO (.slice none 0 0)))):=((Env.start w).push _ rfl).push _ Zc
 have e0:=HE0.out.cell 1 0 (v:=.slice ps ns cs) rfl rfl
 have e1:=HE0.out.cell 1 1 (v:=.slice ph nh ch) rfl rfl
 have e2:=HE0.out.cell 1 2 (v:=.slice pr nr cr) rfl rfl
 clear hT hI hz hns hnh hnr hnp
 go_enter Tryz.func24,Tryz.ntmps24
 go_wp2_with fail
 refine(Zb7 (HT.out.below HE0.out.base Zpf) HZ.out (IIL.stay2 HI.out HE0.out.base Zpf)).mono ?_
 rintro e w1 ⟨hE,hb⟩
 have HE1:=Zpe (HE0.out.step hb)
 clear hb HE0 e0 e1 e2
 have r0:=HE1.out.cell 0 0 (v:=.slice none 0 0) rfl rfl
 have f0:=HE1.out.free 0 0 rfl
 rcases hE with ⟨hok,rfl⟩ | ⟨hok,rfl⟩
 rotate_left
 ·have HNO:=Zpe hok
  clear hok
  have HS9:=Zpe (HE1.out.store 0 0 (.slice none 0 0) rfl)
  go_wp2
  have q0:=HS9.out.cell 0 0 (v:=.slice none 0 0) rfl rfl
  exact Zor (v:=.tuple #[.slice none 0 0,.int .i64 2]) (by simp[results,Tryz.f24,go_sem,q0]) rfl ⟨.inl ⟨HNO.out,rfl⟩,HS9.out.base⟩
 ·have HOK:=Zpe hok
  clear r0 f0 hok
  have e0:=HE1.out.cell 1 0 (v:=.slice ps ns cs) rfl rfl
  have e1:=HE1.out.cell 1 1 (v:=.slice ph nh ch) rfl rfl
  have e2:=HE1.out.cell 1 2 (v:=.slice pr nr cr) rfl rfl
  go_wp2_with fail
  refine(Zde (HT.out.below HE1.out.base Zpf) (IIL.stay2 HI.out HE1.out.base Zpf) HOK.out.len8.2 HOK.out.task.sites (fun u h=>HOK.out.row u h)).mono ?_
  rintro e w2 ⟨b,m,sv',hv',rv',pv',gq,gc,rfl,hW,hP,hM,hm,hb1,hb⟩
  obtain⟨pb,pc8,_,hPW⟩:=hP.toW HOK.out.len8.1
  obtain⟨G,hG⟩:=Zpg w.heap.size
  obtain⟨C,hC⟩:=Zpg w2.heap.size
  obtain⟨w3,hw3⟩:=Zpg (w2.alloc (wkO b))
  have HGG:=Zpe hG
  have HE2:=Zpe (HE1.out.step hb)
  have HE3:Hid (Env w.heap.size w [(C,wkO b),(w.heap.size+1,prO (.slice none 0 0)),(w.heap.size,efO (.slice ps ns cs) (.slice ph nh ch) (.slice pr nr cr))] [] w3):=by rw[<- hw3];exact HE2.out.push _ hC.symm
  have hGE:=HE3.out
  rw[hG] at hGE
  have hs1:G+2<=C:=by
   have:=(HE2.out.lt 0 rfl)
   rw[hG] at this
   omega
  have hs3:w3.heap.size=C+1:=by rw[<- hw3,ZoP,hC]
  have HTR:Hid (Calls Tryz.prog 50 #[.func (.func 70) #[] #[.pointer (some ⟨G,0,none⟩),.pointer (some ⟨C,0,none⟩),.pointer (some ⟨G+1,0,none⟩)]] w3 (ZdF (Zdy t p (G+1) (w3.heap.size+1)) (fun b=>b≠G+1) w3)):=by
   have hal:Below w3.heap.size w3 (w3.alloc (erO 0)):=(Zoq _ w3).alloc Zpf _
   have hE2:=hGE.step hal
   have h23:Below w2.heap.size w2 (w3.alloc (erO 0)):=by
    have h1:Below w2.heap.size w2 w3:=by rw[<- hw3];exact(Zoq _ w2).alloc Zpf _
    exact h1.trans (hal.mono h1.size)
   refine Zds (enters_of Tryz.func70 Zb rfl) (fun b hb=>by show b≠G+1;omega) (fun n W W'=>Zdy.stay Za Za n W W') ?_
   have:=Zjp (hE2.block 2 rfl) (hE2.block 0 rfl) (hE2.block 1 rfl) (hW.keep (h23.keepsS _)) (hPW.keep (h23.keepsS _)) HOK.out.task HOK.out.inn HNS.out
   rw[ZoP] at this
   exact this
  rw[hG]
  clear hW hP hM hm hb1 hb hPW hGE hG e0 e1 e2 HE1 HE2
  go_wp2_with fail
  try rw[hC]
  try rw[hw3]
  clear hC hw3
  refine HTR.out.mono ?_
  rintro e w4 ⟨n,rfl,⟨rfl,v,qs,hxy,hS,hO⟩,hk⟩
  have HSE:=Zpe hS
  have HXY:=Zpe hxy
  have HB2:Zo8 w w4:=HE3.out.base.trans (hk.below_of (fun b hb=>by have:=HGG.out;show b≠G+1;omega) HE3.out.own)
  obtain⟨po9,no9,co9,rfl⟩:∃ p n c,v=Value.slice p n c:=by
   obtain⟨p,c,h,_⟩:=hO.pl
   exact⟨_,_,_,h⟩
  have HOW:=Zpe hO
  clear hS hk HTR hO
  have r0:=Zn HXY.out 0 (v:=.slice po9 no9 co9) rfl
  have f0:=Zo HXY.out 0
  clear hxy
  go_wp2
  have hb9:(w4.setCell ⟨G+1,0,none⟩ (.slice po9 no9 co9)).heap[G+1]?=some (prO (.slice po9 no9 co9)):=Zov HXY.out _
  have q0:=Zn hb9 0 (v:=.slice po9 no9 co9) rfl
  refine Zor (v:=.tuple #[.slice po9 no9 co9,.int .i64 0]) (by simp[results,Tryz.f24,go_sem,q0]) rfl ⟨.inr ⟨HOK.out,qs,_,HSE.out,(HOW.out.kept fun x hx _=>Zos _ _ _ _ (by show x≠G+1;omega)).mono (by have:=HGG.out;omega),rfl⟩,HB2.out.setCell (p:=⟨G+1,0,none⟩) (by have:=HGG.out;show w.heap.size<=G+1;omega) _⟩
theorem ZjJ {t:TaskP} {p:List (List Int)} {sv hv rv pv:Value} {w:World} (hT:TaskIn t sv hv rv w) (hz:LimT t) (hI:IIL w pv p) :
  Calls Tryz.prog 25 #[.agg #[sv,hv,rv],pv] w (Zg1 t p w):=by
 have HT:=Zpe hT
 have HZ:=Zpe hz
 have HI:=Zpe hI
 obtain⟨ps,cs,rfl,_⟩:=hT.sites.shape rfl
 obtain⟨ph,ch,rfl,_⟩:=hT.hours.shape rfl
 obtain⟨pr,cr,rfl,_⟩:=hT.rates.shape rfl
 obtain⟨pp,pc,rfl,_⟩:=hI.shape rfl
 obtain⟨N,hN⟩:=Zpg t.sites.length
 obtain⟨T,hTl⟩:=Zpg t.hours.length
 obtain⟨R,hR⟩:=Zpg t.rates.length
 obtain⟨np,hnp⟩:=Zpg p.length
 rw[hN,hTl,hR] at HT ⊢
 rw[hnp] at HI ⊢
 obtain⟨G,hG⟩:=Zpg w.heap.size
 have HGG:=Zpe hG
 have HLN:=Zpe hN
 have HLT:=Zpe hTl
 have HLR:=Zpe hR
 obtain⟨i0,hi,hz0,hz1,hz2⟩:=info_parts ZgC
 have HE0:Hid (Env w.heap.size w [(G,efO (.slice ps N cs) (.slice ph T ch) (.slice pr R cr))] [] (w.alloc (efO (.slice ps N cs) (.slice ph T ch) (.slice pr R cr)))):=(Env.start w).push _ hG.symm
 clear hT hz hI hN hTl hR hnp
 go_enter Tryz.func25,Tryz.ntmps25
 go_wp2_with fail
 refine(ZdV (HT.out.below HE0.out.base Zpf) HZ.out (IIL.stay2 HI.out HE0.out.base Zpf)).mono ?_
 rintro e w1 ⟨r,rfl,hr,hb⟩
 have HE1:=Zpe (HE0.out.step hb)
 have HRR:=Zpe hr
 clear hb hr HE0
 try rw[hG]
 clear hG
 cases r with
 | false=>
  have HNO:Hid (¬ PlanOk t p):=fun k=>by have:=HRR.out.2 k;cases this
  clear HRR
  go_wp2
  exact Zor (by simp[results,Tryz.f25,go_sem]) rfl ⟨.inl ⟨HNO.out,rfl⟩,HE1.out.base⟩
 | true=>
 have HOK:Hid (PlanOk t p):=HRR.out.1 rfl
 clear HRR
 have hN24:1<=N/\N<=24:=by rw[<- HLN.out];exact HOK.out.task.sites
 obtain⟨pb,po,pc',gq,gp,gc,hpv,hPW⟩:=Zfj HI.out HOK.out.len8.1 HOK.out.task.sites.1 (fun u h=>HOK.out.row u h)
 obtain⟨b,hb⟩:=Zpg w1.heap.size
 obtain⟨w2,hw2⟩:=Zpg (w1.alloc (smO 0))
 have HS:=Zpe (smIn HT.out HE1.out.base hb hw2)
 have HPW:=Zpe (hPW b w2 HS.out.ge HS.out.now)
 have HEF:=Zpe (HE1.out.block 0 rfl)
 have HB2:Hid (w2.heap.size=b+1):=by show _=_;rw[<- hw2,<- hb];simp
 clear hPW HE1 hpv
 go_wp2_with fail
 try rw[hb]
 try rw[hw2]
 clear hb hw2
 have hbG:w.heap.size<=b:=HS.out.ge
 go_loopw [8,9] (fun uv iv wr=>∃ (u:Nat) (qs:List PP),iv=.int .i64 u/\u<=N/\Hid (Own wr (b+1) uv qs)/\Hid (Zbk t p qs u)/\Hid (Keeps (NotM b) w2 wr/\wr.heap[b]?=some (smO 0))) (fun _ iv _=>N-(intOf iv).toNat)
 case atStart=>exact⟨0,[],rfl,ZoD _,Own.nil _ _,Zbk.start t p,Keeps.refl _ _,HS.out.sm⟩
 case round=>
  obtain⟨u,qs,rfl,hu,HO,HQ,HK⟩:=hrel
  obtain⟨hbv,hgv⟩:=HS.out.keep _ HK.out.1
  have g0:=hgv _ _ HEF.out
  have e0:=Zn g0 0 (v:=.slice ps N cs) rfl
  by_cases hlt:u<N
  ·have e1:=Zn g0 1 (v:=.slice ph T ch) rfl
   have e2:=Zn g0 2 (v:=.slice pr R cr) rfl
   have HCV:=Zpe (Zew (HS.out.task.keep HK.out.1) (HPW.out.keep HK.out.1) HK.out.2 HOK.out.task HOK.out.inn (i:=u) (by rw[HLN.out];exact hlt))
   clear hbv hgv
   go_wp2_with fail
   clear g0 e0 e1 e2
   refine HCV.out.mono ?_
   rintro e w3 ⟨x,y,hx,rfl,hk3⟩
   have HX:Hid (IsP (covR t p u) x y):=hx
   have hown3:w3.ownsRow (b+1) 41 2 u8 qs.length (Za6 qs):=Zae HO.out fun g hg=>hk3.1.block g (ZoE HO.out g hg).2 (by have:=(ZoE HO.out g hg).1;show g≠b;omega)
   have hownA:(w3.alloc (pObj x y)).ownsRow (b+1) 41 2 u8 qs.length (Za6 qs):=hown3.alloc _
   have hB2:=HB2.out
   have hs1:=HK.out.1.size
   have hs2:=hk3.1.size
   have hql:=HQ.out.1
   have hm1:qs.length+1<=maxLen:=by unfold maxLen;omega
   have hm2:(qs.length+1)*32<=140737488355328:=Za
   have hm3:b+1<=(w3.alloc (pObj x y)).heap.size:=by simp;omega
   have hnews:∀ (j:Nat) (z:Value),([.string x,.string y]:List Value)[j]?=some z->(w3.alloc (pObj x y)).cell? ((⟨w3.heap.size,0,none⟩:Addr).add j)=some z:=World.news_of_block (Zot w3 _)
   obtain⟨po9,no9,co9,rfl⟩:∃ p n c,u8=Value.slice p n c:=by
    obtain⟨p,c,h,_⟩:=HO.out.pl
    exact⟨_,_,_,h⟩
   have HWV:Hid (Keeps (NotM b) w2 (w3.alloc (pObj x y))/\(w3.alloc (pObj x y)).heap[b]?=some (smO 0)):=by
    have hal:Below w3.heap.size w3 (w3.alloc (pObj x y)):=(Zoq _ w3).alloc Zpf _
    exact⟨(HK.out.1.trans hk3.1).trans (hal.keepsS _),(hal.block b Za).trans hk3.2⟩
   clear hown3 hql hs1 hs2 hx hk3 HCV
   go_wp2_with (at_builtin;refine ZoV _ rfl (.tmp 24) (.tmp 30) 37 rfl (b+1) 41 i0 (Zpb Zpa Zpa) 2 32 Tryz.underlying37 hi hz0 hz1 hz2 rfl Zd _ qs.length (Za6 qs) rfl hownA ⟨w3.heap.size,0,none⟩ 1 1 [.string x,.string y] rfl rfl hnews (by simp[Value.oneCell']) hm1 hm2 hm3 ?_;intro v' w4' hown4 hgrow4 _)
   have HO4:Hid (Own w4' (b+1) v' (qs++[(x,y)])):=by
    show w4'.ownsRow _ _ _ _ _ _
    rw[ZoH,ZeP]
    exact hown4
   have hbl:Below (b+1) (w3.alloc (pObj x y)) w4':=(Zoq _ _).grown hgrow4 hm3 (fun z hz=>(ZoE hownA z hz).1)
   have HK4:Hid (Keeps (NotM b) w2 w4'/\w4'.heap[b]?=some (smO 0)):=⟨Zkw HWV.out.1 HB2 hbl,(hbl.block b Za).trans HWV.out.2⟩
   have HQ4:=Zpe (HQ.out.snoc HX.out)
   clear hown4 hgrow4 hownA hnews hm1 hm2 hm3 hbl HWV
   go_roundw
   case rel=>exact⟨u+1,qs++[(x,y)],by go_num,Za,HO4,HQ4,HK4⟩
   case measure=>exact Zj
  ·obtain rfl:u=N:=Za
   have s0:=Zn HK.out.2 0 (v:=.int .i64 0) rfl
   have HBV:=Zpe hbv
   obtain⟨po9,no9,co9,rfl⟩:∃ p n c,u8=Value.slice p n c:=by
    obtain⟨p,c,h,_⟩:=HO.out.pl
    exact⟨_,_,_,h⟩
   have HPR:Hid (Zbk t p qs t.sites.length):=by rw[HLN.out];exact HQ.out
   clear HQ hbv hgv g0
   go_wp2
   exact Zor (by simp[results,Tryz.f25,go_sem]) rfl ⟨.inr ⟨HOK.out,qs,_,HPR.out,HO.out.mono Za,rfl⟩,HBV.out⟩
end Go.Proofs.YtmpaflidennnoaaGreatDoor
