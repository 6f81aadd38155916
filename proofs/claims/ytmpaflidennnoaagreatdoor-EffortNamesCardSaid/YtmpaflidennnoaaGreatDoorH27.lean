/- The parts EGreedyL, EGreedy, Float2 of a proof, put together by program (merge7.py). -/
import Derived.Test.YtmpaflidennnoaaGreatDoorH01
import Derived.Test.YtmpaflidennnoaaGreatDoorH26
import Derived.Test.YtmpaflidennnoaaGreatDoorH23
set_option maxRecDepth 100000
set_option maxHeartbeats 4000000
set_option linter.unusedVariables false
set_option linter.unusedSimpArgs false
namespace Go.Proofs.YtmpaflidennnoaaGreatDoor
open Go.RowKit Go.Shelf
attribute [local go_sem ↓] Go.wp_at_zero Go.wp_at_succ
abbrev NotG (m T:Nat) (gq:Nat→Nat):Nat→Prop:=fun x=>x≠m∧∀ u,u<T→x≠gq u
def Zfu (t:TaskP) (p0:List (List Int)) (b m:Nat) (pv:Value) (gq gc:Nat→Nat) (w:World) (e:Ending) (w':World):Prop:=
 e=.returned (.tuple #[])∧(∃ p,GreedyR t p0 p∧PlanOk t p∧PlanO p t.sites.length m b pv gq gc w')∧Keeps (NotG m p0.length gq) w w'
def Zh9 (t:TaskP) (p0:List (List Int)) (b m:Nat) (pv:Value) (gq gc:Nat→Nat) (w:World) (e:Ending) (w':World):Prop:=
 Zfu t p0 b m pv gq gc w e w'∧∃ n,n≤400000∧Memo w' m t n
theorem ZeU {t:TaskP} {p0:List (List Int)} {b m:Nat} {sv hv rv pv:Value} {gq gc:Nat→Nat} {w:World} (hW:WorkW t b m sv hv rv pv w) (hP:PlanO p0 t.sites.length m b pv gq gc w) (hm:Memo w m t 0) (ok:PlanOk t p0) :
  Calls Tryz.prog 51 #[.pointer (some ⟨b,0,none⟩)] w (Zh9 t p0 b m pv gq gc w):=by
 obtain⟨T,hT⟩:∃ n,p0.length=n:=⟨_,rfl⟩
 have hT8:=ok.len8
 have hTN:=ok.task.sites
 rw[hT] at hT8
 have HTL:=Lib.hid hT
 have HOK0:=Lib.hid ok
 have hmf:∀ (fn:Fn) (first cap:Array Value) (w:World),(Instr.makeFunc fn first cap).run Tryz.prog w=.ok (.func fn first cap) w:=fun _ _ _ _=>rfl
 obtain⟨G,hG⟩:∃ g,w.heap.size=g:=⟨_,rfl⟩
 obtain⟨w1,hw1⟩:∃ z,w.alloc (wkO b)=z:=⟨_,rfl⟩
 have hk1:Keeps (NotM m) w w1:=by rw[← hw1];exact(Keeps.refl _ w).alloc _
 have hb1:w1.heap[G]?=some (wkO b):=by rw[← hw1,← hG];exact World.alloc_heap_new w _
 have hgs:∀ u,u<T→gq u<G:=fun u hu=>by rw[← hG];exact(hP.gt (by rw[hT];exact hu)).2
 have hgm:∀ u,u<T→m<gq u:=fun u hu=>(hP.gt (by rw[hT];exact hu)).1
 have hgb:∀ u,u<T→gq u≠b:=fun u hu=>(hP.out.2 u (by rw[hT];exact hu)).1
 have hbG:b<G:=by rw[← hG];exact(Array.getElem?_eq_some_iff.1 hW.blk).1
 have hmG:m<G:=by have:=hm.lt;omega
 have HGQ:=Lib.hid (And.intro hgs (And.intro hgm hgb))
 have HI:Hid (WorkW t b m sv hv rv pv w1∧PlanO p0 t.sites.length m b pv gq gc w1∧Memo w1 m t 0∧w1.heap[G]?=some (wkO b)∧Keeps (NotG m T gq) w w1):=
  ⟨hW.keep hk1,hP.keep hk1,hm.step (by rw[← hw1];exact(Below.refl _ w).alloc (Nat.le_refl _) _),hb1,by rw[← hw1];exact(Keeps.refl _ w).alloc _⟩
 have HGG:=Lib.hid hG
 clear hW hP hm ok hT hb1 hk1 hgs hgm hgb
 go_enter Tryz.func51,Tryz.ntmps51
 go_wp2_with fail
 clear hw1
 go_loopg [] 384 (fun gf wr=>∃ (p:List (List Int)) (n:Nat),Hid (ZbT t p T≤gf∧n+768*gf≤300000∧PlanOk t p∧p.length=T∧∀ q,GreedyR t p q→GreedyR t p0 q)∧Hid (WorkW t b m sv hv rv pv wr∧PlanO p t.sites.length m b pv gq gc wr∧Memo wr m t n∧wr.heap[G]?=some (wkO b)∧Keeps (NotG m T gq) w wr))
 case atStart=>
  refine⟨p0,0,⟨?_,by decide,HOK0.out,HTL.out,fun q h=>h⟩,HI⟩
  have:=Zhf HOK0.out T (by rw[HTL.out];exact Nat.le_refl _)
  omega
 case round=>
  obtain⟨p,n,HR,HI⟩:=hrel
  obtain⟨hl1,hl2,hok,hpl,_⟩:=HR.out
  obtain⟨iW,iP,iM,iB,iK⟩:=HI.out
  have hsz:=iK.size
  obtain⟨B2,hB2⟩:∃ z,wr.heap.size=z:=⟨_,rfl⟩
  obtain⟨V1,hV1⟩:∃ z,wr.alloc (wkO b)=z:=⟨_,rfl⟩
  have hkV:Keeps (fun _=>True) wr V1:=by rw[← hV1];exact(Keeps.refl _ wr).alloc _
  have hbV:Below wr.heap.size wr V1:=by rw[← hV1];exact(Below.refl _ wr).alloc (Nat.le_refl _) _
  have hV2:V1.heap[B2]?=some (wkO b):=by rw[← hV1,← hB2];exact World.alloc_heap_new wr _
  have kV:=hkV.mono (S':=NotM m) fun _ _ _=>trivial
  have HBP:=Lib.hid (ZhM (iW.keep kV) (iP.keep kV) (iM.step hbV) (by omega) hok (hkV.at iB trivial) hV2)
  have HIV:Hid (WorkW t b m sv hv rv pv V1∧PlanO p t.sites.length m b pv gq gc V1∧V1.heap[G]?=some (wkO b)∧Keeps (NotG m T gq) w V1):=⟨iW.keep kV,iP.keep kV,hkV.at iB trivial,iK.trans (hkV.mono fun _ _ _=>trivial)⟩
  have a0:=Za iB 0 (v:=.pointer (some ⟨b,0,none⟩)) rfl
  clear iW iP iM iB iK hkV hbV hV2 kV HI hl1 hl2 hok hpl
  go_wp2_with fail
  refine(ZkV b wr).mono ?_
  rintro e w2 ⟨rfl,rfl⟩
  rw[hV1,hB2]
  clear hV1 hB2 a0
  have a0:=Za HIV.out.2.2.1 0 (v:=.pointer (some ⟨b,0,none⟩)) rfl
  go_wp2_with fail
  refine HBP.out.mono ?_
  rintro e w3 ⟨r,mx,x,y,rfl,hB,hr,hk,hM⟩
  have HB:=Lib.hid hB
  have HM:=Lib.hid hM
  have HRL:=Lib.hid hr
  have HW3:=Lib.hid (HIV.out.1.keep hk)
  have HP3:=Lib.hid (HIV.out.2.1.keep hk)
  have HG3:Hid (w3.heap[G]?=some (wkO b)):=hk.at HIV.out.2.2.1 (by show G≠m;omega)
  have HK3:Hid (Keeps (NotG m T gq) w w3):=HIV.out.2.2.2.trans (hk.mono fun x _ h=>h.1)
  have hs3:=HK3.out.size
  clear hB hr hk hM HBP HIV a0
  obtain⟨sa,sb,hab⟩:∃ sa sb,ZhR (Zcg t p) r=spV sa sb:=by cases r<;>exact⟨_,_,rfl⟩
  rw[hab]
  obtain⟨H,hH⟩:∃ z,w3.heap.size=z:=⟨_,rfl⟩
  obtain⟨w4,hw4⟩:∃ z,(w3.alloc (spO 0 0)).alloc (pObj ⟨#[]⟩ ⟨#[]⟩)=z:=⟨_,rfl⟩
  have hkA:Keeps (fun _=>True) w3 w4:=by rw[← hw4];exact((Keeps.refl _ w3).alloc _).alloc _
  have hbA:Below w3.heap.size w3 w4:=by rw[← hw4];exact((Below.refl _ w3).alloc (Nat.le_refl _) _).alloc (by simp) _
  have g0:w4.heap[H]?=some (spO 0 0):=by
   rw[← hw4,← hH]
   exact(Below.heap_alloc _ _ _ (by simp)).trans (World.alloc_heap_new w3 _)
  have g1:w4.heap[H+1]?=some (pObj ⟨#[]⟩ ⟨#[]⟩):=by
   rw[← hw4,← hH]
   have:=World.alloc_heap_new (w3.alloc (spO 0 0)) (pObj ⟨#[]⟩ ⟨#[]⟩)
   rwa [World.size_alloc] at this
  have c0:=Za g0 0 (v:=.int .i64 0) rfl
  have c1:=Za g0 1 (v:=.int .i64 0) rfl
  have c2:=Za g1 0 (v:=.string ⟨#[]⟩) rfl
  have c3:=Za g1 1 (v:=.string ⟨#[]⟩) rfl
  have f0:=Zb g0 0
  have f1:=Zb g0 1
  have f2:=Zb g1 0
  have f3:=Zb g1 1
  obtain⟨w5,hw5⟩:∃ z,(((w4.setCell ⟨H,0,none⟩ (.int .i64 sa)).setCell ⟨H,1,none⟩ (.int .i64 sb)).setCell ⟨H+1,0,none⟩ (.string x)).setCell ⟨H+1,1,none⟩ (.string y)=z:=⟨_,rfl⟩
  have hb5:Below w3.heap.size w3 w5:=by
   rw[← hw5]
   exact Zf (Zf hbA (by omega) _ _) (by omega) _ _
  have g5:w5.heap[H]?=some (spO sa sb):=by
   rw[← hw5]
   exact((Below.heap_setCell _ _ _ _ (by show H≠H+1;omega)).trans (Below.heap_setCell _ _ _ _ (by show H≠H+1;omega))).trans (ZM g0 _ _)
  have HG5:=Lib.hid (hb5.keepsS (fun _=>True) |>.at HG3.out trivial)
  have HW5:=Lib.hid (HW3.out.keep (hb5.keepsS _))
  have HP5:=Lib.hid (HP3.out.keep (hb5.keepsS _))
  have HM5:=Lib.hid (HM.out.step hb5)
  have HK5:Hid (Keeps (NotG m T gq) w w5):=HK3.out.trans (hb5.keepsS _)
  have HS5:=Lib.hid g5
  have hs5:H≤w5.heap.size:=by rw[← hH];exact hb5.size
  clear g0 g1 hkA hbA hb5 g5 HG3 HW3 HP3 HM HK3
  obtain⟨okb,hokb⟩:∃ z,r.isSome=z:=⟨_,rfl⟩
  rw[hokb]
  cases okb
  ·obtain rfl:r=none:=by cases r;rfl;cases hokb
   have hdone:GreedyR t p p:=.done HB.out
   go_wp2
   have hR:=HR.out
   try rw[hw5]
   have hM5:=HM5.out
   have hR2:=hR.2.1
   refine bodyPost_ret (results_none rfl _ _ _) rfl ⟨⟨rfl,⟨p,hR.2.2.2.2 p hdone,hR.2.2.1,HP5.out⟩,?_⟩,_,?_,hM5⟩
   ·rw[HTL.out]
    exact HK5.out
   ·omega
  ·obtain⟨k,rfl⟩:∃ k,r=some k:=Option.isSome_iff_exists.1 hokb
   have hBB:=HB.out
   simp only[Option.map_some] at hBB
   obtain⟨y1,y2,y3,_⟩:=hBB.yes _ rfl
   have hR:=HR.out
   obtain⟨j,hj⟩:∃ j,(Zad t p).getD k 0=j:=⟨_,rfl⟩
   have hab':spV ((Zcg t p k).1) ((Zcg t p k).2)=spV sa sb:=hab
   unfold Zcg at hab'
   rw[hj] at hab' y1 y2 hBB
   obtain⟨N,hN⟩:∃ n,t.sites.length=n:=⟨_,rfl⟩
   rw[hN] at hab'
   have hsa:sa=((j/N:Nat):Int):=by injection hab' with e;injection e with e;injection e with e1 e2;injection e1 with _ e3;exact e3.symm
   have hsb:sb=((j % N:Nat):Int):=by injection hab' with e;injection e with e;injection e with e1 e2;injection e2 with e2 _;injection e2 with _ e3;exact e3.symm
   have hu:j/N<T:=by
    rw[← hR.2.2.2.1,hR.2.2.1.teams]
    rw[hN,Nat.mul_comm] at y1
    exact Nat.div_lt_of_lt_mul y1
   have hi:j % N<N:=Nat.mod_lt _ (by omega)
   have hm0:0<mx:=y3
   rw[y2] at hm0
   unfold ZaN at hm0
   rw[hN] at hm0
   obtain⟨u,hu'⟩:∃ u,j/N=u:=⟨_,rfl⟩
   obtain⟨i,hi'⟩:∃ i,j % N=i:=⟨_,rfl⟩
   rw[hu'] at hu hsa hm0
   rw[hi'] at hi hsb hm0
   have hfree:0<Zaq t p u:=by
    rcases Int.lt_or_le 0 (Zaq t p u) with h | h
    ·exact h
    ·rw[if_neg (by omega)] at hm0
     exact absurd hm0 (Rat.lt_irrefl)
   rw[if_pos hfree] at hm0
   have hrate:=Zk9 hm0
   have hup:u<p.length:=by rw[hR.2.2.2.1];exact hu
   have hiN:i<t.sites.length:=by rw[hN];exact hi
   have hok2:=hR.2.2.1.bump hup hiN hfree hrate
   have ZhP:=ZfB hup (by rw[hR.2.2.1.row u hup];exact hiN) hiN hfree T
   rw[if_pos hu] at ZhP
   have hstep:∀ q,GreedyR t (bump p u i 1) q→GreedyR t p0 q:=fun q hq=>hR.2.2.2.2 q (.step hBB (by rw[hN,hu',hi'];exact hq))
   have hcell:=HP5.out.out
   have hpn:=(hR.2.2.1.hour u i hup hiN).1
   have hg1:ZbT t (bump p u i 1) T+1≤gk∧n+768*gk≤300000:=by omega
   obtain⟨gk',rfl⟩:∃ z,gk=z+1:=⟨gk-1,by omega⟩
   have HNX:Hid (ZbT t (bump p u i 1) T≤gk'∧n+768+768*gk'≤300000∧PlanOk t (bump p u i 1)∧(bump p u i 1).length=T∧∀ q,GreedyR t (bump p u i 1) q→GreedyR t p0 q):=
    ⟨by omega,by omega,hok2,by rw[ZV];exact hR.2.2.2.1,hstep⟩
   obtain⟨pb,pc,hpv,hPW⟩:=HP5.out.toW (by omega)
   subst hpv
   obtain⟨p1,p2,p3,p4⟩:=hPW.at' u hup
   have p5:=p4 i hiN
   rw[hN] at p1 p2
   rw[Nat.zero_add] at p1 p5
   have hfz:w5.frozen? ⟨gq u,i,none⟩=false:=by
    have:=World.ownsRow.frozenAt (HP5.out.row u hup) i
    exact this
   have d0:=Za HG5.out 0 (v:=.pointer (some ⟨b,0,none⟩)) rfl
   have d1:=Za HW5.out.blk 3 (v:=.slice (some ⟨pb,0,none⟩) p.length pc) rfl
   have d2:=Za HS5.out 0 (v:=.int .i64 sa) rfl
   have d3:=Za HS5.out 1 (v:=.int .i64 sb) rfl
   obtain⟨c,hc⟩:∃ c,pN p u i=c:=⟨_,rfl⟩
   rw[hc] at p5 hpn
   obtain⟨q,hq⟩:∃ q,gq u=q:=⟨_,rfl⟩
   obtain⟨qc,hqc⟩:∃ q,gc u=q:=⟨_,rfl⟩
   obtain⟨L,hL⟩:∃ L,p.length=L:=⟨_,rfl⟩
   rw[hq] at p1 p5 hfz
   rw[hqc] at p1 p2 p3
   rw[hL] at d1
   have hLT:L=T:=by rw[← hL];exact hR.2.2.2.1
   subst hsa
   subst hsb
   have j0:(0:Int)≤(u:Int):=by omega
   have j1:(u:Int)<(L:Int):=by omega
   have j2:(0:Int)≤(i:Int):=by omega
   have j3:(i:Int)<(N:Int):=by omega
   have eW:IntKind.i64.wrap (c+1)=c+1:=IntWalk.i64_in _ (by omega)
   have HQ:=Lib.hid (And.intro hc hq)
   have HUI:=Lib.hid (And.intro hup hiN)
   clear HB HRL hokb y1 y2 y3 hBB hab' hab hu' hi' hfree hm0 hrate hok2 ZhP hstep hcell hg1 hPW hR hj HR p4 hpn hc hq hqc
   go_wp2
   go_region
   obtain⟨hc,hq⟩:=HQ.out
   obtain⟨w6,hw6⟩:∃ z,(w5.setCell ⟨q,i,none⟩ (.int .i64 (c+1))).drew=z:=⟨_,rfl⟩
   have hk6:Keeps (fun z=>z≠q) w5 w6:=by rw[← hw6];exact((Keeps.refl _ w5).setCell (by simp) _).drew
   have hqm:=HGQ.out.2.1 u hu
   have hqb:=HGQ.out.2.2 u hu
   have hqG:=HGQ.out.1 u hu
   rw[hq] at hqm hqb hqG
   have HP6:Hid (PlanO (bump p u i 1) t.sites.length m b (.slice (some ⟨pb,0,none⟩) p.length pc) gq gc w6):=by
    have h:=HP5.out.store hup hiN 1 (x:=c+1) (by rw[hc])
    rw[hq] at h
    rw[← hw6]
    exact h.keep (Keeps.refl _ _).drew
   have HW6:=Lib.hid (HW5.out.keepS hk6 (fun z hz=>by show z≠q;omega) (fun e=>hqb e.symm))
   have HM6:=Lib.hid (HM5.out.stay (hk6.block m HM5.out.lt (by show m≠q;omega)))
   have HG6:=Lib.hid (hk6.at HG5.out (by show G≠q;omega))
   have HK6:Hid (Keeps (NotG m T gq) w w6):=HK5.out.trans (hk6.mono fun z _ hz=>by rw[← hq];exact hz.2 u hu)
   rw[hw6]
   clear hk6 hw6
   go_wp2
   go_roundg gk'
   case measure=>omega
   case rel=>exact⟨bump p u i 1,n+768,HNX,HW6.out,HP6.out,HM6.out,HG6.out,HK6.out⟩
theorem Zi5 {t:TaskP} {p0:List (List Int)} {b m:Nat} {sv hv rv pv:Value} {gq gc:Nat→Nat} {w:World} (hW:WorkW t b m sv hv rv pv w) (hP:PlanO p0 t.sites.length m b pv gq gc w) (hm:Memo w m t 0) (ok:PlanOk t p0) :
  Calls Tryz.prog 51 #[.pointer (some ⟨b,0,none⟩)] w (Zfu t p0 b m pv gq gc w):=(ZeU hW hP hm ok).mono fun _ _ h=>h.1
theorem PlanO.keepG {p:List (List Int)} {N m b g:Nat} {pv:Value} {gq gc:Nat→Nat} {w w':World} (h:PlanO p N m b pv gq gc w) (h1:pv.ownBlock≠some g) (h2:∀ u,u<p.length→gq u≠g) (hk:Keeps (fun x=>x≠g) w w'):PlanO p N m b pv gq gc w':=by
 refine⟨ZJ h.outer fun x hx=>?_,fun u hu=>ZJ (h.row u hu) fun x hx=>?_,h.inj,h.out⟩
 ·exact hk.block x (World.ownsRow.lt h.outer x hx).2 fun e=>h1 (by rw[hx,e])
 ·have hx':gq u=x:=by simpa[Value.ownBlock] using hx
  exact hk.block x (World.ownsRow.lt (h.row u hu) x hx).2 fun e=>h2 u hu (by rw[hx',e])
def Zms (t:TaskP) (b m:Nat) (pv:Value) (gq gc:Nat→Nat) (n:Int) (W:World):Prop:=n=0∧∃ p,GreedyR t (Zu t) p∧PlanOk t p∧PlanO p t.sites.length m b pv gq gc W
def Zmt (t:TaskP) (w:World) (e:Ending) (w':World):Prop:=
 ((¬ TaskOk t∧e=.returned (.tuple #[.slice none 0 0,.int .i64 2]))∨(TaskOk t∧∃ p pv,GreedyR t (Zu t) p∧PlanOk t p∧IIL w' pv p∧e=.returned (.tuple #[pv,.int .i64 0])))∧Below w.heap.size w w'
theorem ZiK {t:TaskP} {sv hv rv:Value} {w:World} (hT:TaskIn t sv hv rv w) (hz:LimT t) :
  Calls Tryz.prog 16 #[.agg #[sv,hv,rv]] w (Zmt t w):=by
 obtain⟨ps,cs,rfl,_⟩:=hT.sites.shape rfl
 obtain⟨ph,ch,rfl,_⟩:=hT.hours.shape rfl
 obtain⟨pr,cr,rfl,_⟩:=hT.rates.shape rfl
 obtain⟨ns,hns⟩:∃ n,t.sites.length=n:=⟨_,rfl⟩
 obtain⟨nh,hnh⟩:∃ n,t.hours.length=n:=⟨_,rfl⟩
 obtain⟨nr,hnr⟩:∃ n,t.rates.length=n:=⟨_,rfl⟩
 rw[hns,hnh,hnr] at hT ⊢
 have HT:=Lib.hid hT
 have HZ:=Lib.hid hz
 have hmf:∀ (fn:Fn) (first cap:Array Value) (w:World),(Instr.makeFunc fn first cap).run Tryz.prog w=.ok (.func fn first cap) w:=fun _ _ _ _=>rfl
 have HE0:Hid (Env w.heap.size w [(w.heap.size,efO (.slice ps ns cs) (.slice ph nh ch) (.slice pr nr cr))] [] (w.alloc (efO (.slice ps ns cs) (.slice ph nh ch) (.slice pr nr cr)))):=(Env.start w).push _ rfl
 have e0:=HE0.out.cell 0 0 (v:=.slice ps ns cs) rfl rfl
 have e1:=HE0.out.cell 0 1 (v:=.slice ph nh ch) rfl rfl
 have e2:=HE0.out.cell 0 2 (v:=.slice pr nr cr) rfl rfl
 clear hT hz
 go_enter Tryz.func16,Tryz.ntmps16
 go_wp2_with fail
 refine(Zc7 (HT.out.below HE0.out.base (Nat.le_refl _)) HZ.out).mono ?_
 rintro e w1 ⟨hE,hb⟩
 have HE1:=Lib.hid (HE0.out.step hb)
 clear hb HE0 e0 e1 e2
 rcases hE with ⟨hok,rfl⟩ | ⟨hok,rfl⟩
 rotate_left
 ·have HB1:=Lib.hid HE1.out.base
  have HOK:=Lib.hid hok
  clear hok HE1
  go_wp2
  exact bodyPost_ret (by simp[results,Tryz.f16,go_sem]) rfl ⟨.inl ⟨HOK.out,rfl⟩,HB1.out⟩
 ·have HOK:=Lib.hid hok
  have HT1:=Lib.hid (HT.out.below HE1.out.base (Nat.le_refl _))
  have HB1:=Lib.hid HE1.out.base
  obtain⟨G,hG⟩:∃ G,w.heap.size=G:=⟨_,rfl⟩
  have hSS:=HE1.out.block 0 rfl
  have HGG:=Lib.hid hG
  rw[hG] at hSS ⊢
  have HS1:=Lib.hid hSS
  clear hok HE1 hSS hG
  go_wp2
  refine ZG [(1,0),(1,1),(0,2),(0,3),(1,4)] (fun V=>V.heap[G]?=some (efO (.slice ps ns cs) (.slice ph nh ch) (.slice pr nr cr))) (fun i=>false)
   (by kernel_rfl) (by kernel_rfl) (fun j hj=>rfl) (fun _ _ o _ _ h=>by cases o<;>exact h) HS1.out ?_
  have HSd:Hid (w1.drew.heap[G]?=some (efO (.slice ps ns cs) (.slice ph nh ch) (.slice pr nr cr))):=HS1.out
  have HTd:Hid (TaskIn t (.slice ps ns cs) (.slice ph nh ch) (.slice pr nr cr) w1.drew):=HT1.out.below (Below.refl _ w1).drew (Nat.le_refl _)
  have HBd:Hid (Below w.heap.size w w1.drew):=HB1.out.drew
  obtain⟨V,hV⟩:∃ z,w1.drew=z:=⟨_,rfl⟩
  rw[hV] at HSd HTd HBd ⊢
  clear hV HS1 HT1 HB1
  iterate 2
   refine Zc _ rfl rfl (fun w' hS=>by have d0:=Za hS 0 (v:=.slice ps ns cs) rfl;have d1:=Za hS 1 (v:=.slice ph nh ch) rfl;have d2:=Za hS 2 (v:=.slice pr nr cr) rfl;go_simp;first | rfl | (rw[if_pos (by omega)])) ?_
   simp only[Znc,Znd,Zne,Act.put,Znf,Zng,Znh]
  refine Zl 49 _ rfl rfl (by go_simp;rfl) ?_
  refine(Zhi HTd.out HOK.out.teams.2 HOK.out.sites).mono ?_
  rintro e V1 ⟨pv0,rfl,hI,hb⟩
  have HS1:Hid (V1.heap[G]?=some (efO (.slice ps ns cs) (.slice ph nh ch) (.slice pr nr cr))):=(hb.block _ (Array.getElem?_eq_some_iff.1 HSd.out).1).trans HSd.out
  have HT1:=Lib.hid (HTd.out.below hb (Nat.le_refl _))
  have HB1:Hid (Below w.heap.size w V1):=HBd.out.trans (hb.mono HBd.out.size)
  have HI1:=Lib.hid hI
  refine .inl ⟨_,rfl,HS1.out,?_⟩
  clear hb hI HSd HTd HBd
  simp only[Znc,Znd,Zne,Act.put,Znf,Zng,Znh]
  refine Zl 48 _ rfl rfl (by go_simp;rfl) ?_
  have hzp:=ZdJ HOK.out
  refine(ZcL HT1.out HI1.out hzp.len8.2 HOK.out.sites (fun u hu=>hzp.row u hu)).mono ?_
  rintro e V2 ⟨b,m,sv,hv,rv,pv,gq,gc,rfl,hW,hP,hM,hm1,hb1,hb⟩
  have HS2:Hid (V2.heap[G]?=some (efO (.slice ps ns cs) (.slice ph nh ch) (.slice pr nr cr))):=(hb.block _ (Array.getElem?_eq_some_iff.1 HS1.out).1).trans HS1.out
  have HB2:Hid (Below w.heap.size w V2):=HB1.out.trans (hb.mono HB1.out.size)
  have hmw:w.heap.size≤m:=Nat.le_trans HB1.out.size hm1
  obtain⟨T,hTl⟩:∃ n,(Zu t).length=n:=⟨_,rfl⟩
  have hgs:∀ u,u<T→gq u<V2.heap.size:=fun u hu=>(hP.gt (by rw[hTl];exact hu)).2
  have hgm:∀ u,u<T→m<gq u:=fun u hu=>(hP.gt (by rw[hTl];exact hu)).1
  have hgb:∀ u,u<T→gq u≠b:=fun u hu=>(hP.out.2 u (by rw[hTl];exact hu)).1
  have hpo:∀ x,pv.ownBlock=some x→x<V2.heap.size:=fun x hx=>(World.ownsRow.lt hP.outer x hx).2
  have hmV:=hM.lt
  have HTR:Hid (Calls Tryz.prog 50 #[.func (.func 51) #[.pointer (some ⟨b,0,none⟩)] #[]] V2 (ZcO (Zms t b m pv gq gc) (NotG m T gq) V2)):=by
   have hal:Below V2.heap.size V2 (V2.alloc (erO 0)):=(Below.refl _ V2).alloc (Nat.le_refl _) _
   refine ZiG (enters_of Tryz.func51 (by kernel_rfl) rfl) (fun x hx=>⟨by omega,fun u hu e=>by have:=hgs u hu;omega⟩) (fun n W W' hq hk=>?_) ?_
   ·obtain⟨h0,p,h1,h2,h3⟩:=hq
    refine⟨h0,p,h1,h2,h3.keepG (fun e=>by have:=hpo _ e;omega) (fun u hu e=>?_) hk⟩
    have:=hgs u (by rw[← hTl,hzp.teams,← h2.teams];exact hu)
    omega
   ·refine(Zi5 (hW.keep (hal.keepsS _)) (hP.keep (hal.keepsS _)) (hM.step hal) hzp).mono ?_
    rintro e W' ⟨rfl,⟨p,h1,h2,h3⟩,h4⟩
    rw[hTl] at h4
    exact⟨0,.inl ⟨rfl,rfl⟩,⟨rfl,p,h1,h2,h3⟩,h4⟩
  have HW2:=Lib.hid hW
  have HGQ:Hid ((∀ u,u<T→w.heap.size<gq u)∧∀ u,u<T→gq u≠b):=⟨fun u hu=>by have:=hgm u hu;omega,hgb⟩
  refine .inl ⟨_,rfl,HS2.out,?_⟩
  clear hb hW hP hM hgs hgm hgb hpo HS1 HT1 HB1 HI1 hzp hTl hb1 hm1
  simp only[Znc,Znd,Zne,Act.put,Znf,Zng,Znh]
  iterate 1
   refine Zc _ rfl rfl (fun w' hS=>by skip;go_simp;first | rfl | (rw[if_pos (by omega)])) ?_
   simp only[Znc,Znd,Zne,Act.put,Znf,Zng,Znh]
  refine Zq ?_
  go_wp2_with fail
  refine HTR.out.mono ?_
  rintro e V3 ⟨n,rfl,⟨rfl,p,hR,hok,hP⟩,hk⟩
  have hSb:NotG m T gq b:=⟨HW2.out.ne,fun u hu e=>HGQ.out.2 u hu e.symm⟩
  have hblk:=hk.at HW2.out.blk hSb
  have HB3:Hid (Below w.heap.size w V3):=HB2.out.trans (hk.below_of (fun c hc=>⟨by omega,fun u hu e=>by have:=HGQ.out.1 u hu;omega⟩) HB2.out.size)
  have HI3:=Lib.hid hP.toIIL
  have HRO:=Lib.hid (And.intro hR hok)
  have d3:=Za hblk 3 (v:=pv) rfl
  clear hk hR hok hP hSb hblk HTR
  go_wp2
  exact bodyPost_ret (by simp[results,Tryz.f16,go_sem]) rfl ⟨.inr ⟨HOK.out,p,pv,HRO.out.1,HRO.out.2,HI3.out,rfl⟩,HB3.out⟩
end Go.Proofs.YtmpaflidennnoaaGreatDoor
namespace Go.Proofs.YtmpaflidennnoaaGreatDoor
open Go.RowKit
section
variable {P:Program} {ops:Array Oper} {Q:Exit→Act→World→Prop} {md:Region.Mode} {I:World→Prop} {S:Nat→Option Nat→World→Prop} {bar:Nat→Bool}
def ZcP (P:Program) (ops:Array Oper) (Q:Exit→Act→World→Prop) (I:World→Prop) (S:Nat→Option Nat→World→Prop) (bar:Nat→Bool) (d:Nat) (tl:List (Nat×Nat)):List (Nat×Nat)→Nat→Act→Prop
 | [],j,a=>∀ G w,S j (some G) w→ZW P ops Q (I) bar tl (a.put (some d) (.pointer (some ⟨G,0,none⟩))) w
 | (1,i)::ks,j,a=>∃ o v,ops[i]?=some o∧(∀ z,YieldsIf P ops (I) o v (a.put (some d) z))∧ZcP P ops Q I S bar d tl ks j (a.put o.dst v)
 | (0,i)::ks,j,a=>∃ o,ops[i]?=some o∧(((∀ z,Region.wanted o (yielded ops (a.put (some d) z).tmps)=true)∧∀ z g w,S j g w→o.wp P (a.put (some d) z) w (fun a' w'=>∃ v j',a'=(a.put (some d) z).put o.dst v∧S j' g w'∧ZcP P ops Q I S bar d tl ks j' (a.put o.dst v)) Q)∨
   ((∀ z,Region.wanted o (yielded ops (a.put (some d) z).tmps)=false)∧ZcP P ops Q I S bar d tl ks j (a.put o.dst undef)))
 | (_+2,i)::ks,j,a=>∃ o v,ops[i]?=some o∧(∀ z,YieldsIf P ops (fun _=>True) o v (a.put (some d) z))∧ZcP P ops Q I S bar d tl ks j (a.put o.dst v)
theorem ZaH (hI:∀ j g w,S j g w→I w) {fl d:Nat} (hs:Zat ops fl d=true) {tl:List (Nat×Nat)} : ∀ (ks:List (Nat×Nat)) (j:Nat) (a:Act) (G:Nat) (w:World),(ks.all fun k=>decide (k.2≠fl))=true→S j (some G) w→ZcP P ops Q I S bar d tl ks j a→
  ZW P ops Q (I) bar (ks++tl) (a.put (some d) (.pointer (some ⟨G,0,none⟩))) w
 | [],j,a,G,w,_,hS,h=>h G w hS
 | (1,i)::ks,j,a,G,w,hk,hS,h=>by
  simp only[List.all_cons,Bool.and_eq_true,decide_eq_true_eq] at hk
  obtain⟨o,v,h0,hy,hrest⟩:=h
  refine⟨o,v,h0,hy _,?_⟩
  rw[Zp _ _ _ (Zo hs h0 hk.1)]
  exact ZaH hI hs ks j _ G w hk.2 hS hrest
 | (0,i)::ks,j,a,G,w,hk,hS,h=>by
  simp only[List.all_cons,Bool.and_eq_true,decide_eq_true_eq] at hk
  obtain⟨o,h0,h⟩:=h
  refine⟨o,h0,?_⟩
  rcases h with ⟨hw,h⟩ | ⟨hw,h⟩
  ·rw[if_pos (hw _)]
   refine Oper.wp_mono (fun a' w' h'=>?_) (h _ _ _ hS)
   obtain⟨v,j',rfl,hS',hrest⟩:=h'
   refine⟨.inr (hI _ _ _ hS'),?_⟩
   rw[Zp _ _ _ (Zo hs h0 hk.1)]
   exact ZaH hI hs ks j' _ G w' hk.2 hS' hrest
  ·rw[if_neg (by rw[hw];exact Bool.false_ne_true)]
   refine⟨.inr (hI _ _ _ hS),?_⟩
   rw[Zp _ _ _ (Zo hs h0 hk.1)]
   exact ZaH hI hs ks j _ G w hk.2 hS h
 | (n+2,i)::ks,j,a,G,w,hk,hS,h=>by
  simp only[List.all_cons,Bool.and_eq_true,decide_eq_true_eq] at hk
  obtain⟨o,v,h0,hy,hrest⟩:=h
  refine⟨o,v,h0,hy _,?_⟩
  rw[Zp _ _ _ (Zo hs h0 hk.1)]
  exact ZaH hI hs ks j _ G w hk.2 hS hrest
def ZaC (md:Region.Mode) (ops:Array Oper) (bar:Nat→Bool) (fl:Nat) (tl:List (Nat×Nat)):List (Nat×Nat)→Array Bool→Bool
 | [],listed=>decide (Region.ready md ops listed=[fl]) && ZaP md ops bar tl (listed.setIfInBounds fl true)
 | (1,k)::ks,listed=>(Region.ready md ops listed).contains k && Region.free md ops listed k && !bar k && ((List.range ops.size).all fun j=>!bar j || decide (j=k) || ZbV md ops ops.size j k) && ZaC md ops bar fl tl ks (listed.setIfInBounds k true)
 | (0,k)::ks,listed=>(Region.ready md ops listed).contains k && (Region.ready md ops listed).all (fun j=>decide (j=k) || decide (j=fl)) && ZaP md ops bar (((0,k)::ks)++tl) (listed.setIfInBounds fl true) && ZaC md ops bar fl tl ks (listed.setIfInBounds k true)
 | (_+2,k)::ks,listed=>(Region.ready md ops listed).contains k && Region.free md ops listed k && bar k && ZaC md ops bar fl tl ks (listed.setIfInBounds k true)
theorem ZaO (hI:∀ j g w,S j g w→I w) (hsel:Region.noSelect ops=true) (hQ:∀ c a o v w,Q (.panic c) (a.put o v) w→Q (.panic c) a w) (hbo:∀ j,ops.size≤j→bar j=false) {fl d:Nat} {tl:List (Nat×Nat)} {of:Oper} {ob:Obj} (hof:ops[fl]?=some of) (hd:of.dst=some d)
  (hwf:∀ a:Act,Region.wanted of (yielded ops a.tmps)=true) (hal:∀ (a:Act) (w:World) (K:Act→World→Prop),K (a.put of.dst (.pointer (some ⟨w.heap.size,0,none⟩))) (w.alloc ob)→of.wp P a w K Q) (hst:∀ j w,S j none w→S j (some w.heap.size) (w.alloc ob)) (hs:Zat ops fl d=true) :
  ∀ (ks:List (Nat×Nat)) (listed:Array Bool) (j:Nat) (a:Act) (z:Value) (w:World),(ks.all fun k=>decide (k.2≠fl))=true→ZaC md ops bar fl tl ks listed=true→Z0 md ops listed→S j none w→ZcP P ops Q I S bar d tl ks j a→
   wpJ P md ops Q (I) bar ((ks.length+tl.length)+1) listed (a.put (some d) z) w
 | [],listed,j,a,z,w,_,hB,hC,hS,h=>by
  simp only[ZaC,Bool.and_eq_true,decide_eq_true_eq] at hB
  obtain⟨hr,hr2⟩:=hB
  refine⟨fun h1=>(by rw[hr] at h1;cases h1),fun i hi=>?_⟩
  have hi0:=hi
  rw[hr] at hi
  obtain rfl:i=fl:=by simpa using hi
  refine Zba hof (hwf _) (hal _ _ _ ?_)
  have hS':=hst j w hS
  refine⟨.inr (hI _ _ _ hS'),?_⟩
  have h2:=h w.heap.size _ hS'
  rw[hd,Zbn]
  have:=Zam (md:=md) hsel hQ hbo tl _ _ _ hr2 (hC.step hi0) (.inl (hI _ _ _ hS')) h2
  simpa using this
 | (1,k)::ks,listed,j,a,z,w,hk,hB,hC,hS,h=>by
  simp only[List.all_cons,Bool.and_eq_true,decide_eq_true_eq] at hk
  simp only[ZaC,Bool.and_eq_true] at hB
  obtain⟨⟨⟨⟨hr,hf⟩,hbk⟩,hw⟩,hB'⟩:=hB
  obtain⟨o,v,h0,hy,hrest⟩:=h
  have hbk':bar k=false:=by simpa using hbk
  have hwait:ZbU md ops bar k:=fun j hj hne=>by
   have hjl:j<ops.size:=by
    rcases Nat.lt_or_ge j ops.size with h' | h'
    ·exact h'
    ·rw[hbo j h'] at hj;cases hj
   rw[List.all_eq_true] at hw
   have:=hw j (List.mem_range.2 hjl)
   rw[hj] at this
   simpa[hne] using this
  have ih:=ZaO hI hsel hQ hbo hof hd hwf hal hst hs ks (listed.setIfInBounds k true) j (a.put o.dst v) z w hk.2 hB' (hC.step (by simpa using hr)) hS hrest
  rw[← Zp _ _ _ (Zo hs h0 hk.1)] at ih
  have e:((1,k)::ks).length+tl.length+1=(ks.length+tl.length+1)+1:=by simp only[List.length_cons];omega
  rw[e]
  exact ZbR h0 hsel (fun c a w=>hQ c a o.dst v w) hwait hbk' _ listed _ w hC (Region.free_spec h0 hf) (by simpa using hr) (hy _) (hI _ _ _ hS) ih
 | (0,k)::ks,listed,j,a,z,w,hk,hB,hC,hS,h=>by
  have hk0:=hk
  simp only[List.all_cons,Bool.and_eq_true,decide_eq_true_eq] at hk
  have h':=h
  simp only[ZaC,Bool.and_eq_true] at hB
  obtain⟨⟨⟨hr,hall⟩,hB1⟩,hB2⟩:=hB
  obtain⟨o,h0,h⟩:=h
  have e:((0,k)::ks).length+tl.length+1=(ks.length+tl.length+1)+1:=by simp only[List.length_cons];omega
  rw[e]
  refine⟨fun h1=>(by rw[h1] at hr;simp at hr),fun i hi=>?_⟩
  rw[List.all_eq_true] at hall
  have hik:=hall i hi
  simp only[Bool.or_eq_true,decide_eq_true_eq] at hik
  by_cases ek:i=k
  ·subst ek
   rcases h with ⟨hw,h⟩ | ⟨hw,h⟩
   ·refine Zba h0 (hw _) (Oper.wp_mono (fun a' w' h''=>?_) (h _ _ _ hS))
    obtain⟨v,j',rfl,hS',hrest⟩:=h''
    refine⟨.inr (hI _ _ _ hS'),?_⟩
    rw[Zp _ _ _ (Zo hs h0 hk.1)]
    exact ZaO hI hsel hQ hbo hof hd hwf hal hst hs ks _ j' _ z w' hk.2 hB2 (hC.step hi) hS' hrest
   ·refine ZgT h0 (hw _) ⟨.inr (hI _ _ _ hS),?_⟩
    rw[Zp _ _ _ (Zo hs h0 hk.1)]
    exact ZaO hI hsel hQ hbo hof hd hwf hal hst hs ks _ j _ z w hk.2 hB2 (hC.step hi) hS h
  ·have e2:i=fl:=by
    rcases hik with h | h
    ·exact absurd h ek
    ·exact h
   subst e2
   refine Zba hof (hwf _) (hal _ _ _ ?_)
   have hS':=hst j w hS
   refine⟨.inr (hI _ _ _ hS'),?_⟩
   rw[hd,Zbn]
   have hp:=ZaH hI hs ((0,k)::ks) j a w.heap.size _ hk0 hS' h'
   have:=Zam (md:=md) hsel hQ hbo _ _ _ _ hB1 (hC.step hi) (.inl (hI _ _ _ hS')) hp
   have e3:(((0,k)::ks)++tl).length=ks.length+tl.length+1:=by simp only[List.length_append,List.length_cons];omega
   rwa [e3] at this
 | (n+2,k)::ks,listed,j,a,z,w,hk,hB,hC,hS,h=>by
  simp only[List.all_cons,Bool.and_eq_true,decide_eq_true_eq] at hk
  simp only[ZaC,Bool.and_eq_true] at hB
  obtain⟨⟨⟨hr,hf⟩,hbk⟩,hB'⟩:=hB
  obtain⟨o,v,h0,hy,hrest⟩:=h
  have ih:=ZaO hI hsel hQ hbo hof hd hwf hal hst hs ks (listed.setIfInBounds k true) j (a.put o.dst v) z w hk.2 hB' (hC.step (by simpa using hr)) hS hrest
  rw[← Zp _ _ _ (Zo hs h0 hk.1)] at ih
  have e:((n+2,k)::ks).length+tl.length+1=(ks.length+tl.length+1)+1:=by simp only[List.length_cons];omega
  rw[e]
  exact ZcI h0 hsel (fun c a w=>hQ c a o.dst v w) hbk _ listed _ w (Region.free_spec h0 hf) (by simpa using hr) (hy _) ih
end
section
variable {P:Program} {ops:Array Oper} {Q:Exit→Act→World→Prop} {md:Region.Mode} {S:Nat→Option Nat→Option Nat→World→Prop} {bar:Nat→Bool}
def AnyT (S:Nat→Option Nat→Option Nat→World→Prop) (w:World):Prop:=∃ j g h,S j g h w
def two (d e:Nat) (a:Act) (z y:Value):Act:=(a.put (some d) z).put (some e) y
theorem Zdy {d e:Nat} {a:Act} {f:Option Tmp} (h1:f≠some d) (h2:f≠some e) (z y v:Value):(two d e a z y).put f v=two d e (a.put f v) z y:=by
 unfold two
 rw[Zp _ _ _ h2,Zp _ _ _ h1]
theorem ZlC {d e:Nat} (hde:d≠e) {a:Act} (z y v:Value):(two d e a z y).put (some d) v=two d e a v y:=by
 unfold two
 rw[Zp _ _ _ (fun h=>hde (Option.some.inj h)),Zbn]
theorem ZlK {d e:Nat} {a:Act} (z y v:Value):(two d e a z y).put (some e) v=two d e a z v:=by
 unfold two
 rw[Zbn]
abbrev ptrV (g:Nat):Value:=.pointer (some ⟨g,0,none⟩)
def Zak (P:Program) (ops:Array Oper) (Q:Exit→Act→World→Prop) (S:Nat→Option Nat→Option Nat→World→Prop) (bar:Nat→Bool) (d e:Nat) (tl:List (Nat×Nat)):List (Nat×Nat)→Nat→Act→Prop
 | [],j,a=>∀ G H w,S j (some G) (some H) w→ZW P ops Q (AnyT S) bar tl (two d e a (ptrV G) (ptrV H)) w
 | (1,i)::ks,j,a=>∃ o v,ops[i]?=some o∧(∀ z y,YieldsIf P ops (AnyT S) o v (two d e a z y))∧Zak P ops Q S bar d e tl ks j (a.put o.dst v)
 | (0,i)::ks,j,a=>∃ o,ops[i]?=some o∧(((∀ z y,Region.wanted o (yielded ops (two d e a z y).tmps)=true)∧∀ z y g h w,S j g h w→o.wp P (two d e a z y) w (fun a' w'=>∃ v j',a'=(two d e a z y).put o.dst v∧S j' g h w'∧Zak P ops Q S bar d e tl ks j' (a.put o.dst v)) Q)∨
   ((∀ z y,Region.wanted o (yielded ops (two d e a z y).tmps)=false)∧Zak P ops Q S bar d e tl ks j (a.put o.dst undef)))
 | (_+2,i)::ks,j,a=>∃ o v,ops[i]?=some o∧(∀ z y,YieldsIf P ops (fun _=>True) o v (two d e a z y))∧Zak P ops Q S bar d e tl ks j (a.put o.dst v)
theorem ZbA {f1 f2 d e:Nat} (hde:d≠e) (h1:Zat ops f1 d=true) (h2:Zat ops f2 e=true) {tl:List (Nat×Nat)} (G:Nat):∀ (ks:List (Nat×Nat)) (j:Nat) (a:Act),(ks.all fun k=>decide (k.2≠f1) && decide (k.2≠f2))=true→Zak P ops Q S bar d e tl ks j a→
  ZcP P ops Q (AnyT S) (fun j h w=>S j (some G) h w) bar e tl ks j (a.put (some d) (ptrV G))
 | [],j,a,_,h=>fun H w hS=>h G H w hS
 | (1,i)::ks,j,a,hk,h=>by
  simp only[List.all_cons,Bool.and_eq_true,decide_eq_true_eq] at hk
  obtain⟨o,v,h0,hy,hrest⟩:=h
  refine⟨o,v,h0,fun z=>hy _ z,?_⟩
  rw[Zp _ _ _ (Zo h1 h0 hk.1.1)]
  exact ZbA hde h1 h2 G ks j _ (by simpa using hk.2) hrest
 | (0,i)::ks,j,a,hk,h=>by
  simp only[List.all_cons,Bool.and_eq_true,decide_eq_true_eq] at hk
  obtain⟨o,h0,h⟩:=h
  refine⟨o,h0,?_⟩
  rcases h with ⟨hw,h⟩ | ⟨hw,h⟩
  ·refine .inl ⟨fun z=>hw _ z,fun z g w hS=>Oper.wp_mono (fun a' w' h'=>?_) (h (ptrV G) z _ _ _ hS)⟩
   obtain⟨v,j',rfl,hS',hrest⟩:=h'
   refine⟨v,j',rfl,hS',?_⟩
   rw[Zp _ _ _ (Zo h1 h0 hk.1.1)]
   exact ZbA hde h1 h2 G ks j' _ (by simpa using hk.2) hrest
  ·refine .inr ⟨fun z=>hw _ z,?_⟩
   rw[Zp _ _ _ (Zo h1 h0 hk.1.1)]
   exact ZbA hde h1 h2 G ks j _ (by simpa using hk.2) h
 | (n+2,i)::ks,j,a,hk,h=>by
  simp only[List.all_cons,Bool.and_eq_true,decide_eq_true_eq] at hk
  obtain⟨o,v,h0,hy,hrest⟩:=h
  refine⟨o,v,h0,fun z=>hy _ z,?_⟩
  rw[Zp _ _ _ (Zo h1 h0 hk.1.1)]
  exact ZbA hde h1 h2 G ks j _ (by simpa using hk.2) hrest
theorem Zby {f1 f2 d e:Nat} (hde:d≠e) (h1:Zat ops f1 d=true) (h2:Zat ops f2 e=true) {tl:List (Nat×Nat)} (H:Nat):∀ (ks:List (Nat×Nat)) (j:Nat) (a:Act),(ks.all fun k=>decide (k.2≠f1) && decide (k.2≠f2))=true→Zak P ops Q S bar d e tl ks j a→
  ZcP P ops Q (AnyT S) (fun j g w=>S j g (some H) w) bar d tl ks j (a.put (some e) (ptrV H))
 | [],j,a,_,h=>fun G w hS=>by
  rw[Zp _ _ _ (fun h=>hde (Option.some.inj h))]
  exact h G H w hS
 | (1,i)::ks,j,a,hk,h=>by
  simp only[List.all_cons,Bool.and_eq_true,decide_eq_true_eq] at hk
  obtain⟨o,v,h0,hy,hrest⟩:=h
  refine⟨o,v,h0,fun z=>?_,?_⟩
  ·rw[Zp _ _ _ (fun h=>hde (Option.some.inj h))]
   exact hy z _
  rw[Zp _ _ _ (Zo h2 h0 hk.1.2)]
  exact Zby hde h1 h2 H ks j _ (by simpa using hk.2) hrest
 | (0,i)::ks,j,a,hk,h=>by
  simp only[List.all_cons,Bool.and_eq_true,decide_eq_true_eq] at hk
  obtain⟨o,h0,h⟩:=h
  refine⟨o,h0,?_⟩
  have hc:∀ z,(a.put (some e) (ptrV H)).put (some d) z=two d e a z (ptrV H):=fun z=>Zp _ _ _ (fun h=>hde (Option.some.inj h)) _ _
  rcases h with ⟨hw,h⟩ | ⟨hw,h⟩
  ·refine .inl ⟨fun z=>by rw[hc];exact hw z _,fun z g w hS=>?_⟩
   rw[hc]
   refine Oper.wp_mono (fun a' w' h'=>?_) (h z (ptrV H) _ _ _ hS)
   obtain⟨v,j',rfl,hS',hrest⟩:=h'
   refine⟨v,j',rfl,hS',?_⟩
   rw[Zp _ _ _ (Zo h2 h0 hk.1.2)]
   exact Zby hde h1 h2 H ks j' _ (by simpa using hk.2) hrest
  ·refine .inr ⟨fun z=>by rw[hc];exact hw z _,?_⟩
   rw[Zp _ _ _ (Zo h2 h0 hk.1.2)]
   exact Zby hde h1 h2 H ks j _ (by simpa using hk.2) h
 | (n+2,i)::ks,j,a,hk,h=>by
  simp only[List.all_cons,Bool.and_eq_true,decide_eq_true_eq] at hk
  obtain⟨o,v,h0,hy,hrest⟩:=h
  refine⟨o,v,h0,fun z=>?_,?_⟩
  ·rw[Zp _ _ _ (fun h=>hde (Option.some.inj h))]
   exact hy z _
  rw[Zp _ _ _ (Zo h2 h0 hk.1.2)]
  exact Zby hde h1 h2 H ks j _ (by simpa using hk.2) hrest
def ZbL (md:Region.Mode) (ops:Array Oper) (bar:Nat→Bool) (f1 f2:Nat) (tl:List (Nat×Nat)):List (Nat×Nat)→Array Bool→Bool
 | [],listed=>!(Region.ready md ops listed).isEmpty && (Region.ready md ops listed).all (fun j=>decide (j=f1) || decide (j=f2)) && ZaC md ops bar f2 tl [] (listed.setIfInBounds f1 true) && ZaC md ops bar f1 tl [] (listed.setIfInBounds f2 true)
 | (1,k)::ks,listed=>(Region.ready md ops listed).contains k && Region.free md ops listed k && !bar k && ((List.range ops.size).all fun j=>!bar j || decide (j=k) || ZbV md ops ops.size j k) && ZbL md ops bar f1 f2 tl ks (listed.setIfInBounds k true)
 | (0,k)::ks,listed=>(Region.ready md ops listed).contains k && (Region.ready md ops listed).all (fun j=>decide (j=k) || (decide (j=f1) || decide (j=f2))) && ZaC md ops bar f2 tl ((0,k)::ks) (listed.setIfInBounds f1 true) && ZaC md ops bar f1 tl ((0,k)::ks) (listed.setIfInBounds f2 true) && ZbL md ops bar f1 f2 tl ks (listed.setIfInBounds k true)
 | (_+2,k)::ks,listed=>(Region.ready md ops listed).contains k && Region.free md ops listed k && bar k && ZbL md ops bar f1 f2 tl ks (listed.setIfInBounds k true)
structure Floats (P:Program) (ops:Array Oper) (Q:Exit→Act→World→Prop) (f d:Nat) (ob:Obj):Prop where
 op:∃ o,ops[f]?=some o∧o.dst=some d∧(∀ a:Act,Region.wanted o (yielded ops a.tmps)=true)∧∀ (a:Act) (w:World) (K:Act→World→Prop),K (a.put o.dst (.pointer (some ⟨w.heap.size,0,none⟩))) (w.alloc ob)→o.wp P a w K Q
theorem all1 {f1 f2:Nat} {ks:List (Nat×Nat)} (h:(ks.all fun k=>decide (k.2≠f1) && decide (k.2≠f2))=true):(ks.all fun k=>decide (k.2≠f2))=true:=by
 rw[List.all_eq_true] at h ⊢
 intro x hx
 have:=h x hx
 simp only[Bool.and_eq_true] at this
 exact this.2
theorem all2 {f1 f2:Nat} {ks:List (Nat×Nat)} (h:(ks.all fun k=>decide (k.2≠f1) && decide (k.2≠f2))=true):(ks.all fun k=>decide (k.2≠f1))=true:=by
 rw[List.all_eq_true] at h ⊢
 intro x hx
 have:=h x hx
 simp only[Bool.and_eq_true] at this
 exact this.1
theorem Zhy (hsel:Region.noSelect ops=true) (hQ:∀ c a o v w,Q (.panic c) (a.put o v) w→Q (.panic c) a w) (hbo:∀ j,ops.size≤j→bar j=false) {f1 f2 d e:Nat} {tl:List (Nat×Nat)} {o1 o2:Obj} (hde:d≠e) (hf1:Floats P ops Q f1 d o1) (hf2:Floats P ops Q f2 e o2)
  (hst1:∀ j h w,S j none h w→S j (some w.heap.size) h (w.alloc o1)) (hst2:∀ j g w,S j g none w→S j g (some w.heap.size) (w.alloc o2)) (hs1:Zat ops f1 d=true) (hs2:Zat ops f2 e=true) :
  ∀ (ks:List (Nat×Nat)) (listed:Array Bool) (j:Nat) (a:Act) (z y:Value) (w:World),(ks.all fun k=>decide (k.2≠f1) && decide (k.2≠f2))=true→ZbL md ops bar f1 f2 tl ks listed=true→Z0 md ops listed→S j none none w→Zak P ops Q S bar d e tl ks j a→
   wpJ P md ops Q (AnyT S) bar ((ks.length+tl.length)+2) listed (two d e a z y) w:=by
 obtain⟨q1,hq1,hd1,hw1,hl1⟩:=hf1.op
 obtain⟨q2,hq2,hd2,hw2,hl2⟩:=hf2.op
 have lay1:∀ (ks:List (Nat×Nat)) (listed:Array Bool) (j:Nat) (a:Act) (z y:Value) (w:World),(ks.all fun k=>decide (k.2≠f1) && decide (k.2≠f2))=true→ZaC md ops bar f2 tl ks (listed.setIfInBounds f1 true)=true→Z0 md ops listed→f1 ∈ Region.ready md ops listed→S j none none w→Zak P ops Q S bar d e tl ks j a→
   wpOp P ops Q f1 (fun a' w'=>(bar f1=true∨AnyT S w')∧wpJ P md ops Q (AnyT S) bar ((ks.length+tl.length)+1) (listed.setIfInBounds f1 true) a' w') (two d e a z y) w:=fun ks listed j a z y w hk hB hC hi hS h=>by
  refine Zba hq1 (hw1 _) (hl1 _ _ _ ?_)
  have hS':=hst1 j none w hS
  refine⟨.inr ⟨_,_,_,hS'⟩,?_⟩
  rw[hd1,ZlC hde]
  exact ZaO (I:=AnyT S) (S:=fun j h w'=>S j (some w.heap.size) h w') (fun j g w h=>⟨_,_,_,h⟩) hsel hQ hbo hq2 hd2 hw2 hl2 (fun j w' h=>hst2 j _ w' h) hs2 ks _ j _ y _ (all1 hk) hB (hC.step hi) hS' (ZbA hde hs1 hs2 _ ks j a hk h)
 have lay2:∀ (ks:List (Nat×Nat)) (listed:Array Bool) (j:Nat) (a:Act) (z y:Value) (w:World),(ks.all fun k=>decide (k.2≠f1) && decide (k.2≠f2))=true→ZaC md ops bar f1 tl ks (listed.setIfInBounds f2 true)=true→Z0 md ops listed→f2 ∈ Region.ready md ops listed→S j none none w→Zak P ops Q S bar d e tl ks j a→
   wpOp P ops Q f2 (fun a' w'=>(bar f2=true∨AnyT S w')∧wpJ P md ops Q (AnyT S) bar ((ks.length+tl.length)+1) (listed.setIfInBounds f2 true) a' w') (two d e a z y) w:=fun ks listed j a z y w hk hB hC hi hS h=>by
  refine Zba hq2 (hw2 _) (hl2 _ _ _ ?_)
  have hS':=hst2 j none w hS
  refine⟨.inr ⟨_,_,_,hS'⟩,?_⟩
  rw[hd2,ZlK]
  unfold two
  rw[← Zp _ _ _ (fun h=>hde (Option.some.inj h))]
  exact ZaO (I:=AnyT S) (S:=fun j g w'=>S j g (some w.heap.size) w') (fun j g w h=>⟨_,_,_,h⟩) hsel hQ hbo hq1 hd1 hw1 hl1 (fun j w' h=>hst1 j _ w' h) hs1 ks _ j _ z _ (all2 hk) hB (hC.step hi) hS' (Zby hde hs1 hs2 _ ks j a hk h)
 intro ks
 induction ks with
 | nil=>
  intro listed j a z y w hk hB hC hS h
  simp only[ZbL,Bool.and_eq_true] at hB
  obtain⟨⟨⟨hr,hall⟩,hB1⟩,hB2⟩:=hB
  refine⟨fun h1=>(by rw[h1] at hr;simp at hr),fun i hi=>?_⟩
  rw[List.all_eq_true] at hall
  have hik:=hall i hi
  simp only[Bool.or_eq_true,decide_eq_true_eq] at hik
  rcases hik with rfl | rfl
  ·exact lay1 [] listed j a z y w hk hB1 hC hi hS h
  ·exact lay2 [] listed j a z y w hk hB2 hC hi hS h
 | cons k0 ks ih=>
  obtain⟨kd,k⟩:=k0
  intro listed j a z y w hk hB hC hS h
  have hk0:=hk
  simp only[List.all_cons,Bool.and_eq_true,decide_eq_true_eq] at hk
  have hk2:(ks.all fun k=>decide (k.2≠f1) && decide (k.2≠f2))=true:=by simpa using hk.2
  have e0:((kd,k)::ks).length+tl.length+2=(ks.length+tl.length+2)+1:=by simp only[List.length_cons];omega
  match kd,hB,h,e0,hk0 with
  | 1,hB,h,e0,hk0=>
   simp only[ZbL,Bool.and_eq_true] at hB
   obtain⟨⟨⟨⟨hr,hf⟩,hbk⟩,hw⟩,hB'⟩:=hB
   obtain⟨o,v,h0,hy,hrest⟩:=h
   have hbk':bar k=false:=by simpa using hbk
   have hwait:ZbU md ops bar k:=fun j hj hne=>by
    have hjl:j<ops.size:=by
     rcases Nat.lt_or_ge j ops.size with h' | h'
     ·exact h'
     ·rw[hbo j h'] at hj;cases hj
    rw[List.all_eq_true] at hw
    have:=hw j (List.mem_range.2 hjl)
    rw[hj] at this
    simpa[hne] using this
   have ih':=ih (listed.setIfInBounds k true) j (a.put o.dst v) z y w hk2 hB' (hC.step (by simpa using hr)) hS hrest
   rw[← Zdy (Zo hs1 h0 hk.1.1) (Zo hs2 h0 hk.1.2)] at ih'
   rw[e0]
   exact ZbR h0 hsel (fun c a w=>hQ c a o.dst v w) hwait hbk' _ listed _ w hC (Region.free_spec h0 hf) (by simpa using hr) (hy _ _) ⟨_,_,_,hS⟩ ih'
  | 0,hB,h,e0,hk0=>
   have h':=h
   simp only[ZbL,Bool.and_eq_true] at hB
   obtain⟨⟨⟨⟨hr,hall⟩,hB1⟩,hB2⟩,hB3⟩:=hB
   obtain⟨o,h0,hh⟩:=h
   rw[e0]
   refine⟨fun h1=>(by rw[h1] at hr;simp at hr),fun i hi=>?_⟩
   rw[List.all_eq_true] at hall
   have hik:=hall i hi
   simp only[Bool.or_eq_true,decide_eq_true_eq] at hik
   have e3:((0,k)::ks).length+tl.length+1=ks.length+tl.length+2:=by simp only[List.length_cons];omega
   by_cases ek:i=k
   ·subst ek
    rcases hh with ⟨hw,hh⟩ | ⟨hw,hh⟩
    ·refine Zba h0 (hw _ _) (Oper.wp_mono (fun a' w' h''=>?_) (hh _ _ _ _ _ hS))
     obtain⟨v,j',rfl,hS',hrest⟩:=h''
     refine⟨.inr ⟨_,_,_,hS'⟩,?_⟩
     rw[Zdy (Zo hs1 h0 hk.1.1) (Zo hs2 h0 hk.1.2)]
     exact ih _ j' _ z y w' hk2 hB3 (hC.step hi) hS' hrest
    ·refine ZgT h0 (hw _ _) ⟨.inr ⟨_,_,_,hS⟩,?_⟩
     rw[Zdy (Zo hs1 h0 hk.1.1) (Zo hs2 h0 hk.1.2)]
     exact ih _ j _ z y w hk2 hB3 (hC.step hi) hS hh
   ·rcases hik with h2 | h2 | h2
    ·exact absurd h2 ek
    ·subst h2
     have:=lay1 ((0,k)::ks) listed j a z y w hk0 hB1 hC hi hS h'
     rwa [e3] at this
    ·subst h2
     have:=lay2 ((0,k)::ks) listed j a z y w hk0 hB2 hC hi hS h'
     rwa [e3] at this
  | n+2,hB,h,e0,hk0=>
   simp only[ZbL,Bool.and_eq_true] at hB
   obtain⟨⟨⟨hr,hf⟩,hbk⟩,hB'⟩:=hB
   obtain⟨o,v,h0,hy,hrest⟩:=h
   have ih':=ih (listed.setIfInBounds k true) j (a.put o.dst v) z y w hk2 hB' (hC.step (by simpa using hr)) hS hrest
   rw[← Zdy (Zo hs1 h0 hk.1.1) (Zo hs2 h0 hk.1.2)] at ih'
   rw[e0]
   exact ZcI h0 hsel (fun c a w=>hQ c a o.dst v w) hbk _ listed _ w (Region.free_spec h0 hf) (by simpa using hr) (hy _ _) ih'
def Zio (l:List Oper) (f1 f2 d e:Nat) (tl:List (Nat×Nat)) (ks:List (Nat×Nat)) (bar:Nat→Bool):Bool:=
 Region.noSelect l.toArray && decide ((ks.length+tl.length)+2=l.length) && ZbL .any l.toArray bar f1 f2 tl ks (Array.replicate l.toArray.size false) && Zat l.toArray f1 d && Zat l.toArray f2 e && decide (d≠e) && ks.all fun k=>decide (k.2≠f1) && decide (k.2≠f2)
theorem ZlX {d e:Nat} (a:Act):two d e a (a.tmps.getD d undef) (a.tmps.getD e undef)=a:=by
 unfold two
 rw[Zdo,Zdo]
theorem Ze4 {id:Nat} {a:Act} {w:World} {l:List Oper} (f1 f2 d e:Nat) (tl:List (Nat×Nat)) (ks:List (Nat×Nat)) (S:Nat→Option Nat→Option Nat→World→Prop) (bar:Nat→Bool) {o1 o2:Obj} (hm:P.follows .mixedOrders=true)
  (hB:Zio l f1 f2 d e tl ks bar=true) (hbo:∀ j,l.length≤j→bar j=false) (hQ:∀ c a o v w,Q (.panic c) (a.put o v) w→Q (.panic c) a w) (hf1:Floats P l.toArray Q f1 d o1) (hf2:Floats P l.toArray Q f2 e o2)
  (hst1:∀ j h w,S j none h w→S j (some w.heap.size) h (w.alloc o1)) (hst2:∀ j g w,S j g none w→S j g (some w.heap.size) (w.alloc o2)) (hS:S 0 none none w.drew)
  (H:Zak P l.toArray Q S bar d e tl ks 0 a):(Code.region id l.toArray true).wp P Q a w:=by
 simp only[Zio,Bool.and_eq_true,decide_eq_true_eq] at hB
 obtain⟨⟨⟨⟨⟨⟨hsel,hn⟩,hb⟩,hs1⟩,hs2⟩,hde⟩,hk⟩:=hB
 have:=ZaT _ _ _ _ (Zhy (md:=.any) hsel hQ (fun j hj=>hbo j (by simpa using hj)) hde hf1 hf2 hst1 hst2 hs1 hs2 ks _ 0 a (a.tmps.getD d undef) (a.tmps.getD e undef) w.drew hk hb Z0.start hS H)
 rw[hn,ZlX] at this
 exact wp_region_any hm (by simpa using this)
theorem ZbW {i d e j:Nat} {tl:List (Nat×Nat)} {o:Oper} {ks:List (Nat×Nat)} {a:Act} (v:Value) (ho:ops[i]?=some o) (hw:∀ z y,Region.wanted o (yielded ops (two d e a z y).tmps)=true) (hv:∀ z y j g h w,S j g h w→(execOp (two d e a z y).eval o).run P w=.ok (.value v) w)
  (h:Zak P ops Q S bar d e tl ks j (a.put o.dst v)):Zak P ops Q S bar d e tl ((1,i)::ks) j a:=⟨o,v,ho,fun z y=>.inl ⟨hw z y,fun w ⟨j,g,h,hS⟩=>hv z y j g h w hS⟩,h⟩
theorem ZcA {i d e j:Nat} {tl:List (Nat×Nat)} {o:Oper} {ks:List (Nat×Nat)} {a:Act} (f:FuncId) (args:Array Value) (ho:ops[i]?=some o) (hw:∀ z y,Region.wanted o (yielded ops (two d e a z y).tmps)=true)
  (he:∀ z y w,(execOp (two d e a z y).eval o).run P w=.ok (.enter f args) w)
  (h:∀ g h w,S j g h w→Calls P f args w fun e' w'=>(∃ v,e'=.returned v∧S (j+1) g h w'∧Zak P ops Q S bar d e tl ks (j+1) (a.put o.dst v))∨∃ c,e'=.panicked c∧∀ z y,Q (.panic c) (two d e a z y) w') :
  Zak P ops Q S bar d e tl ((0,i)::ks) j a:=⟨o,ho,.inl ⟨hw,fun z y g h' w hS=>by
   unfold Oper.wp
   rw[he z y w,Oper.upon_enter]
   refine(h g h' w hS).mono fun e' w' h=>?_
   rcases h with ⟨v,rfl,h1,h2⟩ | ⟨c,rfl,h1⟩
   ·exact⟨v,_,rfl,h1,h2⟩
   ·exact h1 _ _⟩⟩
theorem ZeR {i d e j:Nat} {tl:List (Nat×Nat)} {o:Oper} {ks:List (Nat×Nat)} {a:Act} (f:FuncId) (args:Array Value) (ho:ops[i]?=some o) (hw:∀ z y,Region.wanted o (yielded ops (two d e a z y).tmps)=true)
  (he:∀ z y w,(execOp (two d e a z y).eval o).run P w=.ok (.enter f args) w)
  (h:∀ g h w,S j g h w→Calls P f args w fun e' w'=>∃ v j',e'=.returned v∧S j' g h w'∧Zak P ops Q S bar d e tl ks j' (a.put o.dst v)) :
  Zak P ops Q S bar d e tl ((0,i)::ks) j a:=⟨o,ho,.inl ⟨hw,fun z y g h' w hS=>by
   unfold Oper.wp
   rw[he z y w,Oper.upon_enter]
   refine(h g h' w hS).mono fun e' w' h=>?_
   obtain⟨v,j',rfl,h1,h2⟩:=h
   exact⟨v,j',rfl,h1,h2⟩⟩⟩
theorem ZgJ {d e j:Nat} {tl:List (Nat×Nat)} {a:Act} (h:∀ G H w,S j (some G) (some H) w→ZW P ops Q (AnyT S) bar tl (two d e a (ptrV G) (ptrV H)) w):Zak P ops Q S bar d e tl [] j a:=h
end
end Go.Proofs.YtmpaflidennnoaaGreatDoor
