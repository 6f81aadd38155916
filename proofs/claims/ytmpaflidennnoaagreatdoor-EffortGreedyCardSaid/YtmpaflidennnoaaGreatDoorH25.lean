/- The parts ETried, ECheckP, EValueX, EGreedyW, EGreedyL of a proof, put together by program (merge7.py). -/
import Derived.Test.YtmpaflidennnoaaGreatDoorH24
import Derived.Deep.LoopGhost
set_option maxRecDepth 100000
set_option maxHeartbeats 4000000
set_option linter.unusedVariables false
set_option linter.unusedSimpArgs false
namespace Go.Proofs.YtmpaflidennnoaaGreatDoor
open Go.RowKit Go.Shelf
attribute [local go_sem ↓] Go.wp_at_zero Go.wp_at_succ
theorem Zjp {f:Nat} {v:Value} (hent:∀ args w,(callFunc f args).run Tryz.prog w=.ok (.enter f args) w) {Q:Int→World→Prop} {S:Nat→Prop} {w:World} (hS:∀ b,w.heap.size≤b→S b)
  (hQ:∀ n W W',Q n W→Keeps (fun b=>b≠w.heap.size) W W'→Q n W')
  (hdo:Calls Tryz.prog f #[v] (w.alloc (erO 0)) (ZhN Q S (w.alloc (erO 0)))) :
  Calls Tryz.prog 50 #[.func (.func f) #[v] #[]] w (ZeN Q S w):=by
 have hmf:∀ (fn:Fn) (first cap:Array Value) (w:World),(Instr.makeFunc fn first cap).run Tryz.prog w=.ok (.func fn first cap) w:=fun _ _ _ _=>rfl
 have HD:=ZnV hdo
 have HQ:=ZnV hQ
 have HSS:=ZnV hS
 clear hdo hQ hS
 go_enter_defers Tryz.func50,Tryz.ntmps50
 go_wp2_with fail
 refine HD.out.mono ?_
 rintro e w2 ⟨n,hE,hA,hk⟩
 have he2:w2.heap[w.heap.size]?=some (erO 0):=(hk.block _ (by simp) (HSS.out _ ZnW)).trans (World.alloc_heap_new w _)
 have HA:=ZnV hA
 have HK2:Hid (Keeps S w w2):=((Keeps.refl S w).alloc _).trans hk
 obtain⟨p,hpp⟩:=ZnX w.heap.size
 rw[hpp] at he2 ⊢
 have HPP:=ZnV hpp
 clear hk hA hpp HD
 rcases hE with ⟨rfl,rfl⟩ | ⟨hn,rfl⟩
 ·have d0:=Za he2 0 rfl
  have g0:=Zc he2 0
  have HE2:=ZnV he2
  clear he2
  go_wp2
  obtain⟨w3,hw3⟩:=ZnX ((w2.setCell ⟨p,0,none⟩ (.int .i64 0)))
  have he3:w3.heap[p]?=some (erO 0):=by rw[← hw3];exact Joins.block_setCell HE2.out _
  have hk3:Keeps (fun b=>b≠p) w2 w3:=by rw[← hw3];exact(Keeps.refl _ w2).setCell (p:=⟨p,0,none⟩) (fun h=>h rfl) _
  rw[hw3]
  clear hw3 d0 g0
  have hl3:=(Array.getElem?_eq_some_iff.1 he3).1
  refine leaves_cons (f:=109) (args:=#[.pointer (some ⟨p,0,none⟩)]) (by simp) (by simp[go_sem]) ?_
  refine(ZeK p _).mono ?_
  rintro e u' w'' ⟨rfl,rfl,rfl⟩
  have q2:(w3.alloc (miO 0)).cell? ⟨p,0,none⟩=some (.int .i64 0):=(Z1 _ _ _ hl3).trans (Za he3 0 rfl)
  have hk4:Keeps (fun b=>b≠p) w2 (w3.alloc (miO 0)):=hk3.alloc _
  refine⟨.int .i64 0,by simp[results,Tryz.f50,go_sem,q2],0,rfl,HQ.out _ _ _ HA.out (by rw[HPP.out];exact hk4),?_⟩
  have h1:=HK2.out
  refine⟨hk4.os.trans h1.os,hk4.tape.trans h1.tape,hk4.output.trans h1.output,Nat.le_trans h1.size hk4.size,fun k hk hs=>?_⟩
  have hkp:k≠p:=by have:=HPP.out;omega
  exact(hk4.block k (Nat.lt_of_lt_of_le hk h1.size) hkp).trans (h1.block k hk hs)
 ·unfold Zdb
  refine leaves_cons (f:=109) (args:=#[.pointer (some ⟨p,0,none⟩)]) (by simp) (by simp[go_sem]) ?_
  refine(ZcS p n [] _ he2).mono ?_
  rintro e u' w3 ⟨rfl,rfl,he3,hk4⟩
  have q2:w3.cell? ⟨p,0,none⟩=some (.int .i64 n):=Za he3 0 rfl
  refine⟨.int .i64 n,by simp[results,Tryz.f50,go_sem,q2],n,rfl,HQ.out _ _ _ HA.out (by rw[HPP.out];exact hk4),?_⟩
  have h1:=HK2.out
  refine⟨hk4.os.trans h1.os,hk4.tape.trans h1.tape,hk4.output.trans h1.output,Nat.le_trans h1.size hk4.size,fun k hk hs=>?_⟩
  have hkp:k≠p:=by have:=HPP.out;omega
  exact(hk4.block k (Nat.lt_of_lt_of_le hk h1.size) hkp).trans (h1.block k hk hs)
theorem Zhc {t:TaskP} (ok:TaskOk t) {u i:Nat} (hu:u<t.rates.length) (hi:i<t.sites.length):(eR t u i=(⟨#[48]⟩,⟨#[49]⟩)∧rR t u i=0)∨((eR t u i).1≠⟨#[48]⟩∧rR t u i≠0):=by
 have h:=(Zdu ok hu hi).1
 by_cases h0:rR t u i=0
 ·rw[h0] at h
  obtain⟨e1,e2⟩:=h.one ZY
  exact .inl ⟨Prod.ext e1 e2,h0⟩
 ·exact .inr ⟨fun e=>h0 (Zml h e),h0⟩
theorem Zhk {s:ByteArray} (h:s≠⟨#[48]⟩):(s.toList==[48])=false:=by
 rw[Bool.eq_false_iff]
 intro e
 refine h ?_
 have h2:s.toList=[48]:=by simpa using e
 rw[ByteArray.toList_eq] at h2
 rw[← ZaN s,h2]
 rfl
theorem ZgS {t:TaskP} {p:List (List Int)} {sv hv rv pv:Value} {w:World} (h:TaskIn t sv hv rv w) (hz:LimT t) (hp:IIL w pv p) :
  Calls Tryz.prog 31 #[.agg #[sv,hv,rv],pv] w (Zjz (PlanOk t p) w):=by
 obtain⟨T,hT⟩:=ZnX p.length
 obtain⟨pp,pc,rfl,hpc1,hpc2⟩:=hp.shape hT
 obtain⟨ps,cs,rfl,hs1,hs2⟩:=h.sites.shape rfl
 obtain⟨ph,ch,rfl,hh1,hh2⟩:=h.hours.shape rfl
 obtain⟨pr,cr,rfl,hr1,hr2⟩:=h.rates.shape rfl
 have HT:=ZnV h
 have HZ:=ZnV hz
 have HP:=ZnV hp
 have HTL:=ZnV hT
 obtain⟨N,hN⟩:=ZnX t.sites.length
 obtain⟨H,hH⟩:=ZnX t.hours.length
 obtain⟨R,hR⟩:=ZnX t.rates.length
 rw[hN] at HT hs1 ⊢
 rw[hH] at HT hh1 ⊢
 rw[hR] at HT hr1 ⊢
 have HN:=ZnV hN
 have HHL:=ZnV hH
 have HRL:=ZnV hR
 have HE0:Hid (Env w.heap.size w [(w.heap.size,.cells #[.slice ps N cs,.slice ph H ch,.slice pr R cr] 26)] [] (w.alloc (.cells #[.slice ps N cs,.slice ph H ch,.slice pr R cr] 26))):=(Env.start w).push _ rfl
 clear h hz hp hT hN hH hR
 go_enter Tryz.func31,Tryz.ntmps31
 go_wp2_with fail
 refine(ZdX (HT.out.below HE0.out.base ZnW) HZ.out).mono ?_
 rintro e w1 ⟨hE,hb⟩
 have HE1:=ZnV (HE0.out.step hb)
 clear hb HE0
 rcases hE with ⟨hok,rfl⟩ | ⟨hok,rfl⟩
 rotate_left
 ·have HNO:Hid (¬ PlanOk t p):=fun k=>hok k.task
  clear hok
  go_wp2
  exact bodyPost_ret (v:=.int .i64 2) (by simp[results,Tryz.f31,go_sem]) rfl ⟨.inr ⟨HNO.out,rfl⟩,HE1.out.base⟩
 have HOK:=ZnV hok
 have b1:=HE1.out.cell 0 1 (v:=.slice ph H ch) rfl rfl
 clear hok
 by_cases hTH:T=H
 rotate_left
 ·have HNO:Hid (¬ PlanOk t p):=fun k=>hTH (by have:=k.teams;rw[HTL.out,HHL.out] at this;exact this)
  have hc:((T:Int) !=(H:Int))=true:=by rw[bne_iff_ne];omega
  clear hTH
  go_wp2
  exact bodyPost_ret (v:=.int .i64 2) (by simp[results,Tryz.f31,go_sem]) rfl ⟨.inr ⟨HNO.out,rfl⟩,HE1.out.base⟩
 subst hTH
 have hc:((T:Int) !=(T:Int))=false:=by simp
 have hRT:R=T:=by rw[← HRL.out,HOK.out.rates,HHL.out]
 subst hRT
 obtain⟨sb,so,sc,hb',ho,hc',rb,ro,rk,cv,rq,rp,rc,es,eh,er,k1,k2,k3,hA⟩:=HT.out.open HOK.out
 rw[HN.out] at es
 rw[HHL.out] at eh
 rw[HRL.out] at er
 injection es with es1 es2 es3
 injection eh with eh1 eh2 eh3
 injection er with er1 er2 er3
 subst es1 eh1 er1
 have HA:=ZnV hA
 have hN24:1≤N∧N≤24:=by rw[← HN.out];exact HOK.out.sites
 have hT8:1≤R∧R≤8:=by rw[← HHL.out];exact HOK.out.teams
 clear hA k1 k2 k3 es2 es3 eh2 eh3 er2 er3
 go_wp2_with fail
 clear b1 hc
 go_loopw [25] (fun iv wr=>∃ k:Nat,iv=.int .i64 k∧k≤R∧Hid (∀ u,u<k→(p.getD u []).length=N∧(∀ i,i<N→Zcp t p u i)∧ZR p u N≤eH t u)∧Hid (Env w.heap.size w [(w.heap.size,.cells #[.slice (some ⟨sb,so,none⟩) N cs,.slice (some ⟨hb',ho,none⟩) R ch,.slice (some ⟨rb,ro,none⟩) R cr] 26)] [] wr)) (fun iv _=>R-(intOf iv).toNat)
 case atStart=>exact⟨0,rfl,Nat.zero_le _,fun i h=>absurd h (Nat.not_lt_zero _),HE1⟩
 case round=>
  clear HE1
  obtain⟨u,rfl,hu,HU,HE⟩:=hrel
  have b0:=HE.out.cell 0 0 (v:=.slice (some ⟨sb,so,none⟩) N cs) rfl rfl
  have b1:=HE.out.cell 0 1 (v:=.slice (some ⟨hb',ho,none⟩) R ch) rfl rfl
  by_cases hlt:u<R
  ·obtain⟨qb,qo,rfl,hqb,hat⟩:=HP.out.at IIL.stays HTL.out (by omega)
   have hul:u<p.length:=by rw[HTL.out];exact hlt
   obtain⟨v,e0',hil⟩:=hat w (Below.refl _ w) u hul
   rw[Nat.mul_one] at e0'
   have e0:=(HE.out.base.cell (p:=⟨qb,qo+u,none⟩) hqb).trans e0'
   clear e0'
   obtain⟨l,hl⟩:=ZnX (p[u])
   rw[hl] at hil
   obtain⟨n,hn⟩:=ZnX l.length
   obtain⟨lp,lc,rfl,hlc1,hlc2⟩:=hil.shape hn
   have HL:Hid (p.getD u []=l):=by show _=_;rw[← hl];simp[List.getD,hul]
   have HLG:Hid (p[u]'(hul)=l):=hl
   have HNN:=ZnV hn
   have HIL:Hid (∀ V,Below w.heap.size w V→IL V (.slice lp n lc) l):=fun V hV=>hil.after IntR.stays hV ZnW
   have i0':(0:Int)≤(u:Int):=by omega
   have i1':(u:Int)<(R:Int):=by omega
   clear hat hl hn hil
   by_cases hnN:n=N
   rotate_left
   ·have HNO:Hid (¬ PlanOk t p):=fun k=>hnN (by have:=k.row u hul;rw[HLG.out,HNN.out,HN.out] at this;exact this)
    have hc:((n:Int) !=(N:Int))=true:=by rw[bne_iff_ne];omega
    clear hnN
    go_wp2
    exact bodyPost_ret (v:=.int .i64 2) (by simp[results,Tryz.f31,go_sem]) rfl ⟨.inr ⟨HNO.out,rfl⟩,HE.out.base⟩
   subst hnN
   have hc:((n:Int) !=(n:Int))=false:=by simp
   obtain⟨lb,lo,rfl,hlb,hlat⟩:=(HIL.out w (Below.refl _ _)).at IntR.stays HNN.out (by omega)
   have HLA:Hid (∀ V,Below w.heap.size w V→∀ j,j<n→V.cell? ⟨lb,lo+j,none⟩=some (.int .i64 (pN p u j))):=fun V hV j hj=>by
    have h1:=hlat V hV j (by rw[HNN.out];exact hj)
    unfold IntR at h1
    rw[Nat.mul_one] at h1
    rw[show pN p u j=l[j]'(by rw[HNN.out];exact hj) by unfold pN;rw[HL.out];simp[List.getD,HNN.out,hj]]
    exact h1
   clear hlat
   go_wp2_with fail
   clear b0 b1 e0 hc
   go_loopw [8,38] (fun sv iv wv=>∃ i:Nat,iv=.int .i64 i∧i≤n∧sv=.int .i64 (ZR p u i)∧Hid (∀ j,j<i→Zcp t p u j)∧Hid (Env w.heap.size w [(w.heap.size,.cells #[.slice (some ⟨sb,so,none⟩) n cs,.slice (some ⟨hb',ho,none⟩) R ch,.slice (some ⟨rb,ro,none⟩) R cr] 26)] [] wv)) (fun _ iv _=>n-(intOf iv).toNat)
   case atStart=>exact⟨0,rfl,Nat.zero_le _,rfl,fun i h=>absurd h (Nat.not_lt_zero _),HE⟩
   case round=>
    clear HE
    obtain⟨i,rfl,hi,rfl,HH,HEV⟩:=hrel
    have hnd:n=t.sites.length:=HN.out.symm
    by_cases hlt2:i<n
    ·have c0:=HLA.out _ HEV.out.base i hlt2
     obtain⟨m,hm⟩:=ZnX (pN p u i)
     rw[hm] at c0
     have HM:=ZnV hm
     have j0':(0:Int)≤(i:Int):=by omega
     have j1':(i:Int)<(n:Int):=by omega
     have hlo:n≤lc:=hlc1
     have HRT:Hid (∀ V,Below w.heap.size w V→(V.cell? ⟨rb,ro+u,none⟩=some (.slice (some ⟨rq u,rp u,none⟩) n (rc u))∧V.cell? ⟨rq u,rp u+i*2,none⟩=some (.string (eR t u i).1)∧V.cell? ⟨rq u,rp u+i*2+1,none⟩=some (.string (eR t u i).2))∧EffZ V):=fun V hV=>by
      have A:=HA.out V hV
      obtain⟨a1,_,_,a2⟩:=A.rate u (by rw[HRL.out];exact hlt)
      rw[HN.out] at a1 a2
      exact⟨⟨a1,a2 i hlt2⟩,A.eff⟩
     obtain⟨_,hrc1,hrc2,_⟩:=(HA.out w (Below.refl _ _)).rate u (by rw[HRL.out];exact hlt)
     rw[HN.out] at hrc1
     have HRZ:=ZnV (Zhc HOK.out (u:=u) (i:=i) (by rw[HRL.out];exact hlt) (by rw[HN.out];exact hlt2))
     obtain⟨q1,hq1⟩:=ZnX (rq u)
     obtain⟨o1,ho1⟩:=ZnX (rp u)
     obtain⟨c1,hc1⟩:=ZnX (rc u)
     obtain⟨⟨s1,t1⟩,hs1'⟩:∃ z,eR t u i=z:=⟨_,rfl⟩
     rw[hq1,ho1,hc1,hs1'] at HRT
     rw[hs1'] at HRZ
     rw[hc1] at hrc1 hrc2
     dsimp only at HRT HRZ
     clear hm hq1 ho1 hc1 hs1' hnd
     go_wp2_with fail
     clear c0
     refine ZF [(1,0),(0,1),(1,2),(1,3),(1,4),(1,5),(1,6),(1,7),(1,8),(1,9),(1,10),(1,11),(1,12),(1,13),(1,14),(1,15),(1,16),(1,17),(1,18)] (Env w.heap.size w [(w.heap.size,.cells #[.slice (some ⟨sb,so,none⟩) n cs,.slice (some ⟨hb',ho,none⟩) R ch,.slice (some ⟨rb,ro,none⟩) R cr] 26)] []) (fun _=>false)
      (by kernel_rfl) (by kernel_rfl) (fun _ _=>rfl) (fun _ _ o _ _ h=>by cases o<;>exact h) HEV.out.drew ?_
     obtain⟨w4,hw4⟩:=ZnX wr.drew
     have HE4:Hid (Env w.heap.size w [(w.heap.size,.cells #[.slice (some ⟨sb,so,none⟩) n cs,.slice (some ⟨hb',ho,none⟩) R ch,.slice (some ⟨rb,ro,none⟩) R cr] 26)] [] w4):=by rw[← hw4];exact HEV.out.drew
     rw[hw4]
     clear hw4 HEV
     iterate 1
      refine Zk _ rfl rfl (fun w' hS=>by skip;go_simp;first | rfl | (rw[if_pos (by omega)])) ?_
      simp only[ZnP,ZnQ,ZnR,Act.put,ZnS,ZnT,ZnU]
     refine Zm 76 _ rfl rfl (by go_simp;rfl) ?_
     refine(ZcB m 0 48 _).mono ?_
     rintro e w5 ⟨rfl,hb⟩
     have HE5:=ZnV (HE4.out.step hb)
     refine .inl ⟨_,rfl,HE5.out,?_⟩
     clear hb HE4
     simp only[ZnP,ZnQ,ZnR,Act.put,ZnS,ZnT,ZnU]
     by_cases hw:0≤m∧m≤48
     rotate_left
     ·have HNO:Hid (¬ PlanOk t p):=fun k=>hw (by have:=(k.hour u i hul (by rw[HN.out];exact hlt2)).1;rw[HM.out] at this;exact this)
      have hwd:(decide ((0:Int)≤m) && decide (m≤48))=false:=by
       rw[← Bool.not_eq_true]
       simp only[Bool.and_eq_true,decide_eq_true_eq]
       omega
      rw[hwd]
      clear hw hwd
      iterate 2
       refine Zk _ rfl rfl (fun w' hS=>by skip;go_simp;first | rfl | (rw[if_pos (by omega)])) ?_
       simp only[ZnP,ZnQ,ZnR,Act.put,ZnS,ZnT,ZnU]
      iterate 14
       refine ZbW rfl rfl ?_
       simp only[ZnP,ZnQ,ZnR,Act.put,ZnS,ZnT,ZnU]
      iterate 1
       refine Zk _ rfl rfl (fun w' hS=>by skip;go_simp;first | rfl | (rw[if_pos (by omega)])) ?_
       simp only[ZnP,ZnQ,ZnR,Act.put,ZnS,ZnT,ZnU]
      refine Zt ?_
      go_wp2
      exact bodyPost_ret (v:=.int .i64 2) (by simp[results,Tryz.f31,go_sem]) rfl ⟨.inr ⟨HNO.out,rfl⟩,HE5.out.base⟩
     have hwd:(decide ((0:Int)≤m) && decide (m≤48))=true:=by simp;omega
     rw[hwd]
     clear hwd
     have hs1:=Zea (p:=p) (u:=u) (N:=i) (fun j hj=>(HH.out j hj).1) i ZnW
     have e1:Hid (IntKind.i64.wrap (ZR p u i+m)=ZR p u (i+1)):=by
      show _=_
      rw[IntWalk.i64_in _ (by omega)]
      show _=ZR p u i+pN p u i
      rw[HM.out]
     have HHN:Hid (Zcp t p u i→∀ j,j<i+1→Zcp t p u j):=fun h j hj=>by
      rcases Nat.lt_or_ge j i with h1 | h1
      ·exact HH.out j h1
      ·obtain rfl:j=i:=by omega
       exact h
     clear hs1
     iterate 2
      refine Zk _ rfl rfl (fun w' hS=>by skip;go_simp;first | rfl | (rw[if_pos (by omega)])) ?_
      simp only[ZnP,ZnQ,ZnR,Act.put,ZnS,ZnT,ZnU]
     by_cases hm0:0<m
     rotate_left
     ·have HOKI:=ZnV (HHN.out ⟨by rw[HM.out];exact hw,fun h=>absurd (by rw[HM.out] at h;exact h) hm0⟩)
      have e1':=e1.out
      clear hw
      iterate 3
       refine Zk _ rfl rfl (fun w' hS=>by skip;go_simp;first | rfl | (rw[if_pos (by omega)])) ?_
       simp only[ZnP,ZnQ,ZnR,Act.put,ZnS,ZnT,ZnU]
      iterate 10
       refine ZbW rfl rfl ?_
       simp only[ZnP,ZnQ,ZnR,Act.put,ZnS,ZnT,ZnU]
      iterate 2
       refine Zk _ rfl rfl (fun w' hS=>by skip;go_simp;first | rfl | (rw[if_pos (by omega)])) ?_
       simp only[ZnP,ZnQ,ZnR,Act.put,ZnS,ZnT,ZnU]
      refine Zt ?_
      go_wp2
      go_roundw
      case rel=>exact⟨i+1,by go_num,by omega,by first | rfl | rw[e1.out],HOKI,HE5⟩
      case measure=>simp[intOf];omega
     rcases HRZ.out with ⟨hz,hz0⟩ | ⟨hz,hz0⟩
     ·have HNO:Hid (¬ PlanOk t p):=fun k=>(k.hour u i hul (by rw[HN.out];exact hlt2)).2 (by rw[HM.out];exact hm0) hz0
      injection hz with hz1 hz2
      subst hz1 hz2
      clear hw hz0
      iterate 15
       refine Zk _ rfl rfl (fun w' hS=>by have c2:=hS.cell 0 2 (v:=.slice (some ⟨rb,ro,none⟩) R cr) rfl rfl;obtain⟨⟨a0,a1,a2⟩,z0,z1⟩:=HRT.out _ hS.base;go_simp;first | rfl | (rw[if_pos (by omega)])) ?_
       simp only[ZnP,ZnQ,ZnR,Act.put,ZnS,ZnT,ZnU]
      refine Zt ?_
      go_wp2
      exact bodyPost_ret (v:=.int .i64 2) (by simp[results,Tryz.f31,go_sem]) rfl ⟨.inr ⟨HNO.out,rfl⟩,HE5.out.base⟩
     ·have HOKI:=ZnV (HHN.out ⟨by rw[HM.out];exact hw,fun _=>hz0⟩)
      have e1':=e1.out
      have hzt:=Zhk hz
      clear hw hz0 hz
      iterate 12
       refine Zk _ rfl rfl (fun w' hS=>by have c2:=hS.cell 0 2 (v:=.slice (some ⟨rb,ro,none⟩) R cr) rfl rfl;obtain⟨⟨a0,a1,a2⟩,z0,z1⟩:=HRT.out _ hS.base;go_simp;first | rfl | (rw[if_pos (by omega)])) ?_
       simp only[ZnP,ZnQ,ZnR,Act.put,ZnS,ZnT,ZnU]
      refine Zk (.bool false) rfl rfl (fun w' hS=>by go_simp) ?_
      simp only[ZnP,ZnQ,ZnR,Act.put,ZnS,ZnT,ZnU]
      iterate 2
       refine Zk _ rfl rfl (fun w' hS=>by skip;go_simp;first | rfl | (rw[if_pos (by omega)])) ?_
       simp only[ZnP,ZnQ,ZnR,Act.put,ZnS,ZnT,ZnU]
      refine Zt ?_
      go_wp2
      go_roundw
      case rel=>exact⟨i+1,by go_num,by omega,by first | rfl | rw[e1.out],HOKI,HE5⟩
      case measure=>simp[intOf];omega
    ·have hin:i=n:=by omega
     have hh1:=HEV.out.cell 0 1 (v:=.slice (some ⟨hb',ho,none⟩) R ch) rfl rfl
     have a1:=(HA.out _ HEV.out.base).hour u (by rw[HHL.out];exact hlt)
     obtain⟨hh,hhh⟩:=ZnX (eH t u)
     rw[hhh] at a1
     have HHH:=ZnV hhh
     clear hhh
     by_cases hs:hh<ZR p u i
     ·have HNO:Hid (¬ PlanOk t p):=fun k=>by
       have:=k.sum u hul
       rw[HN.out,HHH.out,← hin] at this
       omega
      clear hin
      go_wp2
      exact bodyPost_ret (v:=.int .i64 2) (by simp[results,Tryz.f31,go_sem]) rfl ⟨.inr ⟨HNO.out,rfl⟩,HEV.out.base⟩
     ·have HU2:Hid (∀ v,v<u+1→(p.getD v []).length=n∧(∀ i,i<n→Zcp t p v i)∧ZR p v n≤eH t v):=fun v hv=>by
       rcases Nat.lt_or_ge v u with h1 | h1
       ·exact HU.out v h1
       ·obtain rfl:v=u:=by omega
        refine⟨by rw[HL.out,HNN.out],fun j hj=>HH.out j (by omega),?_⟩
        rw[← hin,HHH.out]
        omega
      clear hin
      go_wp2
      go_roundw
      case rel=>exact⟨u+1,by go_num,by omega,HU2,HEV⟩
      case measure=>simp[intOf];omega
  ·have huR:u=R:=by omega
   have HYES:Hid (PlanOk t p):=by
    refine⟨HOK.out,by rw[HTL.out,HHL.out],fun v hv=>?_,fun v i hv hi=>?_,fun v hv=>?_⟩
    ·have h1:=(HU.out v (by rw[huR,← HTL.out];exact hv)).1
     rw[show p[v]=p.getD v [] by simp[List.getD,hv],h1,HN.out]
    ·exact(HU.out v (by rw[huR,← HTL.out];exact hv)).2.1 i (by rw[← HN.out];exact hi)
    ·rw[HN.out]
     exact(HU.out v (by rw[huR,← HTL.out];exact hv)).2.2
   clear huR HU
   go_wp2
   exact bodyPost_ret (v:=.int .i64 0) (by simp[results,Tryz.f31,go_sem]) rfl ⟨.inl ⟨HYES.out,rfl⟩,HE.out.base⟩
theorem PlanOk.len8 {t:TaskP} {p:List (List Int)} (h:PlanOk t p):0<p.length∧p.length≤8:=by
 have h1:=h.task.teams
 have h2:=h.teams
 omega
def ResQ (A:ByteArray→ByteArray→Int→Prop) (g:Nat) (n:Int) (V:World):Prop:=∃ x y,V.heap[g]?=some (pObj x y)∧A x y n
theorem ResQ.stay {A:ByteArray→ByteArray→Int→Prop} {g h:Nat} (hne:g≠h) (n:Int) (W W':World) (q:ResQ A g n W) (hk:Keeps (fun b=>b≠h) W W'):ResQ A g n W':=by
 obtain⟨x,y,h1,h2⟩:=q
 exact⟨x,y,hk.at h1 hne,h2⟩
abbrev efO (sv hv rv:Value):Obj:=.cells #[sv,hv,rv] 26
abbrev plO (pv:Value):Obj:=.cells #[pv] 29
theorem ZkF {t:TaskP} {p:List (List Int)} {Ge Gp Gr:Nat} {ps ph pr pp:Option Addr} {ns nh nr np cs ch cr cp:Nat} {W:World} (he:W.heap[Ge]?=some (efO (.slice ps ns cs) (.slice ph nh ch) (.slice pr nr cr))) (hp:W.heap[Gp]?=some (plO (.slice pp np cp))) (hr:W.heap[Gr]?=some (pObj ⟨#[]⟩ ⟨#[]⟩))
  (hT:TaskIn t (.slice ps ns cs) (.slice ph nh ch) (.slice pr nr cr) W) (hI:IIL W (.slice pp np cp) p) (ok:PlanOk t p) :
  Calls Tryz.prog 59 #[.pointer (some ⟨Ge,0,none⟩),.pointer (some ⟨Gp,0,none⟩),.pointer (some ⟨Gr,0,none⟩)] W (ZhN (ResQ (SumE (valF t p) t.sites.length) Gr) (fun b=>b≠Gr) W):=by
 have e0:=Za he 0 (v:=.slice ps ns cs) rfl
 have e1:=Za he 1 (v:=.slice ph nh ch) rfl
 have e2:=Za he 2 (v:=.slice pr nr cr) rfl
 have p0:=Za hp 0 (v:=.slice pp np cp) rfl
 have HBG:=ZnV (ZeS hT hI ok.len8.2 ok.task.sites (fun u h=>ok.row u h))
 have HR:=ZnV hr
 have HOK:=ZnV ok
 have hrl:=(Array.getElem?_eq_some_iff.1 hr).1
 clear hT hI he hp hr ok
 go_enter Tryz.func59,Tryz.ntmps59
 go_wp2_with fail
 refine HBG.out.mono ?_
 rintro e w1 ⟨b,m,sv,hv,rv,pv,gq,gc,rfl,hW,hP,hM,hm,hb1,hb⟩
 obtain⟨pb,pc,_,hPW⟩:=hP.toW HOK.out.len8.1
 have HV:=ZnV (ZjW hW hPW hM (by decide) HOK.out.task HOK.out.inn)
 have HR1:Hid (w1.heap[Gr]?=some (pObj ⟨#[]⟩ ⟨#[]⟩)):=(hb.block _ hrl).trans HR.out
 have HB1:=ZnV hb
 have hgm:Gr≠m:=by omega
 clear hW hP hM hPW hb HBG e0 e1 e2 p0
 go_wp2_with fail
 refine HV.out.mono ?_
 rintro e w2 ⟨x,y,n,hE,hS,hk,_⟩
 have HR2:Hid (w2.heap[Gr]?=some (pObj ⟨#[]⟩ ⟨#[]⟩)):=hk.at HR1.out hgm
 have HK2:Hid (Keeps (fun b=>b≠Gr) W w2):=by
  have h1:Keeps (fun b=>b<W.heap.size) W w2:=(HB1.out.keepsS (fun b=>b<W.heap.size)).trans (hk.mono fun c _ hc=>by show c≠m;omega)
  exact⟨h1.os,h1.tape,h1.output,h1.size,fun k hk2 _=>h1.block k hk2 hk2⟩
 have HSE:=ZnV hS
 clear hk hS HV
 rcases hE with ⟨rfl,rfl⟩ | ⟨hn,rfl⟩
 ·have r0:=Za HR2.out 0 (v:=.string ⟨#[]⟩) rfl
  have r1:=Za HR2.out 1 (v:=.string ⟨#[]⟩) rfl
  have f0:=Zc HR2.out 0
  have f1:=Zc HR2.out 1
  go_wp2
  refine bodyPost_ret (results_none rfl _ _ _) rfl ⟨0,.inl ⟨rfl,rfl⟩,⟨x,y,Z5 HR2.out _ _,HSE.out⟩,(HK2.out.setCell (p:=⟨Gr,0,none⟩) (by simp) _).setCell (p:=⟨Gr,1,none⟩) (by simp) _⟩
 ·have hxy:x=⟨#[]⟩∧y=⟨#[]⟩:=by
   rcases HSE.out with ⟨_,_,h⟩ | ⟨_,h1,h2,_⟩
   ·exact absurd h hn
   ·exact⟨h1,h2⟩
  obtain⟨rfl,rfl⟩:=hxy
  have HN:=ZnV hn
  clear hn
  unfold Zdb
  go_wp2
  exact⟨rfl,n,.inr ⟨HN.out,rfl⟩,⟨_,_,HR2.out,HSE.out⟩,HK2.out⟩
def Zif (t:TaskP) (p:List (List Int)) (x y:ByteArray) (n:Int):Prop:=(¬ PlanOk t p∧x=⟨#[]⟩∧y=⟨#[]⟩∧n=2)∨(PlanOk t p∧SumE (valF t p) t.sites.length x y n)
theorem Zj3 {t:TaskP} {p:List (List Int)} {sv hv rv pv:Value} {w:World} (hT:TaskIn t sv hv rv w) (hz:LimT t) (hI:IIL w pv p) :
  Calls Tryz.prog 20 #[.agg #[sv,hv,rv],pv] w (Zx (Zif t p) w):=by
 obtain⟨ps,cs,rfl,_⟩:=hT.sites.shape rfl
 obtain⟨ph,ch,rfl,_⟩:=hT.hours.shape rfl
 obtain⟨pr,cr,rfl,_⟩:=hT.rates.shape rfl
 obtain⟨pp,pc,rfl,_⟩:=hI.shape rfl
 obtain⟨ns,hns⟩:=ZnX t.sites.length
 obtain⟨nh,hnh⟩:=ZnX t.hours.length
 obtain⟨nr,hnr⟩:=ZnX t.rates.length
 obtain⟨np,hnp⟩:=ZnX p.length
 rw[hns,hnh,hnr] at hT ⊢
 rw[hnp] at hI ⊢
 have HT:=ZnV hT
 have HI:=ZnV hI
 have HZ:=ZnV hz
 have HE0:Hid (Env w.heap.size w [(w.heap.size+1+1,pObj ⟨#[]⟩ ⟨#[]⟩),(w.heap.size+1,plO (.slice pp np pc)),(w.heap.size,efO (.slice ps ns cs) (.slice ph nh ch) (.slice pr nr cr))] []
  (((w.alloc (efO (.slice ps ns cs) (.slice ph nh ch) (.slice pr nr cr))).alloc (plO (.slice pp np pc))).alloc (pObj ⟨#[]⟩ ⟨#[]⟩))):=(((Env.start w).push _ rfl).push _ (by simp)).push _ (by simp)
 have e0:=HE0.out.cell 2 0 (v:=.slice ps ns cs) rfl rfl
 have e1:=HE0.out.cell 2 1 (v:=.slice ph nh ch) rfl rfl
 have e2:=HE0.out.cell 2 2 (v:=.slice pr nr cr) rfl rfl
 have p0:=HE0.out.cell 1 0 (v:=.slice pp np pc) rfl rfl
 clear hT hI hz hns hnh hnr hnp
 go_enter Tryz.func20,Tryz.ntmps20
 go_wp2_with fail
 refine(ZgS (HT.out.below HE0.out.base ZnW) HZ.out (IIL.stay2 HI.out HE0.out.base ZnW)).mono ?_
 rintro e w1 ⟨hE,hb⟩
 have HE1:=ZnV (HE0.out.step hb)
 clear hb HE0 e0 e1 e2 p0
 have r0:=HE1.out.cell 0 0 (v:=.string ⟨#[]⟩) rfl rfl
 have r1:=HE1.out.cell 0 1 (v:=.string ⟨#[]⟩) rfl rfl
 have f0:=HE1.out.free 0 0 rfl
 have f1:=HE1.out.free 0 1 rfl
 rcases hE with ⟨hok,rfl⟩ | ⟨hok,rfl⟩
 rotate_left
 ·have HA:Hid (Zif t p ⟨#[]⟩ ⟨#[]⟩ 2):=.inl ⟨hok,rfl,rfl,rfl⟩
  clear hok
  go_wp2
  have HE9:=ZnV (HE1.out.fill (.string ⟨#[]⟩) (.string ⟨#[]⟩))
  have q0:=HE9.out.cell 0 0 (v:=.string ⟨#[]⟩) rfl rfl
  have q1:=HE9.out.cell 0 1 (v:=.string ⟨#[]⟩) rfl rfl
  exact bodyPost_ret (v:=.tuple #[.agg #[.string ⟨#[]⟩,.string ⟨#[]⟩],.int .i64 2]) (by simp[results,Tryz.f20,go_sem,q0,q1]) rfl ⟨⟨#[]⟩,⟨#[]⟩,2,rfl,HA.out,HE9.out.base⟩
 ·have HOK:=ZnV hok
  obtain⟨G,hG⟩:=ZnX w.heap.size
  have HGG:=ZnV hG
  have hGE:=HE1.out
  rw[hG] at hGE
  have hs1:G+3≤w1.heap.size:=by
   have:=hGE.lt 0 rfl
   omega
  have HTR:Hid (Calls Tryz.prog 50 #[.func (.func 59) #[] #[.pointer (some ⟨G,0,none⟩),.pointer (some ⟨G+1,0,none⟩),.pointer (some ⟨G+1+1,0,none⟩)]] w1 (ZeN (ResQ (SumE (valF t p) t.sites.length) (G+1+1)) (fun b=>b≠G+1+1) w1)):=by
   have hal:Below w1.heap.size w1 (w1.alloc (erO 0)):=(Below.refl _ w1).alloc ZnW _
   have hE2:=hGE.step hal
   refine Zf9 (enters_of Tryz.func59 (by kernel_rfl) rfl) (fun b hb=>by show b≠G+1+1;omega) (fun n W W'=>ResQ.stay (by omega) n W W') ?_
   have hbw:Below w.heap.size w (w1.alloc (erO 0)):=HE1.out.base.trans (hal.mono HE1.out.own)
   exact ZkF (hE2.block 2 rfl) (hE2.block 1 rfl) (hE2.block 0 rfl) (HT.out.below hbw ZnW) (IIL.stay2 HI.out hbw ZnW) HOK.out
  rw[hG] at r0 r1 f0 f1 ⊢
  clear hok hGE r0 r1 f0 f1 hG
  go_wp2_with fail
  refine HTR.out.mono ?_
  rintro e w2 ⟨n,rfl,⟨x,y,hxy,hS⟩,hk⟩
  have HA:Hid (Zif t p x y n):=.inr ⟨HOK.out,hS⟩
  have HXY:=ZnV hxy
  have HB2:Hid (Below w.heap.size w w2):=HE1.out.base.trans (hk.below_of (fun b hb=>by have:=HGG.out;show b≠G+1+1;omega) HE1.out.own)
  clear hS hk HTR
  have r0:=Za HXY.out 0 (v:=.string x) rfl
  have r1:=Za HXY.out 1 (v:=.string y) rfl
  have f0:=Zc HXY.out 0
  have f1:=Zc HXY.out 1
  clear hxy
  go_wp2
  obtain⟨q0,q1⟩:=Zi HXY.out (.string x) (.string y)
  exact bodyPost_ret (v:=.tuple #[.agg #[.string x,.string y],.int .i64 n]) (by simp[results,Tryz.f20,go_sem,q0,q1]) rfl ⟨x,y,n,rfl,HA.out,Zf HB2.out (by have:=HGG.out;omega) (.string x) (.string y)⟩
theorem Zb4.keepS {m:Nat} {Q:World→Prop} {S:Nat→Prop} {w w':World} (h:Zb4 m Q w) (hk:Keeps S w w') (hS:∀ x,x<m→S x):Zb4 m Q w':=by
 obtain⟨w1,h1,h2,h3⟩:=h
 exact⟨w1,h1,h2.trans ((hk.mono fun b _ hb=>hS b (by omega):Keeps (fun b=>b<w1.heap.size) w w').toBelow h2.size),h3⟩
theorem WorkW.keepS {t:TaskP} {b m:Nat} {sv hv rv pv:Value} {S:Nat→Prop} {w w':World} (h:WorkW t b m sv hv rv pv w) (hk:Keeps S w w') (hS:∀ x,x<m→S x) (hb:S b):WorkW t b m sv hv rv pv w':=
 ⟨hk.at h.blk hb,h.ne,h.task.keepS hk hS⟩
theorem Zkn {t:TaskP} {p:List (List Int)} (hp:p.length=t.hours.length) {r:Option Nat} {m:Rat} (h:Best (fun k=>Zai t p ((Zaq t p).getD k 0/t.sites.length) ((Zaq t p).getD k 0 % t.sites.length)) (Zaq t p).length r m) :
  Best (Zac t p) (t.hours.length*t.sites.length) (r.map fun k=>(Zaq t p).getD k 0) m:=by
 have h1:=Best.ofPick (P:=Zba t p) (g:=fun j=>Zai t p (j/t.sites.length) (j % t.sites.length)) (n:=p.length*t.sites.length) h
 rw[hp] at h1
 have e:(fun j=>if Zba t p j=true then Zai t p (j/t.sites.length) (j % t.sites.length) else 0)=Zac t p:=by
  funext j
  unfold Zac Zba
  by_cases h:0<Zab t p (j/t.sites.length)
  ·rw[if_pos (decide_eq_true h),if_pos h]
  ·rw[if_neg (by simp[h]),if_neg h]
 rw[e] at h1
 unfold Zaq
 rw[hp]
 exact h1
theorem Zln (b:Nat) (w:World):Calls Tryz.prog 111 #[.pointer (some ⟨b,0,none⟩)] w (fun e w'=>e=.returned (.func (.func 160) #[] #[.pointer (some ⟨w.heap.size,0,none⟩)])∧w'=w.alloc (wkO b)):=by
 have hmf:∀ (fn:Fn) (first cap:Array Value) (w:World),(Instr.makeFunc fn first cap).run Tryz.prog w=.ok (.func fn first cap) w:=fun _ _ _ _=>rfl
 go_enter Tryz.func111,Tryz.ntmps111
 go_wp2
 exact bodyPost_ret (by simp[results,Tryz.f111,go_sem]) rfl ⟨rfl,rfl⟩
theorem ZhE {t:TaskP} {p:List (List Int)} {b m n Bs B2:Nat} {sv hv rv pv:Value} {gq gc:Nat→Nat} {w:World} (hW:WorkW t b m sv hv rv pv w) (hP:PlanO p t.sites.length m b pv gq gc w) (hm:Memo w m t n) (hn:n≤800000000000) (ok:PlanOk t p)
  (hBs:w.heap[Bs]?=some (wkO b)) (hB2:w.heap[B2]?=some (wkO b)) :
  Calls Tryz.prog 110 #[.func (.func 160) #[] #[.pointer (some ⟨B2,0,none⟩)],.func (.func 112) #[] #[.pointer (some ⟨Bs,0,none⟩)]] w
   (fun e w'=>∃ r mx x y,e=.returned (.tuple #[ZhK (Zci t p) r,pV x y,.bool r.isSome])∧Best (Zac t p) (t.hours.length*t.sites.length) (r.map fun k=>(Zaq t p).getD k 0) mx∧(∀ k,r=some k→k<(Zaq t p).length)∧Keeps (NotM m) w w'∧Memo w' m t (n+768)):=by
 have hT8:=ok.len8
 have hpT:=ok.teams
 have hN:=ok.task.sites
 obtain⟨sb,so,sc,hb,ho,hc,rb,ro,rk,cv,rq,rp,rc,k1,k2,k3,hA⟩:=hW.open ok.task
 obtain⟨pb,pc,hpv,hPW⟩:=hP.toW hT8.1
 have hL:(Zaq t p).length≤p.length*t.sites.length:=Zmz _ _
 have hL2:p.length*t.sites.length≤192:=by
  have:p.length*t.sites.length≤8*24:=Nat.mul_le_mul hT8.2 hN.2
  omega
 have hne:∀ {B:Nat},w.heap[B]?=some (wkO b)→B≠m:=fun h e=>by
  subst e
  obtain⟨es,_,h1,_⟩:=id hm
  rw[h1] at h
  cases h
 have hml:=hm.lt
 refine(ZhC (e:=Zci t p) (g:=fun k=>Zai t p ((Zaq t p).getD k 0/t.sites.length) ((Zaq t p).getD k 0 % t.sites.length)) (N:=(Zaq t p).length) (Sx:=NotM m) (J:=fun k W=>Memo W m t (n+4*k))
  (enters_of Tryz.func160 (by kernel_rfl) rfl) (enters_of Tryz.func112 (by kernel_rfl) rfl)
  (fun x hx=>by show x≠m;omega) (fun k W1 W2 h hk=>?_) (by rw[Nat.mul_zero,Nat.add_zero];exact hm) (fun V hV=>(hA V hV).at'.eff) (fun V hV=>?_) (fun k hk V hV hJ=>?_)).mono ?_
 ·obtain⟨es,g,h1,h2⟩:=id h
  refine h.stay (hk.block m h.lt hml)
 ·refine ZjU (T:=p.length) (N:=t.sites.length) (b:=b) (hb:=hb) (ho:=ho) (hc:=hc) (pb:=pb) (po:=0) (pc:=pc) (gq:=gq) (gp:=fun _=>0) (gc:=gc) rfl rfl hN hT8.2 (by rw[hpT];exact k2) hPW.cap (fun V' hV'=>?_) (fun u hu=>(ok.task.team u (by rw[ok.task.rates,← hpT];exact hu)).1) (fun u i hu hi=>(ok.hour u i hu hi).1)
  have hk:=hV.via hV' fun x hx hs=>⟨hx,hs⟩
  have A:=hA V' hk
  have hP':=hPW.keep hk
  exact⟨Za (hk.at hB2 (hne hB2)) 0 rfl,by rw[hpT];exact A.w1,by rw[← hpv];exact A.w3,fun u hu=>A.at'.hour u (by rw[← hpT];exact hu),fun u hu=>hP'.at' u hu⟩
 ·obtain⟨hk1,hk2⟩:=Zg1 (P:=Zba t p) (n:=p.length*t.sites.length) (k:=k) hk
  have hdu:(Zaq t p).getD k 0/t.sites.length<t.rates.length:=by
   rw[ok.task.rates,← hpT]
   exact Nat.div_lt_of_lt_mul (by rw[Nat.mul_comm];exact hk1)
  have hdi:(Zaq t p).getD k 0 % t.sites.length<t.sites.length:=Nat.mod_lt _ (by omega)
  refine(Zjd (hW.keep hV) (hPW.keep hV) hJ (by omega) ok.task ok.inn (hV.at hBs (hne hBs)) hdu hdi).mono ?_
  rintro e w' ⟨x,y,he,h1,h2,h3⟩
  exact⟨x,y,he,h1,h2,by rw[show n+4*(k+1)=n+4*k+4 by omega];exact h3⟩
 ·rintro e w' ⟨r,mx,x,y,he,hB,_,hk,hM⟩
  refine⟨r,mx,x,y,he,Zkn hpT hB,fun k hk=>?_,hk,hM.mono (by omega)⟩
  subst hk
  exact(hB.yes k rfl).1
abbrev NotG (m T:Nat) (gq:Nat→Nat):Nat→Prop:=fun x=>x≠m∧∀ u,u<T→x≠gq u
def Zfn (t:TaskP) (p0:List (List Int)) (b m:Nat) (pv:Value) (gq gc:Nat→Nat) (w:World) (e:Ending) (w':World):Prop:=
 e=.returned (.tuple #[])∧(∃ p,GreedyR t p0 p∧PlanOk t p∧PlanO p t.sites.length m b pv gq gc w')∧Keeps (NotG m p0.length gq) w w'
def Zh9 (t:TaskP) (p0:List (List Int)) (b m:Nat) (pv:Value) (gq gc:Nat→Nat) (w:World) (e:Ending) (w':World):Prop:=
 Zfn t p0 b m pv gq gc w e w'∧∃ n,n≤400000∧Memo w' m t n
theorem Zh3 {t:TaskP} {p0:List (List Int)} {b m:Nat} {sv hv rv pv:Value} {gq gc:Nat→Nat} {w:World} (hW:WorkW t b m sv hv rv pv w) (hP:PlanO p0 t.sites.length m b pv gq gc w) (hm:Memo w m t 0) (ok:PlanOk t p0) :
  Calls Tryz.prog 51 #[.pointer (some ⟨b,0,none⟩)] w (Zh9 t p0 b m pv gq gc w):=by
 obtain⟨T,hT⟩:=ZnX p0.length
 have hT8:=ok.len8
 have hTN:=ok.task.sites
 rw[hT] at hT8
 have HTL:=ZnV hT
 have HOK0:=ZnV ok
 have hmf:∀ (fn:Fn) (first cap:Array Value) (w:World),(Instr.makeFunc fn first cap).run Tryz.prog w=.ok (.func fn first cap) w:=fun _ _ _ _=>rfl
 obtain⟨G,hG⟩:=ZnX w.heap.size
 obtain⟨w1,hw1⟩:=ZnX (w.alloc (wkO b))
 have hk1:Keeps (NotM m) w w1:=by rw[← hw1];exact(Keeps.refl _ w).alloc _
 have hb1:w1.heap[G]?=some (wkO b):=by rw[← hw1,← hG];exact World.alloc_heap_new w _
 have hgs:∀ u,u<T→gq u<G:=fun u hu=>by rw[← hG];exact(hP.gt (by rw[hT];exact hu)).2
 have hgm:∀ u,u<T→m<gq u:=fun u hu=>(hP.gt (by rw[hT];exact hu)).1
 have hgb:∀ u,u<T→gq u≠b:=fun u hu=>(hP.out.2 u (by rw[hT];exact hu)).1
 have hbG:b<G:=by rw[← hG];exact(Array.getElem?_eq_some_iff.1 hW.blk).1
 have hmG:m<G:=by have:=hm.lt;omega
 have HGQ:=ZnV (And.intro hgs (And.intro hgm hgb))
 have HI:Hid (WorkW t b m sv hv rv pv w1∧PlanO p0 t.sites.length m b pv gq gc w1∧Memo w1 m t 0∧w1.heap[G]?=some (wkO b)∧Keeps (NotG m T gq) w w1):=
  ⟨hW.keep hk1,hP.keep hk1,hm.step (by rw[← hw1];exact(Below.refl _ w).alloc ZnW _),hb1,by rw[← hw1];exact(Keeps.refl _ w).alloc _⟩
 have HGG:=ZnV hG
 clear hW hP hm ok hT hb1 hk1 hgs hgm hgb
 go_enter Tryz.func51,Tryz.ntmps51
 go_wp2_with fail
 clear hw1
 go_loopg [] 384 (fun gf wr=>∃ (p:List (List Int)) (n:Nat),Hid (Za7 t p T≤gf∧n+768*gf≤300000∧PlanOk t p∧p.length=T∧∀ q,GreedyR t p q→GreedyR t p0 q)∧Hid (WorkW t b m sv hv rv pv wr∧PlanO p t.sites.length m b pv gq gc wr∧Memo wr m t n∧wr.heap[G]?=some (wkO b)∧Keeps (NotG m T gq) w wr))
 case atStart=>
  refine⟨p0,0,⟨?_,by decide,HOK0.out,HTL.out,fun q h=>h⟩,HI⟩
  have:=ZeQ HOK0.out T (by rw[HTL.out];exact Nat.le_refl _)
  omega
 case round=>
  obtain⟨p,n,HR,HI⟩:=hrel
  obtain⟨hl1,hl2,hok,hpl,_⟩:=HR.out
  obtain⟨iW,iP,iM,iB,iK⟩:=HI.out
  have hsz:=iK.size
  obtain⟨B2,hB2⟩:=ZnX wr.heap.size
  obtain⟨V1,hV1⟩:=ZnX (wr.alloc (wkO b))
  have hkV:Keeps (fun _=>True) wr V1:=by rw[← hV1];exact(Keeps.refl _ wr).alloc _
  have hbV:Below wr.heap.size wr V1:=by rw[← hV1];exact(Below.refl _ wr).alloc ZnW _
  have hV2:V1.heap[B2]?=some (wkO b):=by rw[← hV1,← hB2];exact World.alloc_heap_new wr _
  have kV:=hkV.mono (S':=NotM m) fun _ _ _=>trivial
  have HBP:=ZnV (ZhE (iW.keep kV) (iP.keep kV) (iM.step hbV) (by omega) hok (hkV.at iB trivial) hV2)
  have HIV:Hid (WorkW t b m sv hv rv pv V1∧PlanO p t.sites.length m b pv gq gc V1∧V1.heap[G]?=some (wkO b)∧Keeps (NotG m T gq) w V1):=⟨iW.keep kV,iP.keep kV,hkV.at iB trivial,iK.trans (hkV.mono fun _ _ _=>trivial)⟩
  have a0:=Za iB 0 (v:=.pointer (some ⟨b,0,none⟩)) rfl
  clear iW iP iM iB iK hkV hbV hV2 kV HI hl1 hl2 hok hpl
  go_wp2_with fail
  refine(Zln b wr).mono ?_
  rintro e w2 ⟨rfl,rfl⟩
  rw[hV1,hB2]
  clear hV1 hB2 a0
  have a0:=Za HIV.out.2.2.1 0 (v:=.pointer (some ⟨b,0,none⟩)) rfl
  go_wp2_with fail
  refine HBP.out.mono ?_
  rintro e w3 ⟨r,mx,x,y,rfl,hB,hr,hk,hM⟩
  have HB:=ZnV hB
  have HM:=ZnV hM
  have HRL:=ZnV hr
  have HW3:=ZnV (HIV.out.1.keep hk)
  have HP3:=ZnV (HIV.out.2.1.keep hk)
  have HG3:Hid (w3.heap[G]?=some (wkO b)):=hk.at HIV.out.2.2.1 (by show G≠m;omega)
  have HK3:Hid (Keeps (NotG m T gq) w w3):=HIV.out.2.2.2.trans (hk.mono fun x _ h=>h.1)
  have hs3:=HK3.out.size
  clear hB hr hk hM HBP HIV a0
  obtain⟨sa,sb,hab⟩:∃ sa sb,ZhK (Zci t p) r=spV sa sb:=by cases r<;>exact⟨_,_,rfl⟩
  rw[hab]
  obtain⟨H,hH⟩:=ZnX w3.heap.size
  obtain⟨w4,hw4⟩:=ZnX ((w3.alloc (spO 0 0)).alloc (pObj ⟨#[]⟩ ⟨#[]⟩))
  have hkA:Keeps (fun _=>True) w3 w4:=by rw[← hw4];exact((Keeps.refl _ w3).alloc _).alloc _
  have hbA:Below w3.heap.size w3 w4:=by rw[← hw4];exact((Below.refl _ w3).alloc ZnW _).alloc (by simp) _
  have g0:w4.heap[H]?=some (spO 0 0):=by
   rw[← hw4,← hH]
   exact(Below.heap_alloc _ _ _ (by simp)).trans (World.alloc_heap_new w3 _)
  have g1:w4.heap[H+1]?=some (pObj ⟨#[]⟩ ⟨#[]⟩):=by
   rw[← hw4,← hH]
   have:=World.alloc_heap_new (w3.alloc (spO 0 0)) (pObj ⟨#[]⟩ ⟨#[]⟩)
   rwa [World.size_alloc] at this
  have c0:=Za g0 0 (v:=.int .i64 0) rfl
  have c1:=Za g0 1 (v:=.int .i64 0) rfl
  have c2:=Za g1 0 (v:=.string ⟨#[]⟩) rfl
  have c3:=Za g1 1 (v:=.string ⟨#[]⟩) rfl
  have f0:=Zc g0 0
  have f1:=Zc g0 1
  have f2:=Zc g1 0
  have f3:=Zc g1 1
  obtain⟨w5,hw5⟩:=ZnX ((((w4.setCell ⟨H,0,none⟩ (.int .i64 sa)).setCell ⟨H,1,none⟩ (.int .i64 sb)).setCell ⟨H+1,0,none⟩ (.string x)).setCell ⟨H+1,1,none⟩ (.string y))
  have hb5:Below w3.heap.size w3 w5:=by
   rw[← hw5]
   exact Zf (Zf hbA (by omega) _ _) (by omega) _ _
  have g5:w5.heap[H]?=some (spO sa sb):=by
   rw[← hw5]
   exact((Below.heap_setCell _ _ _ _ (by show H≠H+1;omega)).trans (Below.heap_setCell _ _ _ _ (by show H≠H+1;omega))).trans (Z5 g0 _ _)
  have HG5:=ZnV (hb5.keepsS (fun _=>True) |>.at HG3.out trivial)
  have HW5:=ZnV (HW3.out.keep (hb5.keepsS _))
  have HP5:=ZnV (HP3.out.keep (hb5.keepsS _))
  have HM5:=ZnV (HM.out.step hb5)
  have HK5:Hid (Keeps (NotG m T gq) w w5):=HK3.out.trans (hb5.keepsS _)
  have HS5:=ZnV g5
  have hs5:H≤w5.heap.size:=by rw[← hH];exact hb5.size
  clear g0 g1 hkA hbA hb5 g5 HG3 HW3 HP3 HM HK3
  obtain⟨okb,hokb⟩:=ZnX r.isSome
  rw[hokb]
  cases okb
  ·obtain rfl:r=none:=by cases r;rfl;cases hokb
   have hdone:GreedyR t p p:=.done HB.out
   go_wp2
   have hR:=HR.out
   try rw[hw5]
   have hM5:=HM5.out
   have hR2:=hR.2.1
   refine bodyPost_ret (results_none rfl _ _ _) rfl ⟨⟨rfl,⟨p,hR.2.2.2.2 p hdone,hR.2.2.1,HP5.out⟩,?_⟩,_,?_,hM5⟩
   ·rw[HTL.out]
    exact HK5.out
   ·omega
  ·obtain⟨k,rfl⟩:∃ k,r=some k:=Option.isSome_iff_exists.1 hokb
   have hBB:=HB.out
   simp only[Option.map_some] at hBB
   obtain⟨y1,y2,y3,_⟩:=hBB.yes _ rfl
   have hR:=HR.out
   obtain⟨j,hj⟩:=ZnX ((Zaq t p).getD k 0)
   have hab':spV ((Zci t p k).1) ((Zci t p k).2)=spV sa sb:=hab
   unfold Zci at hab'
   rw[hj] at hab' y1 y2 hBB
   obtain⟨N,hN⟩:=ZnX t.sites.length
   rw[hN] at hab'
   have hsa:sa=((j/N:Nat):Int):=by injection hab' with e;injection e with e;injection e with e1 e2;injection e1 with _ e3;exact e3.symm
   have hsb:sb=((j % N:Nat):Int):=by injection hab' with e;injection e with e;injection e with e1 e2;injection e2 with e2 _;injection e2 with _ e3;exact e3.symm
   have hu:j/N<T:=by
    rw[← hR.2.2.2.1,hR.2.2.1.teams]
    rw[hN,Nat.mul_comm] at y1
    exact Nat.div_lt_of_lt_mul y1
   have hi:j % N<N:=Nat.mod_lt _ (by omega)
   have hm0:0<mx:=y3
   rw[y2] at hm0
   unfold Zac at hm0
   rw[hN] at hm0
   obtain⟨u,hu'⟩:=ZnX (j/N)
   obtain⟨i,hi'⟩:=ZnX (j % N)
   rw[hu'] at hu hsa hm0
   rw[hi'] at hi hsb hm0
   have hfree:0<Zab t p u:=by
    rcases Int.lt_or_le 0 (Zab t p u) with h | h
    ·exact h
    ·rw[if_neg (by omega)] at hm0
     exact absurd hm0 (Rat.lt_irrefl)
   rw[if_pos hfree] at hm0
   have hrate:=Zg9 hm0
   have hup:u<p.length:=by rw[hR.2.2.2.1];exact hu
   have hiN:i<t.sites.length:=by rw[hN];exact hi
   have hok2:=hR.2.2.1.bump hup hiN hfree hrate
   have Zan:=ZdG hup (by rw[hR.2.2.1.row u hup];exact hiN) hiN hfree T
   rw[if_pos hu] at Zan
   have hstep:∀ q,GreedyR t (bump p u i 1) q→GreedyR t p0 q:=fun q hq=>hR.2.2.2.2 q (.step hBB (by rw[hN,hu',hi'];exact hq))
   have hcell:=HP5.out.out
   have hpn:=(hR.2.2.1.hour u i hup hiN).1
   have hg1:Za7 t (bump p u i 1) T+1≤gk∧n+768*gk≤300000:=by omega
   obtain⟨gk',rfl⟩:∃ z,gk=z+1:=⟨gk-1,by omega⟩
   have HNX:Hid (Za7 t (bump p u i 1) T≤gk'∧n+768+768*gk'≤300000∧PlanOk t (bump p u i 1)∧(bump p u i 1).length=T∧∀ q,GreedyR t (bump p u i 1) q→GreedyR t p0 q):=
    ⟨by omega,by omega,hok2,by rw[Zas];exact hR.2.2.2.1,hstep⟩
   obtain⟨pb,pc,hpv,hPW⟩:=HP5.out.toW (by omega)
   subst hpv
   obtain⟨p1,p2,p3,p4⟩:=hPW.at' u hup
   have p5:=p4 i hiN
   rw[hN] at p1 p2
   rw[Nat.zero_add] at p1 p5
   have hfz:w5.frozen? ⟨gq u,i,none⟩=false:=by
    have:=World.ownsRow.frozenAt (HP5.out.row u hup) i
    exact this
   have d0:=Za HG5.out 0 (v:=.pointer (some ⟨b,0,none⟩)) rfl
   have d1:=Za HW5.out.blk 3 (v:=.slice (some ⟨pb,0,none⟩) p.length pc) rfl
   have d2:=Za HS5.out 0 (v:=.int .i64 sa) rfl
   have d3:=Za HS5.out 1 (v:=.int .i64 sb) rfl
   obtain⟨c,hc⟩:=ZnX (pN p u i)
   rw[hc] at p5 hpn
   obtain⟨q,hq⟩:=ZnX (gq u)
   obtain⟨qc,hqc⟩:=ZnX (gc u)
   obtain⟨L,hL⟩:=ZnX p.length
   rw[hq] at p1 p5 hfz
   rw[hqc] at p1 p2 p3
   rw[hL] at d1
   have hLT:L=T:=by rw[← hL];exact hR.2.2.2.1
   subst hsa
   subst hsb
   have j0:(0:Int)≤(u:Int):=by omega
   have j1:(u:Int)<(L:Int):=by omega
   have j2:(0:Int)≤(i:Int):=by omega
   have j3:(i:Int)<(N:Int):=by omega
   have eW:IntKind.i64.wrap (c+1)=c+1:=IntWalk.i64_in _ (by omega)
   have HQ:=ZnV (And.intro hc hq)
   have HUI:=ZnV (And.intro hup hiN)
   clear HB HRL hokb y1 y2 y3 hBB hab' hab hu' hi' hfree hm0 hrate hok2 Zan hstep hcell hg1 hPW hR hj HR p4 hpn hc hq hqc
   go_wp2
   go_region
   obtain⟨hc,hq⟩:=HQ.out
   obtain⟨w6,hw6⟩:=ZnX ((w5.setCell ⟨q,i,none⟩ (.int .i64 (c+1))).drew)
   have hk6:Keeps (fun z=>z≠q) w5 w6:=by rw[← hw6];exact((Keeps.refl _ w5).setCell (by simp) _).drew
   have hqm:=HGQ.out.2.1 u hu
   have hqb:=HGQ.out.2.2 u hu
   have hqG:=HGQ.out.1 u hu
   rw[hq] at hqm hqb hqG
   have HP6:Hid (PlanO (bump p u i 1) t.sites.length m b (.slice (some ⟨pb,0,none⟩) p.length pc) gq gc w6):=by
    have h:=HP5.out.store hup hiN 1 (x:=c+1) (by rw[hc])
    rw[hq] at h
    rw[← hw6]
    exact h.keep (Keeps.refl _ _).drew
   have HW6:=ZnV (HW5.out.keepS hk6 (fun z hz=>by show z≠q;omega) (fun e=>hqb e.symm))
   have HM6:=ZnV (HM5.out.stay (hk6.block m HM5.out.lt (by show m≠q;omega)))
   have HG6:=ZnV (hk6.at HG5.out (by show G≠q;omega))
   have HK6:Hid (Keeps (NotG m T gq) w w6):=HK5.out.trans (hk6.mono fun z _ hz=>by rw[← hq];exact hz.2 u hu)
   rw[hw6]
   clear hk6 hw6
   go_wp2
   go_roundg gk'
   case measure=>omega
   case rel=>exact⟨bump p u i 1,n+768,HNX,HW6.out,HP6.out,HM6.out,HG6.out,HK6.out⟩
theorem ZiS {t:TaskP} {p0:List (List Int)} {b m:Nat} {sv hv rv pv:Value} {gq gc:Nat→Nat} {w:World} (hW:WorkW t b m sv hv rv pv w) (hP:PlanO p0 t.sites.length m b pv gq gc w) (hm:Memo w m t 0) (ok:PlanOk t p0) :
  Calls Tryz.prog 51 #[.pointer (some ⟨b,0,none⟩)] w (Zfn t p0 b m pv gq gc w):=(Zh3 hW hP hm ok).mono fun _ _ h=>h.1
end Go.Proofs.YtmpaflidennnoaaGreatDoor
