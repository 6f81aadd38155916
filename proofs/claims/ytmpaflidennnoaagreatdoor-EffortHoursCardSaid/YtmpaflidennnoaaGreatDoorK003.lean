/- The parts LawEHours, LawEHoursLift of a proof, put together by program (merge7.py). -/
import Derived.Test.YtmpaflidennnoaaGreatDoorH01
import Derived.Test.YtmpaflidennnoaaGreatDoorH32
import Derived.Test.YtmpaflidennnoaaGreatDoorK001
import Derived.Test.YtmpaflidennnoaaGreatDoorK002
import Derived.Deep.Cut
import Derived.Test.YtmpaflidennnoaaGreatDoorH31
set_option maxRecDepth 100000
set_option maxHeartbeats 8000000
set_option linter.unusedVariables false
set_option linter.unusedSimpArgs false
namespace Go.Proofs.YtmpaflidennnoaaGreatDoor
open Go.RowKit Go.Shelf
attribute [local go_sem ↓] Go.wp_at_zero Go.wp_at_succ
theorem ZhB:∀ (qs:List Rat) (a z:Rat),sumA a qs=some z→z=a+sumF (fun i=>qs.getD i 0) qs.length
 | [],a,z,h=>by
  obtain rfl:=Option.some.inj h
  show a=a+0
  rw[Rat.add_zero]
 | q::qs,a,z,h=>by
  unfold sumA at h
  split at h
  ·have h1:=ZhB qs (a+q) z h
   rw[h1]
   have h2:=ZfX (fun i=>(q::qs).getD i 0) 1 qs.length
   rw[show (q::qs).length=1+qs.length by simp;omega,h2]
   have e:(fun i=>(q::qs).getD (1+i) 0)=fun i=>qs.getD i 0:=funext fun i=>by rw[Nat.add_comm];rfl
   rw[e]
   show a+q+_=a+((0+q)+_)
   grind
  ·cases h
def wtsL (t:TaskP) (k:Nat):List PP:=(t.sites.take k).map fun s=>s.weight
theorem Zff {t:TaskP} {k:Nat} (h:k≤t.sites.length):(wtsL t k).length=k:=by simp[wtsL];omega
theorem Zk0 {t:TaskP} {k:Nat} (h:k<t.sites.length):wtsL t (k+1)=wtsL t k++[(eS t k).weight]:=by
 unfold wtsL
 rw[List.take_add_one,List.getElem?_eq_getElem h,Zdk h]
 simp
theorem Zlm (t:TaskP):sumF (fun i=>(rats (wtsL t t.sites.length)).getD i 0) (rats (wtsL t t.sites.length)).length=sumF (wR t) t.sites.length:=by
 have hl:(rats (wtsL t t.sites.length)).length=t.sites.length:=by simp[rats,Zff (Nat.le_refl _)]
 rw[hl]
 refine Rat.le_antisymm (Zda fun i hi=>?_) (Zda fun i hi=>?_) <;>
 ·have e:(rats (wtsL t t.sites.length)).getD i 0=wR t i:=by
   unfold rats wtsL wR
   rw[List.take_length]
   simp[List.getD,hi,eS]
  rw[e]
  exact Rat.le_refl
abbrev stO7 (s t:ByteArray) (v:Value):Obj:=.cells #[.string s,.string t,v] 74
theorem Zi3:(Tryz.prog.info? 41).map (fun i=>(i.zero,i.size,i.bytes))=some (some (.agg #[.string ⟨#[]⟩,.string ⟨#[]⟩]),2,32):=by kernel_rfl
theorem Zkf {t:TaskP} {p:List (List Int)} {sv hv rv pv:Value} {w:World} (hT:TaskIn t sv hv rv w) (hI:IIL w pv p) (r0 r1:Nat) (hr0:r0<256) (hr1:r1<256) :
  Calls Tryz.prog 10 #[.agg #[sv,hv,rv],pv,.int .u8 r0,.int .u8 r1] w (ZW w true):=by
 obtain⟨np,hnp⟩:∃ n,p.length=n:=⟨_,rfl⟩
 obtain⟨pp,pc,rfl,hpc1,hpc2⟩:=hI.shape hnp
 have HI:=Lib.hid hI
 have HNP:=Lib.hid hnp
 obtain⟨i0,hi,hz0,hz1,hz2⟩:=info_parts Zi3
 clear hI hnp
 obtain⟨ps,cs,rfl,_⟩:=hT.sites.shape rfl
 obtain⟨ph,ch,rfl,_⟩:=hT.hours.shape rfl
 obtain⟨pr,cr,rfl,_⟩:=hT.rates.shape rfl
 obtain⟨ns,hns⟩:∃ n,t.sites.length=n:=⟨_,rfl⟩
 obtain⟨nh,hnh⟩:∃ n,t.hours.length=n:=⟨_,rfl⟩
 obtain⟨nr,hnr⟩:∃ n,t.rates.length=n:=⟨_,rfl⟩
 rw[hns,hnh,hnr] at hT ⊢
 have HT:=Lib.hid hT
 have HNS:=Lib.hid hns
 have HNH:=Lib.hid hnh
 obtain⟨w1,hw1⟩:∃ z,w.alloc (efO (.slice ps ns cs) (.slice ph nh ch) (.slice pr nr cr))=z:=⟨_,rfl⟩
 obtain⟨G,hG⟩:∃ g,w.heap.size=g:=⟨_,rfl⟩
 have HG:=Lib.hid hG
 have HE1:Hid (Env w.heap.size w [(G,efO (.slice ps ns cs) (.slice ph nh ch) (.slice pr nr cr))] [] w1):=by rw[← hw1];exact(Env.start w).push _ hG.symm
 clear hT hns hnh hnr
 go_enter Tryz.func10,Tryz.ntmps10
 go_wp2_with fail
 have hT1:=HT.out.below HE1.out.base (Nat.le_refl _)
 refine(Zjv _ hT1.det hT1.tabs hT1.eff).mono ?_
 rintro e w2 ⟨rfl,hb⟩
 have HE2:=Lib.hid (HE1.out.step hb)
 clear hb HE1 hT1 hw1 hG
 have c0:=HE2.out.cell 0 0 (v:=.slice ps ns cs) rfl rfl
 have c1:=HE2.out.cell 0 1 (v:=.slice ph nh ch) rfl rfl
 have c2:=HE2.out.cell 0 2 (v:=.slice pr nr cr) rfl rfl
 go_wp2_with fail
 refine(Zjt (HT.out.below HE2.out.base (Nat.le_refl _)) 6 3 60 (by decide) (by decide) (by decide)).mono ?_
 rintro e w3 ⟨r,rfl,hS,hb⟩
 have HE3:=Lib.hid (HE2.out.step hb)
 clear hb HE2 c0 c1 c2
 cases r with
 | true=>
  go_wp2
  exact bodyPost_ret (by simp[results,Tryz.f10,go_sem]) rfl ⟨rfl,HE3.out.base⟩
 | false=>
  have HZ:=Lib.hid (hS rfl).lim
  clear hS
  go_wp2_with fail
  refine(Zlg (IIL.stay2 HI.out HE3.out.base (Nat.le_refl _))).mono ?_
  rintro e w4 ⟨r,rfl,hW,hb⟩
  have HE4:=Lib.hid (HE3.out.step hb)
  clear hb HE3 hW
  cases r with
  | true=>
   go_wp2
   exact bodyPost_ret (by simp[results,Tryz.f10,go_sem]) rfl ⟨rfl,HE4.out.base⟩
  | false=>
   have c0:=HE4.out.cell 0 0 (v:=.slice ps ns cs) rfl rfl
   have c1:=HE4.out.cell 0 1 (v:=.slice ph nh ch) rfl rfl
   have c2:=HE4.out.cell 0 2 (v:=.slice pr nr cr) rfl rfl
   go_wp2_with fail
   refine(Zdr (HT.out.below HE4.out.base (Nat.le_refl _)) HZ.out (IIL.stay2 HI.out HE4.out.base (Nat.le_refl _))).mono ?_
   rintro e w5 ⟨x,y,n,rfl,hA,hb⟩
   have HA:=Lib.hid hA
   obtain⟨A,hAs⟩:∃ g,w5.heap.size=g:=⟨_,rfl⟩
   obtain⟨w6,hw6⟩:∃ z,w5.alloc (pObj x y)=z:=⟨_,rfl⟩
   have HE6:Hid (Env w.heap.size w [(A,pObj x y),(G,efO (.slice ps ns cs) (.slice ph nh ch) (.slice pr nr cr))] [] w6):=by rw[← hw6];exact(HE4.out.step hb).push _ hAs.symm
   clear hA hb HE4 c0 c1 c2
   by_cases hn:n=0
   rotate_left
   ·have h0:(n !=0)=true:=by rw[bne_iff_ne];exact hn
    clear hn
    go_wp2
    exact bodyPost_ret (by simp[results,Tryz.f10,go_sem]) rfl ⟨rfl,HE6.out.base⟩
   subst hn
   obtain⟨hok,hx⟩:PlanOk t p∧IsP (valR t p) x y:=by
    rcases HA.out with ⟨_,_,_,h⟩ | ⟨ok,h⟩
    ·cases h
    ·exact⟨ok,h.fine.2⟩
   have HOK:=Lib.hid hok
   have HX:=Lib.hid hx
   have hT8:1≤nh∧nh≤8:=by rw[← HNH.out];exact hok.task.teams
   have hN24:1≤ns∧ns≤24:=by rw[← HNS.out];exact hok.task.sites
   clear hok hx HA
   have c0:=HE6.out.cell 1 0 (v:=.slice ps ns cs) rfl rfl
   have c1:=HE6.out.cell 1 1 (v:=.slice ph nh ch) rfl rfl
   have c2:=HE6.out.cell 1 2 (v:=.slice pr nr cr) rfl rfl
   go_wp2_with fail
   try rw[hw6]
   try rw[hAs]
   clear hw6 hAs
   clear c0 c1 c2
   obtain⟨B0,hB0⟩:∃ z,w6.heap.size=z:=⟨_,rfl⟩
   have HB0:=Lib.hid hB0
   clear hB0
   go_loopw [12,50] (fun uv iv wr=>∃ k:Nat,iv=.int .i64 k∧k≤ns∧Hid (Own wr B0 uv (wtsL t k))∧Hid (Below B0 w6 wr)) (fun _ iv _=>ns-(intOf iv).toNat)
   case atStart=>exact⟨0,rfl,Nat.zero_le _,Own.nil _ _,Below.refl _ _⟩
   case round=>
    obtain⟨k,rfl,hk,HO,HW⟩:=hrel
    have HE:=Lib.hid (HE6.out.after HW.out (by rw[HB0.out];exact Nat.le_refl _))
    have hBw:B0≤wr.heap.size:=by rw[← HB0.out];exact HW.out.size
    by_cases hlt:k<ns
    ·have hkl:k<t.sites.length:=by rw[HNS.out];exact hlt
     obtain⟨b',o,rfl,g1,g2⟩:=HT.out.sites.at Zb6.stays HNS.out (by omega)
     obtain⟨e0,e1,v,e2,hbl⟩:=g2 wr HE.out.base k hkl
     have hsu:=Zk0 hkl
     rw[Zdk hkl] at e0 e1 hbl
     obtain⟨⟨⟨s1,t1⟩,bs⟩,hS⟩:∃ z,eS t k=z:=⟨_,rfl⟩
     rw[hS] at e0 e1 hbl hsu
     dsimp only at e0 e1 hbl hsu
     obtain⟨q,qc,rfl,_⟩:=id hbl
     obtain⟨l,hl⟩:∃ n,bs.length=n:=⟨_,rfl⟩
     rw[hl] at e2
     have HSU:=Lib.hid hsu
     obtain⟨B,hBs⟩:∃ g,wr.heap.size=g:=⟨_,rfl⟩
     obtain⟨V1,hV1⟩:∃ z,wr.alloc (stO7 s1 t1 (.slice q l qc))=z:=⟨_,rfl⟩
     have HE1':Hid (Env w.heap.size w [(B,stO7 s1 t1 (.slice q l qc)),(A,pObj x y),(G,efO (.slice (some ⟨b',o,none⟩) ns cs) (.slice ph nh ch) (.slice pr nr cr))] [] V1):=by rw[← hV1];exact HE.out.push _ hBs.symm
     have d0:=HE1'.out.cell 0 0 (v:=.string s1) rfl rfl
     have d1:=HE1'.out.cell 0 1 (v:=.string t1) rfl rfl
     have hown1:V1.ownsRow B0 41 2 u12 (wtsL t k).length (Za5 (wtsL t k)):=by
      rw[← hV1]
      exact HO.out.alloc _
     have hownA:(V1.alloc (pObj s1 t1)).ownsRow B0 41 2 u12 (wtsL t k).length (Za5 (wtsL t k)):=hown1.alloc _
     have hkk:=Zff (t:=t) (k:=k) (by omega)
     have hm1:(wtsL t k).length+1≤maxLen:=by unfold maxLen;omega
     have hm2:((wtsL t k).length+1)*32≤140737488355328:=by omega
     have hsz1:B0+1≤V1.heap.size:=by rw[← hV1];simp;omega
     have hm3:B0≤(V1.alloc (pObj s1 t1)).heap.size:=by simp;omega
     have hnews:∀ (j:Nat) (z:Value),([.string s1,.string t1]:List Value)[j]?=some z→(V1.alloc (pObj s1 t1)).cell? ((⟨V1.heap.size,0,none⟩:Addr).add j)=some z:=World.news_of_block (World.alloc_heap_new V1 _)
     obtain⟨po,no,co,rfl⟩:∃ p n c,u12=Value.slice p n c:=by
      obtain⟨p,c,h,_⟩:=HO.out.pl
      exact⟨_,_,_,h⟩
     have i0':(0:Int)≤(k:Int):=by omega
     have i1':(k:Int)<(ns:Int):=by omega
     clear g1 g2 hbl hS hl hsu hown1
     go_wp2_with (at_builtin;go_loud (refine wpList_append_own _ rfl (.tmp 54) (.tmp 57) 37 rfl B0 41 i0 (.agg #[.string ⟨#[]⟩,.string ⟨#[]⟩]) 2 32 Tryz.underlying37 hi hz0 hz1 hz2 rfl (by decide) _ (wtsL t k).length (Za5 (wtsL t k)) rfl hownA ⟨V1.heap.size,0,none⟩ 1 1 [.string s1,.string t1] rfl rfl hnews (by simp[Value.oneCell']) hm1 hm2 hm3 ?_);intro v' w4' hown4 hgrow4 _)
     have HO4:Hid (Own w4' B0 v' (wtsL t (k+1))):=by
      show w4'.ownsRow _ _ _ _ _ _
      rw[HSU.out,List.length_append,ZgN]
      exact hown4
     have HW4:Hid (Below B0 w6 w4'):=by
      have h1:Below B0 w6 V1:=by rw[← hV1];exact HW.out.alloc hBw _
      exact(h1.alloc (by omega) (pObj s1 t1)).grown hgrow4 hm3 (fun z hz=>(World.ownsRow.lt hownA z hz).1)
     go_roundw
     case rel=>exact⟨k+1,by go_num,by omega,HO4,HW4⟩
     case measure=>simp[intOf];omega
    ·obtain rfl:k=ns:=by omega
     have hpl:=HO.out.pl
     obtain⟨uq,uc,hu12⟩:∃ p c,u12=Value.slice p k c:=by
      obtain⟨p,c,h,_⟩:=hpl
      rw[Zff (by rw[HNS.out];exact Nat.le_refl _)] at h
      exact⟨_,_,h⟩
     subst hu12
     have HPL:=Lib.hid hpl
     clear hpl
     go_wp2_with fail
     have htb:=(HT.out.below HE.out.base (Nat.le_refl _)).tabs
     have hwt:∀ q ∈ wtsL t k,okP q.1 q.2=true∧q.1.size≤1000000∧q.2.size≤1000000:=fun q hq=>by
      obtain⟨s,hs,rfl⟩:=List.mem_map.1 hq
      have hs':=List.mem_of_mem_take hs
      obtain⟨i,hi,rfl⟩:=List.getElem_of_mem hs'
      rw[Zdk hi]
      have h9:=(Zb8 HOK.out.task hi).1
      exact⟨h9.ok,h9.limit.1,h9.limit.2⟩
     refine(Zkc HPL.out (fun _ q hq=>(hwt q hq).2) htb).mono ?_
     rintro e w20 ⟨hb,hA⟩
     obtain⟨xs,ys,n2,rfl,hsum⟩:∃ (xs ys:ByteArray) (n2:Int),e=.returned (.tuple #[.agg #[.string xs,.string ys],.int .i64 n2])∧(n2=0→IsP (sumF (wR t) t.sites.length) xs ys):=by
      rcases hA with ⟨h1,rfl⟩ | ⟨h1,h2 | h2⟩
      ·exact⟨_,_,_,rfl,fun h=>absurd h h1⟩
      ·obtain⟨z,x9,y9,h3,h4,rfl⟩:=h2
       refine⟨x9,y9,0,rfl,fun _=>?_⟩
       rw[show k=t.sites.length from HNS.out.symm] at h3
       have h5:=ZhB _ _ _ h3
       rw[Zlm,Rat.zero_add] at h5
       rw[← h5]
       exact h4
      ·obtain⟨_,rfl⟩:=h2
       exact⟨_,_,_,rfl,fun h=>by cases h⟩
     have HSUM:=Lib.hid hsum
     obtain⟨B,hBs⟩:∃ g,w20.heap.size=g:=⟨_,rfl⟩
     obtain⟨w21,hw21⟩:∃ z,w20.alloc (pObj xs ys)=z:=⟨_,rfl⟩
     have HE21:Hid (Env w.heap.size w [(B,pObj xs ys),(A,pObj x y),(G,efO (.slice ps k cs) (.slice ph nh ch) (.slice pr nr cr))] [] w21):=by rw[← hw21];exact(HE.out.step hb).push _ hBs.symm
     clear hb hA hsum htb hwt HO HW
     go_upto_region 14 with (fail)
     try rw[hw21]
     try rw[hBs]
     clear hw21 hBs
     go_cut [72] from 65 (fun s72 wc=>s72=.bool false∧Hid (Env w.heap.size w [(A,pObj x y),(G,efO (.slice ps k cs) (.slice ph nh ch) (.slice pr nr cr))] [] wc))
     case first=>
      by_cases hn2:n2=0
      ·subst hn2
       have HXS:=Lib.hid (HSUM.out rfl)
       clear HSUM
       have h00:((0:Int)==0)=true:=rfl
       have d0:=HE21.out.cell 1 0 (v:=.string x) rfl rfl
       have d1:=HE21.out.cell 1 1 (v:=.string y) rfl rfl
       have e0:=HE21.out.cell 0 0 (v:=.string xs) rfl rfl
       have e1:=HE21.out.cell 0 1 (v:=.string ys) rfl rfl
       obtain⟨g,hg⟩:∃ g,sgnR (valR t p) (sumF (wR t) t.sites.length)=g:=⟨_,rfl⟩
       have HGG:=Lib.hid hg
       have hle:¬ (0:Int)<g:=by rw[← hg];exact Zb4 (Ze5 p HOK.out.task)
       clear hg
       go_wp2_with fail
       refine(ZaH HX.out HXS.out HGG.out _).mono ?_
       rintro e w22 ⟨rfl,hb⟩
       have HE22:=Lib.hid ((HE21.out.step hb).only [1,2] _ rfl (by decide))
       clear hb d0 d1 e0 e1 HE21
       go_wp2
       go_meet
       case rel=>first | exact⟨rfl,HE22⟩ | exact⟨trivial,HE22⟩ | exact⟨by rw[decide_eq_false (by omega)],HE22⟩ | exact⟨by simp,HE22⟩
      ·have h00:(n2==0)=false:=by rw[beq_eq_false_iff_ne];exact hn2
       have HE22:=Lib.hid (HE21.out.only [1,2] _ rfl (by decide))
       clear hn2 HE21
       go_wp2
       go_meet
       case rel=>first | exact⟨rfl,HE22⟩ | exact⟨trivial,HE22⟩ | exact⟨by rw[decide_eq_false hle],HE22⟩ | exact⟨by simp,HE22⟩
     case rest=>
      obtain⟨rfl,HE22⟩:=hcut
      clear HE21 HSUM
      have c0:=HE22.out.cell 1 0 (v:=.slice ps k cs) rfl rfl
      have c1:=HE22.out.cell 1 1 (v:=.slice ph nh ch) rfl rfl
      have c2:=HE22.out.cell 1 2 (v:=.slice pr nr cr) rfl rfl
      obtain⟨u,hu⟩:∃ R:Nat,r0 % nh=R:=⟨_,rfl⟩
      obtain⟨i,hi9⟩:∃ R:Nat,r1 % k=R:=⟨_,rfl⟩
      have hul:u<nh:=by rw[← hu];exact Nat.mod_lt _ (by omega)
      have hil:i<k:=by rw[← hi9];exact Nat.mod_lt _ (by omega)
      have hut:Int.tmod (r0:Int) (nh:Int)=(u:Int):=by rw[Int.tmod_eq_emod_of_nonneg (by omega),← hu];omega
      have hit:Int.tmod (r1:Int) (k:Int)=(i:Int):=by rw[Int.tmod_eq_emod_of_nonneg (by omega),← hi9];omega
      have hz1':((nh:Int)==0)=false:=by rw[beq_eq_false_iff_ne];omega
      have hz2':((k:Int)==0)=false:=by rw[beq_eq_false_iff_ne];omega
      have hz3':¬ nh=0:=by omega
      have hz4':¬ k=0:=by omega
      have eW0:IntKind.i64.wrap (r0:Int)=(r0:Int):=IntWalk.i64_in _ (by omega)
      have eW1:IntKind.i64.wrap (r1:Int)=(r1:Int):=IntWalk.i64_in _ (by omega)
      clear hu hi9
      go_wp2_with fail
      refine ZG [(1,0),(1,1),(1,2),(1,3),(1,4),(1,5),(1,6),(1,7),(1,8),(1,9),(1,10),(1,11),(1,12),(1,13)] (fun V=>V=wc.drew) (fun _=>false)
       (by kernel_rfl) (by kernel_rfl) (fun j hj=>rfl) (fun _ _ o _ _ h=>by cases o<;>exact h) rfl ?_
      have c0':wc.drew.cell? ⟨G,0,none⟩=some (.slice ps k cs):=c0
      have c1':wc.drew.cell? ⟨G,1,none⟩=some (.slice ph nh ch):=c1
      iterate 14
       refine Zj _ rfl rfl (fun w' hS=>by subst hS;go_simp;rfl) ?_
       simp only[ZmW,ZmX,ZmY,Act.put,ZmZ,Zm0,Zm1]
      refine Zu ?_
      obtain⟨W3,hW3⟩:∃ z,wc.drew=z:=⟨_,rfl⟩
      have HE3:=Lib.hid HE22.out.drew
      rw[hW3] at HE3 ⊢
      clear hW3 c0 c1 c2 c0' c1' HE22
      have c0:=HE3.out.cell 1 0 (v:=.slice ps k cs) rfl rfl
      have c1:=HE3.out.cell 1 1 (v:=.slice ph nh ch) rfl rfl
      have c2:=HE3.out.cell 1 2 (v:=.slice pr nr cr) rfl rfl
      go_wp2_with fail
      refine(ZkG (u:=u) (i:=i) (HT.out.below HE3.out.base (Nat.le_refl _)) HZ.out (IIL.stay2 HI.out HE3.out.base (Nat.le_refl _))).mono ?_
      rintro e w23 ⟨x1,y1,n1,rfl,hA,hb⟩
      obtain⟨rfl,hx1⟩:n1=0∧IsP (ZU t p u i) x1 y1:=by
       rcases hA with ⟨h,_⟩ | ⟨_,h1,h2⟩
       ·exact absurd ⟨HOK.out,by have:=HNH.out;omega,by have:=HNS.out;omega⟩ h
       ·exact⟨h1,h2⟩
      have HX1:=Lib.hid hx1
      obtain⟨C,hC⟩:∃ g,w23.heap.size=g:=⟨_,rfl⟩
      obtain⟨w24,hw24⟩:∃ z,w23.alloc (pObj x1 y1)=z:=⟨_,rfl⟩
      have HE24:Hid (Env w.heap.size w [(C,pObj x1 y1),(A,pObj x y),(G,efO (.slice ps k cs) (.slice ph nh ch) (.slice pr nr cr))] [] w24):=by rw[← hw24];exact(HE3.out.step hb).push _ hC.symm
      have HM24:Hid (C+1=w24.heap.size):=by
       show C+1=w24.heap.size
       rw[← hw24,← hC]
       simp
      clear hA hb HE3 hx1 c0 c1 c2
      go_wp2_with fail
      try rw[hw24]
      try rw[hC]
      clear hw24 hC
      refine(ZjY (N:=k) (m:=C) (IIL.stay2 HI.out HE24.out.base (Nat.le_refl _)) HOK.out.len8.2 hN24 (fun u h=>(HOK.out.row u h).trans HNS.out) HM24.out).mono ?_
      rintro e w25 ⟨pv,gq,gc,rfl,hP,hb⟩
      obtain⟨pb,pc9,rfl,hPW⟩:=hP.toW HOK.out.len8.1
      have hpl:p.length=nh:=HOK.out.teams.trans HNH.out
      have hup:u<p.length:=by rw[hpl];exact hul
      obtain⟨a1,a2,a3,a4⟩:=hPW.at' u hup
      have a5:=a4 i hil
      rw[Nat.zero_add] at a1 a5
      have hfz:w25.frozen? ⟨gq u,i,none⟩=false:=World.ownsRow.frozenAt (hP.row u hup) i
      have hpu:=(hP.gt hup).1
      have hsn:i<t.sites.length:=by rw[HNS.out];exact hil
      have hhr:=(HOK.out.hour u i hup hsn).1
      have HVB:Hid (valR t (bump p u i 1)=valR t p+ZU t p u i):=Zjl hup (by rw[HOK.out.row u hup];exact hsn) hsn
      obtain⟨c,hc⟩:∃ z,pN p u i=z:=⟨_,rfl⟩
      have hsto:=hP.store hup hil 1 (x:=c+1) (by rw[hc])
      rw[hc] at a5 hhr
      obtain⟨q,hq⟩:∃ z,gq u=z:=⟨_,rfl⟩
      rw[hq] at a1 a5 hfz hpu hsto
      rw[hpl]
      obtain⟨w26,hw26⟩:∃ z,w25.setCell ⟨q,i,none⟩ (.int .i64 (c+1))=z:=⟨_,rfl⟩
      rw[hw26] at hsto
      have hi26:=hsto.toIIL
      rw[hpl] at hi26
      have HI26:=Lib.hid hi26
      have hm24:=HM24.out
      have HE26:=Lib.hid (HE24.out.step (w':=w26) (by rw[← hw26];exact hb.setCell (p:=⟨q,i,none⟩) (by show w24.heap.size≤q;omega) _))
      have eWc:IntKind.i64.wrap (c+1)=c+1:=IntWalk.i64_in _ (by omega)
      have hbk:(u:Int)<(nh:Int):=by omega
      have hbi:(i:Int)<(k:Int):=by omega
      have hbu0:(0:Int)≤(u:Int):=by omega
      have hbi0:(0:Int)≤(i:Int):=by omega
      clear hP hPW a4 hup hsn hc hq hsto hi26 HE24 hb HM24 hm24
      go_upto_region 20 with (fail)
      try rw[hw26]
      clear hw26
      have c0:=HE26.out.cell 2 0 (v:=.slice ps k cs) rfl rfl
      have c1:=HE26.out.cell 2 1 (v:=.slice ph nh ch) rfl rfl
      have c2:=HE26.out.cell 2 2 (v:=.slice pr nr cr) rfl rfl
      go_wp2_with fail
      clear c0 c1 c2
      refine(Zdr (HT.out.below HE26.out.base (Nat.le_refl _)) HZ.out HI26.out).mono ?_
      rintro e w27 ⟨x2,y2,n2,rfl,hA2,hb2⟩
      have HA2:=Lib.hid hA2
      obtain⟨D,hD⟩:∃ g,w27.heap.size=g:=⟨_,rfl⟩
      obtain⟨w28,hw28⟩:∃ z,w27.alloc (pObj x2 y2)=z:=⟨_,rfl⟩
      have HE28:Hid (Env w.heap.size w [(D,pObj x2 y2),(C,pObj x1 y1),(A,pObj x y),(G,efO (.slice ps k cs) (.slice ph nh ch) (.slice pr nr cr))] [] w28):=by rw[← hw28];exact(HE26.out.step hb2).push _ hD.symm
      clear hA2 hb2 HE26 HI26
      by_cases hn2:n2=0
      rotate_left
      ·have h0:(n2 !=0)=true:=by rw[bne_iff_ne];exact hn2
       clear hn2
       go_wp2
       exact bodyPost_ret (by simp[results,Tryz.f10,go_sem]) rfl ⟨rfl,HE28.out.base⟩
      subst hn2
      have hx2:IsP (valR t (bump p u i 1)) x2 y2:=by
       rcases HA2.out with ⟨_,_,_,h⟩ | ⟨ok,h⟩
       ·cases h
       ·exact h.fine.2
      have HX2:=Lib.hid hx2
      obtain⟨g,hg⟩:∃ g,sgnR (valR t p) (valR t (bump p u i 1))=g:=⟨_,rfl⟩
      have HGG:=Lib.hid hg
      have hle:¬ (0:Int)<g:=by
       rw[← hg]
       refine Zb4 ?_
       rw[HVB.out]
       have:=HX1.out.nn
       grind
      have hg0:g≤0:=by omega
      have HFV:Hid (Fits (valR t p+ZU t p u i)):=by
       show Fits _
       rw[← HVB.out]
       exact hx2.fits
      have d0:=HE28.out.cell 2 0 (v:=.string x) rfl rfl
      have d1:=HE28.out.cell 2 1 (v:=.string y) rfl rfl
      have e0:=HE28.out.cell 1 0 (v:=.string x1) rfl rfl
      have e1:=HE28.out.cell 1 1 (v:=.string y1) rfl rfl
      clear hx2 HA2 hg
      go_wp2_with fail
      try rw[hw28]
      try rw[hD]
      clear hw28 hD
      refine(Zdw HX.out HX1.out _ (HT.out.below HE28.out.base (Nat.le_refl _)).tabs).mono ?_
      rintro e w29 ⟨x3,y3,n3,rfl,hA3,hb3⟩
      obtain⟨hx3,rfl⟩:=hA3.fit HFV.out
      obtain⟨rfl,rfl⟩:=ZaN hx3 HX2.out HVB.out.symm
      obtain⟨F,hF⟩:∃ g,w29.heap.size=g:=⟨_,rfl⟩
      obtain⟨w30,hw30⟩:∃ z,w29.alloc (pObj x3 y3)=z:=⟨_,rfl⟩
      have HE30:Hid (Env w.heap.size w [(F,pObj x3 y3),(D,pObj x3 y3),(C,pObj x1 y1),(A,pObj x y),(G,efO (.slice ps k cs) (.slice ph nh ch) (.slice pr nr cr))] [] w30):=by rw[← hw30];exact(HE28.out.step hb3).push _ hF.symm
      clear hA3 hb3 hx3 HE28 d0 d1 e0 e1
      have d0:=HE30.out.cell 3 0 (v:=.string x) rfl rfl
      have d1:=HE30.out.cell 3 1 (v:=.string y) rfl rfl
      have e0:=HE30.out.cell 1 0 (v:=.string x3) rfl rfl
      have e1:=HE30.out.cell 1 1 (v:=.string y3) rfl rfl
      go_wp2_with fail
      try rw[hw30]
      try rw[hF]
      clear hw30 hF
      refine(ZaH HX.out HX2.out HGG.out _).mono ?_
      rintro e w31 ⟨rfl,hb⟩
      have HE31:=Lib.hid (HE30.out.step hb)
      clear hb HE30 d0 d1 e0 e1
      have e0:=HE31.out.cell 1 0 (v:=.string x3) rfl rfl
      have e1:=HE31.out.cell 1 1 (v:=.string y3) rfl rfl
      have f0:=HE31.out.cell 0 0 (v:=.string x3) rfl rfl
      have f1:=HE31.out.cell 0 1 (v:=.string y3) rfl rfl
      go_wp2
      exact bodyPost_ret (by simp[results,Tryz.f10,go_sem]) rfl ⟨rfl,HE31.out.base⟩
end Go.Proofs.YtmpaflidennnoaaGreatDoor
namespace Go.Proofs.YtmpaflidennnoaaGreatDoor
open Go.ChangeShapes Go.WideShapes Go.ChangeAt Go.RowKit
theorem Zhu (os:Os) (started:os.Started) (H:Type) (enc:TypeId×Value→H) :
  ReturnsInHanded {} Tryz.checked os 10 .any (fun w args=>(Rows.effortHoursSpec.pre enc Tryz.prog Tryz.f10 Rows.effortHoursRow.domain false w args∧laidMetH Tryz.prog ZaD w)∧sizedMet enc Tryz.prog Tryz.f10 (OpenSpec.ofChange Rows.effortHoursSpec) false w args)
   (Rows.effortHoursSpec.post enc Tryz.prog Tryz.f10 false true false false):=by
 refine returnsInHanded_of_change_and (C:=Tryz.checked) (X:=fun w _=>laidMetH Tryz.prog ZaD w) (fun _ _ _ hh h=>h.of_heap hh) Zlt started (by kernel_rfl) Tryz.func10
  (ChangeSpec.witness_shaped (enc:=enc) (C:=Tryz.checked) (os:=os) (X:=fun w _=>laidMetH Tryz.prog ZaD w) false (World.laidAll Tryz.prog os ZaD) #[.agg #[.slice none 0 0,.slice none 0 0,.slice none 0 0],.slice none 0 0,.int .u8 0,.int .u8 0] 8 (World.laidAll_os _ _ _)
   (World.shaped_of_ZipB (by kernel_rfl) (by kernel_rfl)) (by kernel_rfl) (by kernel_rfl) (by kernel_rfl) (met9 os _)) ?_
 intro W base args ds gs before hval0 hW hc _ hL _
 have hval:∀ (j:Nat) t v,Tryz.f10.params[j]?=some t→args[j]?=some v→Value.okWide Tryz.prog W .any base t v:=hval0
 have hW':=hW
 obtain⟨p,q,hA0,hV,rfl,_,_⟩:=hW
 have hA:DataW.TrodAll enc Tryz.prog W 0 (fun _=>true) true Tryz.f10.params.toList args.toList ds p:=hA0
 rw[Tryz.params10] at hA hval
 obtain⟨v0,v1,v2,v3,d0,d1,d2,d3,p0,p1,p2,p3,rfl,rfl,rfl,h0,h1,h2,h3⟩:=trodAll_four hA
 obtain⟨rfl,rfl⟩:=trodVars_none hV
 obtain⟨t0,x0,y0,z0,rfl,hT0⟩:=Zl1 (hval 0 _ v0 rfl rfl) h0 hL
 obtain⟨n1,hn1⟩:=ZkU (hval 1 _ v1 rfl rfl) h1
 obtain⟨a2,rfl,rfl,rfl,wa2⟩:=open_int Tryz.underlying5 (hval 2 _ v2 rfl rfl) h2
 have ha2:0≤a2∧a2≤255:=by simpa[Lit.wf,IntKind.min,IntKind.max,IntKind.signed,IntKind.bits] using wa2
 obtain⟨a2,rfl⟩:∃ n:Nat,a2=n:=⟨a2.toNat,by omega⟩
 obtain⟨a3,rfl,rfl,rfl,wa3⟩:=open_int Tryz.underlying5 (hval 3 _ v3 rfl rfl) h3
 have ha3:0≤a3∧a3≤255:=by simpa[Lit.wf,IntKind.min,IntKind.max,IntKind.signed,IntKind.bits] using wa3
 obtain⟨a3,rfl⟩:∃ n:Nat,a3=n:=⟨a3.toNat,by omega⟩
 clear hA0 hval0
 simp only[List.append_nil] at hW'
 refine(Zkf hT0 hn1 a2 a3 (by omega) (by omega)).mono fun e W' ⟨he,bel⟩=>?_
 subst he
 have nx:∀ x ∈ ([]:List MemPlace),x.block<W.heap.size:=fun _ h=>by cases h
 have hlt0:∀ x ∈ p0,x.block<W.heap.size:=fun x hx=>by first | (have:=hW'.lt x hx;simpa using this) | (have:=hW'.lt x (by simp[hx]);simpa using this)
 have hlt1:∀ x ∈ p1,x.block<W.heap.size:=fun x hx=>by first | (have:=hW'.lt x hx;simpa using this) | (have:=hW'.lt x (by simp[hx]);simpa using this)
 refine⟨_,rfl,_,_,_,[],p0++p1,[],hW',?_,?_,?_,bel.frame _,fun h=>by cases h⟩
 ·exact trodAll_mk1 (shut_bool Tryz.underlying4 _)
 ·have h9:=trodAll_mk4 (Below.trod ZdI (by kernel_rfl) (of_decide_eq_true (by kernel_rfl)) h0 bel hlt0) (Below.trod ZdI (by kernel_rfl) (of_decide_eq_true (by kernel_rfl)) h1 bel hlt1) (Below.trod ZdI (by kernel_rfl) (of_decide_eq_true (by kernel_rfl)) h2 bel nx) (Below.trod ZdI (by kernel_rfl) (of_decide_eq_true (by kernel_rfl)) h3 bel nx)
  first | exact h9 | (simp only[List.append_nil,List.nil_append] at h9;exact h9) | (simp only[← List.append_assoc,List.append_nil,List.nil_append] at h9;exact h9) | (simpa using h9)
 ·rfl
end Go.Proofs.YtmpaflidennnoaaGreatDoor
