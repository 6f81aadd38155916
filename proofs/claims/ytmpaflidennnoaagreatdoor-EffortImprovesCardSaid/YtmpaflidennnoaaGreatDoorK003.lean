/- The parts REGain, ECopied, REWith, RETask, REPlan, EffBd, EffHrs, EffD. -/
import Derived.Test.YtmpaflidennnoaaGreatDoorK002
import Derived.Test.YtmpaflidennnoaaGreatDoorH16
set_option maxRecDepth 100000
set_option maxHeartbeats 4000000
set_option linter.unusedVariables false
set_option linter.unusedSimpArgs false
namespace Go.Proofs.YtmpaflidennnoaaGreatDoor
open Go.RowKit Go.Shelf
attribute [local go_sem ↓] Go.wp_at_zero Go.wp_at_succ
structure CopyF (p:List (List Int)) (N m T k:Nat) (wr V2 V3:World) (q0 g cap':Nat) (pq:Option Addr) (pn pcap:Nat) (gq gc:Nat->Nat) (l:List Int):Prop where
 own:V3.ownsRow (m+1) 23 1 (.slice pq pn pcap) (p.take k).length (Zeb N gq gc (p.take k).length)
 news:∀ j u,([Value.slice (some ⟨g,0,none⟩) N cap'])[j]?=some u->V3.cell? ((⟨V2.heap.size,0,none⟩:Addr).add j)=some u
 below:Below wr.heap.size wr V3
 row:V3.ownsRow (m+1) 3 1 (.slice (some ⟨g,0,none⟩) N cap') N (ints l)
 plan:PlanO (p.take k) N m m (.slice pq pn pcap) gq gc V3
 go:∀ u,u<(p.take k).length->gq u≠g
 gp:(Value.slice pq pn pcap).ownBlock≠some g
 mle:m+1<=V3.heap.size
 gm:g≠m
theorem Znu {p:List (List Int)} {N m T k:Nat} {wr V2:World} {q0 g cap':Nat} {pq:Option Addr} {pn pcap:Nat} {gq gc:Nat->Nat} {l:List Int} (h:PlanO (p.take k) N m m (.slice pq pn pcap) gq gc wr) (hq:wr.heap.size=q0) (hgrow:(wr.alloc (.cells #[] 3)).grownBy V2 (Value.slice (some ⟨wr.heap.size,0,none⟩) 0 0).ownBlock)
  (hat:(Value.slice (some ⟨wr.heap.size,0,none⟩) 0 0).ownBlock=some g\/g=wr.heap.size+1) (hown:V2.ownsRow (m+1) 3 1 (.slice (some ⟨g,0,none⟩) N cap') N (ints l)) (hlt:g<V2.heap.size) (hm:m+1<=wr.heap.size) :
  CopyF p N m T k wr V2 (V2.alloc (.cells #[.slice (some ⟨g,0,none⟩) N cap'] 23)) q0 g cap' pq pn pcap gq gc l:=by
 have hB2:Below wr.heap.size wr V2:=((ZoL wr.heap.size wr).alloc ZpA _).grown hgrow Zc (fun z hz=>by cases hz;exact Nat.le_refl _)
 have hB3:Below wr.heap.size wr (V2.alloc (.cells #[.slice (some ⟨g,0,none⟩) N cap'] 23)):=hB2.trans (((ZoL _ V2).alloc ZpA _).mono hB2.size)
 have hg2:wr.heap.size<=g:=by
  rcases hat with h | h
  ·cases h;exact Nat.le_refl _
  ·omega
 have hP3:=h.keep (hB3.keepsS (NotM m))
 refine⟨hP3.outer,Zcv V2 _ _,hB3,ZT hown fun x hx=>Zo1 _ _ _ (ZoZ hown x hx).2,hP3,fun u hu e=>?_,fun e=>?_,by have:=hB3.size;omega,Za⟩
 ·have:=(h.gt hu).2
  omega
 ·have:=(ZoZ h.outer g e).2
  omega
theorem ZhN {p:List (List Int)} {pv0:Value} {N m u i:Nat} {d:Int} {w:World} (hp:IIL w pv0 p) (hpl:p.length<=8) (hN:1<=N/\N<=24) (hrow:∀ u (h:u<p.length),p[u].length=N) (hm:m+1=w.heap.size) (hu:u<p.length) (hiN:i<N) (hd : -1<=d/\d<=1) (h48:0<=pN p u i/\pN p u i<=100) :
  Calls Tryz.prog 57 #[pv0,.int .i64 u,.int .i64 i,.int .i64 d] w (fun e w'=>∃ pv gq gc,e=.returned pv/\PlanO (bump p u i d) N m m pv gq gc w'/\Below w.heap.size w w'):=by
 obtain⟨T,hT⟩:=ZpB p.length
 obtain⟨pp,pc,rfl,hpc1,hpc2⟩:=hp.shape hT
 rw[hT] at hpl
 have HP:=Zpz hp
 have HTT:=Zpz hT
 have HROW:=Zpz hrow
 have HU:=Zpz hu
 obtain⟨i0,hi,hz0,hz1,hz2⟩:=info_parts ZcQ
 obtain⟨i1,hi',hz0',hz1',hz2'⟩:=info_parts Zdb
 have HP0:Hid (PlanO (p.take 0) N m m (.slice none 0 0) (fun _=>0) (fun _=>0) w):=⟨World.ownsRow_nil _ _ _ _,fun u hu=>by simp at hu,fun u v hu=>by simp at hu,by simp[Value.ownBlock],fun u hu=>by simp at hu⟩
 clear hp hT hrow hu
 go_enter Tryz.func57,Tryz.ntmps57
 go_wp2_with fail
 go_loopw [9,10] (fun pvv iv wr=>∃ (k:Nat) (gq gc:Nat->Nat),iv=.int .i64 k/\k<=T/\Hid (PlanO (p.take k) N m m pvv gq gc wr)/\Zpt w wr) (fun _ iv _=>T-(intOf iv).toNat)
 case atStart=>exact⟨0,_,_,rfl,ZoY _,HP0,ZoL _ _⟩
 case round=>
  obtain⟨k,gq,gc,rfl,hk,HK,HB⟩:=hrel
  clear HP0
  by_cases hlt:k<T
  ·have hkl:((p.take k)).length=k:=by rw[Zpr,HTT.out];omega
   have hkp:k<p.length:=by rw[HTT.out];exact hlt
   have HKL:=Zpz hkl
   obtain⟨b0,o0,_,hv9,_,_,hb0,hat⟩:=ZaR (IIL.stay2 HP.out HB.out ZpA) Za
   injection hv9 with z1 z2 z3
   subst z1
   obtain⟨v,d1,d2⟩:=hat k hkp
   have hlen:=HROW.out k hkp
   obtain⟨l,hl⟩:=ZpB (p[k])
   rw[hl] at d2 hlen
   obtain⟨rb,ro,rc,rfl,e1,e2,e3,e4⟩:=ZaR d2 Za
   rw[hlen] at d1
   have HLL:=Zpz (Zpq hl hlen)
   obtain⟨pq,pn,pcap,rfl⟩:∃ p n c,u9=Value.slice p n c:=by
    obtain⟨_,h2⟩:=HK.out.outer
    rcases h2 with ⟨h2,_⟩ | ⟨g,cap,_,h2,_⟩
    ·exact⟨_,_,_,h2⟩
    ·exact⟨_,_,_,h2⟩
   have hml:=Za8 l
   have HB0:Below wr.heap.size wr (wr.alloc (.cells #[] 3)):=(ZoL wr.heap.size wr).alloc ZpA _
   have HC1:∀ j u,(ints l)[j]?=some u->(wr.alloc (.cells #[] 3)).cell? ((⟨rb,ro,none⟩:Addr).add j)=some u:=fun j u hu=>by
    have hj:j<l.length:=by
     have:=(Zo9.1 hu).1
     simpa[Za8] using this
    rw[Zcy hj] at hu
    have h9:=e4 j hj
    unfold IntR at h9
    rw[Zpn] at h9
    rw[Addr.add_lit,<- hu,HB0.cell (p:=⟨rb,ro+j,none⟩) e3,h9]
    simp[List.getD,hj]
   have d1':=(HB0.cell (p:=⟨b0,o0+k*1,none⟩) hb0).trans d1
   rw[Zpn] at d1'
   have hwm:m+1<=wr.heap.size:=by rw[hm];exact HB.out.size
   obtain⟨q0,hq0⟩:=ZpB wr.heap.size
   have HQ0:=Zpz hq0
   have i0':(0:Int)<=(k:Int):=Za
   have i1':(k:Int)<(T:Int):=Za
   clear hat hb0 d2 e4 hl hkl z2 z3 hq0 d1
   go_wp2_with (first | (at_builtin;refine wpList_append_lies _ rfl (.tmp 18) (.tmp 22) 23 rfl (m+1) 3 i1 (.int .i64 0) 1 8 Tryz.underlying23 hi' hz0' hz1' hz2' rfl Zd _ 0 [] rfl (World.ownsRow_lit wr #[] 0 hwm (by simp[maxLen]) rfl) ⟨rb,ro,none⟩ N rc (ints l) rfl (by rw[hml,hlen,Zpn]) HC1 (Zdm _) Za (by unfold maxLen;omega) Za (by simp;omega) (wr.heap.size+1) Zc ?_;intro g cap' V2 hown1 hgrow1 hat1 hlt1;rw[Nat.zero_add,Zps] at hown1;obtain⟨V3,hV3⟩:=ZpB (V2.alloc (.cells #[.slice (some ⟨g,0,none⟩) N cap'] 23));have hfacts:CopyF p N m T k wr V2 V3 q0 g cap' pq pn pcap gq gc l:=(by subst hV3;exact Znu HK.out HQ0.out hgrow1 hat1 hown1 hlt1 hwm);obtain⟨hown2,hnews,hb3,hrow3,hp3,hgo,hgp,hm3,hg3⟩:=hfacts) | (at_builtin;refine wpList_append_lies _ rfl (.tmp 17) (.tmp 24) 29 rfl (m+1) 23 i0 (.slice none 0 0) 1 24 Tryz.underlying29 hi hz0 hz1 hz2 rfl Zd (.slice pq pn pcap) _ _ rfl hown2 ⟨V2.heap.size,0,none⟩ 1 1 [.slice (some ⟨g,0,none⟩) N cap'] rfl rfl hnews (by simp[Value.oneCell']) Zd (by rw[HKL.out];unfold maxLen;omega) (by rw[HKL.out];omega) hm3 V3.heap.size rfl ?_;intro g2 cap2 V4 hown4 hgrow4 hor4 hlt4))
   have hsn:=hp3.snoc hrow3 hg3 hgo hgp Za hown4 hgrow4 (by
    rcases hor4 with h | h
    ·exact .inl (by rw[h];rfl)
    ·exact .inr ⟨g2,rfl,Za⟩)
   have hb4:Below w.heap.size w V4:=(HB.out.trans (hb3.mono HB.out.size)).grown hgrow4 Za (fun x hx=>by have:=(ZoZ hp3.outer x hx).1;omega)
   have e9:p.take k++[l]=p.take (k+1):=by
    rw[List.take_add_one,Zo6 hkp,HLL.out.1]
    rfl
   rw[e9] at hsn
   have hmin:min k p.length=(p.take k).length:=by rw[Zpr]
   rw[hmin]
   refine⟨⟨k+1,_,_,by go_num,Za,hsn,hb4⟩,?_⟩
   simp[intOf]
   omega
  ·obtain rfl:k=T:=Za
   have e:p.take k=p:=by rw[<- HTT.out,List.take_length]
   rw[e] at HK
   have hu0:=HU.out
   obtain⟨pb,pc,rfl,hPW⟩:=HK.out.toW Za
   rw[HTT.out] at HK hPW ⊢
   have hz:=World.ownsRow.frozenAt (HK.out.row u HU.out) i
   obtain⟨a1,a2,a3,a4⟩:=hPW.at' u HU.out
   have a5:=a4 i hiN
   have a6:=hPW.cap
   rw[HTT.out] at a6
   rw[Nat.zero_add] at a1 a5
   have HKH:=Zpz HK.out
   have HBB:=Zpz HB.out
   obtain⟨x,hx⟩:=ZpB (pN p u i)
   obtain⟨q,hq⟩:=ZpB (gq u)
   obtain⟨qc,hqc⟩:=ZpB (gc u)
   have HX:=Zpz hx
   have HQ:=Zpz hq
   rw[hx] at a5 h48
   rw[hq] at a1 a5 hz
   rw[hqc] at a1 a2 a3
   have i0':(0:Int)<=(u:Int):=Za
   have i1':(u:Int)<(k:Int):=by rw[HTT.out] at hu0;omega
   have j0':(0:Int)<=(i:Int):=Za
   have j1':(i:Int)<(N:Int):=Za
   have eW:IntKind.i64.wrap (x+d)=x+d:=Zpm _ Za
   clear HK HB hPW a4 hx hq hqc e hu0
   go_wp2_with fail
   refine ZP [(1,0),(1,1),(1,2),(1,3),(1,4),(1,5),(1,6),(1,7),(1,8),(1,9),(1,10),(1,11),(1,12),(1,13),(1,14),(0,15)] (fun V=>V=wr.drew) (fun i=>i==15)
    Zb Zb (fun j hj=>by have h:16<=j:=hj;simp;omega) Zi rfl ?_
   iterate 15
    refine Zx _ rfl rfl (fun w' hS=>by subst hS;exact Ze) ?_
    simp only[Act.put,Zl]
   refine ZB rfl rfl fun K hK=>?_
   go_simp
   obtain⟨w6,hw6⟩:=ZpB ((wr.setCell ⟨q,i,none⟩ (.int .i64 (x+d))).drew)
   have hk6:Keeps (fun z=>z≠q) wr w6:=by rw[<- hw6];exact((Keeps.refl _ wr).setCell Zc _).drew
   have hgt:=(HKH.out.gt HU.out).1
   rw[HQ.out] at hgt
   have HP6:Hid (PlanO (bump p u i d) N m m (.slice (some ⟨pb,0,none⟩) k pc) gq gc w6):=by
    have h:=HKH.out.store HU.out hiN d (x:=x+d) (by rw[HX.out])
    rw[HQ.out] at h
    rw[<- hw6]
    exact h.keep (Keeps.refl _ _).drew
   have HB6:Zpt w w6:=HBB.out.trans (hk6.below_of (fun c hc=>by show c≠q;omega) HBB.out.size)
   rw[hw6]
   refine hK _ _ (.inl rfl) ?_
   clear hK K hw6 hk6
   refine ZF ?_
   go_wp2
   exact ZoM (by simp[results,Tryz.f57,go_sem]) rfl ⟨_,gq,gc,rfl,HP6.out,HB6.out⟩
def AskB (P:Prop) (w:World) (e:Ending) (w':World):Prop:=∃ r:Bool,e=.returned (.bool r)/\(r=true<->P)/\Below w.heap.size w w'
theorem Zbl {P:Prop} (h:¬ P):(false=true<->P):=⟨fun h2=>(by cases h2),fun h2=>Zpp h2 h⟩
theorem ZfF {a b x:Int} (h:¬ (a<=x/\x<=b)):(decide (a<=x) && decide (x<=b))=false:=by
 rw[<- Bool.not_eq_true]
 simp only[Zpj,Zpk]
 exact h
theorem ZeF {a b x:Int} (h:a<=x/\x<=b):(decide (a<=x) && decide (x<=b))=true:=by simp;exact h
theorem ZlN {t:TaskP} {sv hv rv:Value} {w:World} (h:TaskIn t sv hv rv w) (hz:LimT t) :
  Calls Tryz.prog 52 #[.agg #[sv,hv,rv]] w (AskB (TaskOk t) w):=by
 obtain⟨N,hN⟩:=ZpB t.sites.length
 obtain⟨T,hT⟩:=ZpB t.hours.length
 obtain⟨R,hR⟩:=ZpB t.rates.length
 obtain⟨ps,cs,rfl,hs1,hs2⟩:=h.sites.shape hN
 obtain⟨ph,ch,rfl,hh1,hh2⟩:=h.hours.shape hT
 obtain⟨pr,cr,rfl,hr1,hr2⟩:=h.rates.shape hR
 have HT:=Zpz h
 have HZ:=Zpz hz
 have HN:=Zpz hN
 have HTT:=Zpz hT
 have HR:=Zpz hR
 have HE0:Hid (Env w.heap.size w [(w.heap.size,efO (.slice ps N cs) (.slice ph T ch) (.slice pr R cr))] [] (w.alloc (efO (.slice ps N cs) (.slice ph T ch) (.slice pr R cr)))):=(Env.start w).push _ rfl
 clear h hz hN hT hR
 have b0:=HE0.out.cell 0 0 (v:=.slice ps N cs) rfl rfl
 have b1:=HE0.out.cell 0 1 (v:=.slice ph T ch) rfl rfl
 have b2:=HE0.out.cell 0 2 (v:=.slice pr R cr) rfl rfl
 go_enter Tryz.func52,Tryz.ntmps52
 go_wp2_with fail
 refine(ZdH N 1 24 _).mono ?_
 rintro e w1 ⟨rfl,hb⟩
 have HE1:=Zpz (HE0.out.step hb)
 clear hb HE0 b0 b1 b2
 by_cases hA:1<=N/\N<=24
 rotate_left
 ·have HNO:Hid (¬ TaskOk t):=fun k=>hA (by have:=k.sites;rw[HN.out] at this;exact this)
  rw[ZfF Za]
  clear hA
  go_wp2
  exact ZoM (v:=.bool false) (by simp[results,Tryz.f52,go_sem]) rfl ⟨false,rfl,Zbl (HNO.out),HE1.out.base⟩
 rw[ZeF Za]
 have b0:=HE1.out.cell 0 0 (v:=.slice ps N cs) rfl rfl
 have b1:=HE1.out.cell 0 1 (v:=.slice ph T ch) rfl rfl
 have b2:=HE1.out.cell 0 2 (v:=.slice pr R cr) rfl rfl
 go_wp2_with fail
 refine(ZdH T 1 8 _).mono ?_
 rintro e w2 ⟨rfl,hb⟩
 have HE2:=Zpz (HE1.out.step hb)
 clear hb HE1 b0 b1 b2
 by_cases hB:1<=T/\T<=8
 rotate_left
 ·have HNO:Hid (¬ TaskOk t):=fun k=>hB (by have:=k.teams;rw[HTT.out] at this;exact this)
  rw[ZfF Za]
  clear hB
  go_wp2
  exact ZoM (v:=.bool false) (by simp[results,Tryz.f52,go_sem]) rfl ⟨false,rfl,Zbl (HNO.out),HE2.out.base⟩
 rw[ZeF Za]
 have b0:=HE2.out.cell 0 0 (v:=.slice ps N cs) rfl rfl
 have b1:=HE2.out.cell 0 1 (v:=.slice ph T ch) rfl rfl
 have b2:=HE2.out.cell 0 2 (v:=.slice pr R cr) rfl rfl
 by_cases hC:R=T
 rotate_left
 ·have HNO:Hid (¬ TaskOk t):=fun k=>hC (by have:=k.rates;rw[HR.out,HTT.out] at this;exact this)
  have hc:((R:Int) !=(T:Int))=true:=by rw[bne_iff_ne];omega
  clear hC
  go_wp2
  exact ZoM (v:=.bool false) (by simp[results,Tryz.f52,go_sem]) rfl ⟨false,rfl,Zbl (HNO.out),HE2.out.base⟩
 subst hC
 have hc:((R:Int) !=(R:Int))=false:=Zc
 go_wp2_with fail
 clear b0 b1 b2 hc
 go_loopw [3] (fun iv wr=>∃ k:Nat,iv=.int .i64 k/\k<=N/\Hid (∀ i,i<k->Zw 9 (eS t i).weight=true/\CurveP (eS t i).curve)/\Hid (Env w.heap.size w [(w.heap.size,efO (.slice ps N cs) (.slice ph R ch) (.slice pr R cr))] [] wr)) (fun iv _=>N-(intOf iv).toNat)
 case atStart=>exact⟨0,rfl,ZoY _,fun i h=>Zpp h (Zpb _),HE2⟩
 case round=>
  obtain⟨k,rfl,hk,HK,HE⟩:=hrel
  clear HE2
  have b0:=HE.out.cell 0 0 (v:=.slice ps N cs) rfl rfl
  have b1:=HE.out.cell 0 1 (v:=.slice ph R ch) rfl rfl
  have b2:=HE.out.cell 0 2 (v:=.slice pr R cr) rfl rfl
  by_cases hlt:k<N
  ·obtain⟨sb,so,rfl,hsb,hat⟩:=HT.out.sites.at Zc3.stays HN.out Za
   have hkl:k<t.sites.length:=by rw[HN.out];exact hlt
   have HAT:Hid (∀ V,Below w.heap.size w V->Zc3 V sb (so+k*3) (eS t k)):=fun V hV=>by rw[<- Zfr hkl];exact hat V hV k hkl
   obtain⟨e0,e1,v,e2,hbl⟩:=HAT.out wr HE.out.base
   obtain⟨⟨hz1,hz2⟩,hzb⟩:=HZ.out.1 _ (Zpc hkl)
   rw[Zfr hkl] at hz1 hz2 hzb
   obtain⟨⟨s1,t1⟩,hs1'⟩:∃ z,(eS t k).weight=z:=⟨_,rfl⟩
   rw[hs1'] at e0 e1 hz1 hz2
   have HSW:=Zpz hs1'
   have HZB:=Zpz hzb
   dsimp only at e0 e1 hz1 hz2
   have i0':(0:Int)<=(k:Int):=Za
   have i1':(k:Int)<(N:Int):=Za
   clear hat hbl hzb hs1' e2
   go_wp2_with fail
   refine(ZfT 9 s1 t1 hz1 hz2 _).mono ?_
   rintro e w4 ⟨rfl,hb⟩
   have HE4:=Zpz (HE.out.step hb)
   clear hb e0 e1 b0 b1 b2 HE
   obtain⟨_,_,v,e2,hbl⟩:=HAT.out w4 HE4.out.base
   obtain⟨pq,cq,rfl,_⟩:=id hbl
   obtain⟨nq,hnq⟩:=ZpB ((eS t k).curve.length)
   rw[hnq] at e2 hbl
   have b0:=HE4.out.cell 0 0 (v:=.slice (some ⟨sb,so,none⟩) N cs) rfl rfl
   obtain⟨r1,hr1⟩:=ZpB (Zw 9 (s1,t1))
   rw[hr1]
   have HBL:=Zpz hbl
   have HSM:=Zpz hr1
   clear hnq hr1 hbl
   go_wp2_with fail
   refine(Zgx HBL.out HZB.out).mono ?_
   rintro e w5 ⟨r2,rfl,hr2,hb⟩
   have HE5:=Zpz (HE4.out.step hb)
   have HR2:=Zpz hr2
   clear hb e2 b0 HE4 hr2
   cases r1 with
   | false=>
    have HNO:Hid (¬ TaskOk t):=fun h=>by
     have:=(h.site k (by rw[HN.out];exact hlt)).1
     rw[HSW.out,HSM.out] at this
     cases this
    go_wp2
    exact ZoM (v:=.bool false) (by simp[results,Tryz.f52,go_sem]) rfl ⟨false,rfl,Zbl (HNO.out),HE5.out.base⟩
   | true=>
    cases r2 with
    | false=>
     have HNO:Hid (¬ TaskOk t):=fun h=>by
      have:=HR2.out.2 (h.site k (by rw[HN.out];exact hlt)).2
      cases this
     go_wp2
     exact ZoM (v:=.bool false) (by simp[results,Tryz.f52,go_sem]) rfl ⟨false,rfl,Zbl (HNO.out),HE5.out.base⟩
    | true=>
     have HK2:Hid (∀ i,i<k+1->Zw 9 (eS t i).weight=true/\CurveP (eS t i).curve):=fun i hi=>by
      rcases ZoR i k with h | h
      ·exact HK.out i h
      ·obtain rfl:i=k:=Za
       exact⟨by rw[HSW.out];exact HSM.out,HR2.out.1 rfl⟩
     go_wp2
     go_roundw
     case rel=>exact⟨k+1,by go_num,Za,HK2,HE5⟩
     case measure=>exact Zj
  ·have hkN:k=N:=Za
   have HSI:Hid (∀ i,i<N->Zw 9 (eS t i).weight=true/\CurveP (eS t i).curve):=by rw[<- hkN];exact HK.out
   clear HK hkN
   go_wp2_with fail
   clear b0 b1 b2
   go_loopw [6] (fun iv wr=>∃ u:Nat,iv=.int .i64 u/\u<=R/\Hid (∀ v (h:v<t.rates.length),v<u->(0<=eH t v/\eH t v<=48)/\t.rates[v].length=N/\∀ i,i<N->Zw 9 (eR t v i)=true)/\Hid (Env w.heap.size w [(w.heap.size,efO (.slice ps N cs) (.slice ph R ch) (.slice pr R cr))] [] wr)) (fun iv _=>R-(intOf iv).toNat)
   case atStart=>exact⟨0,rfl,ZoY _,fun v _ h=>Zpp h (Zpb _),HE⟩
   case round=>
    clear HE
    obtain⟨u,rfl,hu,HU,HE⟩:=hrel
    by_cases hlt2:u<R
    ·obtain⟨rb,ro,rfl,hrb,hrat⟩:=HT.out.rates.at PPL.stays HR.out Za
     obtain⟨hb',ho,rfl,hhb,hhat⟩:=HT.out.hours.at IntR.stays HTT.out Za
     have hul:u<t.rates.length:=by rw[HR.out];exact hlt2
     have hul2:u<t.hours.length:=by rw[HTT.out];exact hlt2
     obtain⟨q,g1,g2⟩:=hrat w (ZoL _ w) u hul
     rw[Zpn] at g1
     obtain⟨l,hl⟩:=ZpB (t.rates[u].length)
     obtain⟨pl,cl,rfl,_,_,_⟩:=id g2
     rw[hl] at g1 g2
     have HL:=Zpz hl
     have HRA:Hid (∀ V,Below w.heap.size w V->V.cell? ⟨rb,ro+u,none⟩=some (.slice pl l cl)/\PL V (.slice pl l cl) t.rates[u]):=fun V hV=>⟨(hV.cell hrb).trans g1,g2.after hV ZpA⟩
     have HHA:Hid (∀ V,Below w.heap.size w V->V.cell? ⟨hb',ho+u,none⟩=some (.int .i64 (eH t u))):=fun V hV=>by
      have e1:=hhat _ hV u hul2
      unfold IntR at e1
      rw[Zpn,ZiW hul2] at e1
      exact e1
     have HZL:=Zpz (HZ.out.2 _ (Zpc hul))
     obtain⟨hh,hhh⟩:=ZpB (eH t u)
     rw[hhh] at HHA
     have HHH:=Zpz hhh
     have i0':(0:Int)<=(u:Int):=Za
     have i1':(u:Int)<(R:Int):=Za
     clear hrat hhat hhh g1 g2 hl
     have b0:=HE.out.cell 0 0 (v:=.slice ps N cs) rfl rfl
     have b1:=HE.out.cell 0 1 (v:=.slice (some ⟨hb',ho,none⟩) R ch) rfl rfl
     have b2:=HE.out.cell 0 2 (v:=.slice (some ⟨rb,ro,none⟩) R cr) rfl rfl
     go_wp2_with fail
     refine ZP [(1,0),(1,1),(1,2),(1,3),(1,4),(0,5),(1,6),(1,7),(1,8),(1,9),(1,10),(1,11),(1,12),(1,13),(1,14),(1,15),(1,16),(1,17),(1,18)] (Env w.heap.size w [(w.heap.size,efO (.slice ps N cs) (.slice (some ⟨hb',ho,none⟩) R ch) (.slice (some ⟨rb,ro,none⟩) R cr))] []) (fun _=>false)
      Zb Zb (fun j hj=>rfl) Zi HE.out.drew ?_
     obtain⟨w4,hw4⟩:=ZpB wr.drew
     have HE4:=Zpz HE.out.drew
     rw[hw4] at HE4 ⊢
     clear hw4 HE
     iterate 5
      refine Zx _ rfl rfl (fun w' hS=>by have b1:=hS.cell 0 1 (v:=.slice (some ⟨hb',ho,none⟩) R ch) rfl rfl;have e1:=HHA.out _ hS.base;exact Ze) ?_
      simp only[Act.put,Zl]
     refine Zz 79 _ rfl rfl Zf ?_
     have HEC:=HE4
     refine(ZdH hh 0 48 _).mono ?_
     rintro e w5 ⟨rfl,hb⟩
     have HE5:=Zpz (HEC.out.step hb)
     refine .inl ⟨_,rfl,HE5.out,?_⟩
     clear hb HEC
     simp only[Act.put,Zl]
     by_cases hw:0<=hh/\hh<=48
     rotate_left
     ·have HNO:Hid (¬ TaskOk t):=fun h=>hw (by have:=(h.team u hul).1;rw[HHH.out] at this;exact this)
      rw[ZfF hw]
      clear hw
      iterate 2
       refine Zx _ rfl rfl (fun w' hS=>Ze) ?_
       simp only[Act.put,Zl]
      iterate 10
       refine Zci rfl rfl ?_
       simp only[Act.put,Zl]
      iterate 1
       refine Zx _ rfl rfl (fun w' hS=>Ze) ?_
       simp only[Act.put,Zl]
      refine ZF ?_
      go_wp2
      exact ZoM (v:=.bool false) (by simp[results,Tryz.f52,go_sem]) rfl ⟨false,rfl,Zbl (HNO.out),HE5.out.base⟩
     rw[ZeF hw]
     iterate 13
      refine Zx _ rfl rfl (fun w' hS=>by have b0:=hS.cell 0 0 (v:=.slice ps N cs) rfl rfl;have b2:=hS.cell 0 2 (v:=.slice (some ⟨rb,ro,none⟩) R cr) rfl rfl;have e2:=(HRA.out _ hS.base).1;exact Ze) ?_
      simp only[Act.put,Zl]
     refine ZF ?_
     by_cases hD:l=N
     rotate_left
     ·have HNO:Hid (¬ TaskOk t):=fun h=>hD (by have:=(h.team u hul).2.1;rw[HL.out,HN.out] at this;exact this)
      have hc:((l:Int) !=(N:Int))=true:=by rw[bne_iff_ne];omega
      clear hD
      go_wp2
      exact ZoM (v:=.bool false) (by simp[results,Tryz.f52,go_sem]) rfl ⟨false,rfl,Zbl (HNO.out),HE5.out.base⟩
     subst hD
     have hc:((l:Int) !=(l:Int))=false:=Zc
     rw[hc]
     obtain⟨c,o,_,hv9,_,_,hcl,hpat⟩:=Zem (HRA.out _ (ZoL _ w)).2 (by rw[HL.out];omega)
     injection hv9 with x1 x2 x3
     subst x1
     have HPA:Hid (∀ V,Below w.heap.size w V->PAt V c o t.rates[u]):=fun V hV=>hpat.below hV hcl
     clear HE4 hpat x2 x3
     clear hc
     go_wp2_with fail
     go_loopw [7] (fun iv wx=>∃ i:Nat,iv=.int .i64 i/\i<=l/\Hid (∀ j,j<i->Zw 9 (eR t u j)=true)/\Hid (Env w.heap.size w [(w.heap.size,efO (.slice ps l cs) (.slice (some ⟨hb',ho,none⟩) R ch) (.slice (some ⟨rb,ro,none⟩) R cr))] [] wx)) (fun iv _=>l-(intOf iv).toNat)
     case atStart=>exact⟨0,rfl,ZoY _,fun j h=>Zpp h (Zpb _),HE5⟩
     case round=>
      clear HE5
      obtain⟨i,rfl,hi,HI,HE⟩:=hrel
      have b0:=HE.out.cell 0 0 (v:=.slice ps l cs) rfl rfl
      have b2:=HE.out.cell 0 2 (v:=.slice (some ⟨rb,ro,none⟩) R cr) rfl rfl
      by_cases hlt3:i<l
      ·have hil:i<t.rates[u].length:=by rw[HL.out];exact hlt3
       obtain⟨e2,_⟩:=HRA.out _ HE.out.base
       obtain⟨f0,f1⟩:=HPA.out _ HE.out.base i hil
       have hzz:=HZL.out _ (Zpc hil)
       rw[ZgP hul hil] at f0 f1 hzz
       obtain⟨⟨s1,t1⟩,hs1'⟩:∃ z,eR t u i=z:=⟨_,rfl⟩
       rw[hs1'] at f0 f1 hzz
       have HRR:=Zpz hs1'
       dsimp only at f0 f1 hzz
       obtain⟨hz1,hz2⟩:=hzz
       have j0':(0:Int)<=(i:Int):=Za
       have j1':(i:Int)<(l:Int):=Za
       clear hs1'
       go_wp2_with fail
       refine(ZfT 9 s1 t1 hz1 hz2 _).mono ?_
       rintro e w6 ⟨rfl,hb⟩
       have HE6:=Zpz (HE.out.step hb)
       clear hb e2 f0 f1 b0 b2 HE
       cases hsm:Zw 9 (s1,t1)
       ·have HNO:Hid (¬ TaskOk t):=fun h=>by
         have h3:=(h.team u hul).2.2 i (by rw[HN.out];exact hlt3)
         rw[HRR.out,hsm] at h3
         cases h3
        clear hsm
        go_wp2
        exact ZoM (v:=.bool false) (by simp[results,Tryz.f52,go_sem]) rfl ⟨false,rfl,Zbl (HNO.out),HE6.out.base⟩
       ·have HI2:Hid (∀ j,j<i+1->Zw 9 (eR t u j)=true):=fun j hj=>by
         rcases ZoR j i with h | h
         ·exact HI.out j h
         ·obtain rfl:j=i:=Za
          rw[HRR.out]
          exact hsm
        clear hsm
        go_wp2
        go_roundw
        case rel=>exact⟨i+1,by go_num,Za,HI2,HE6⟩
        case measure=>exact Zj
      ·have HU2:Hid (∀ v (h:v<t.rates.length),v<u+1->(0<=eH t v/\eH t v<=48)/\t.rates[v].length=l/\∀ i,i<l->Zw 9 (eR t v i)=true):=fun v hv hvu=>by
        rcases ZoR v u with h | h
        ·exact HU.out v hv h
        ·obtain rfl:v=u:=Za
         exact⟨by rw[HHH.out];exact hw,HL.out,fun j hj=>HI.out j Za⟩
       clear hw
       go_wp2
       go_roundw
       case rel=>exact⟨u+1,by go_num,Za,HU2,HE⟩
       case measure=>exact Zj
    ·have HYES:Hid (TaskOk t):=by
      have huR:u=R:=Za
      refine⟨by rw[HN.out];exact hA,by rw[HTT.out];exact hB,by rw[HR.out,HTT.out],fun i hi=>HSI.out i (by rw[<- HN.out];exact hi),fun v hv=>?_⟩
      obtain⟨h1,h2,h3⟩:=HU.out v hv (by rw[huR,<- HR.out];exact hv)
      exact⟨h1,by rw[HN.out];exact h2,fun i hi=>h3 i (by rw[<- HN.out];exact hi)⟩
     have b0:=HE.out.cell 0 0 (v:=.slice ps N cs) rfl rfl
     have b1:=HE.out.cell 0 1 (v:=.slice ph R ch) rfl rfl
     have b2:=HE.out.cell 0 2 (v:=.slice pr R cr) rfl rfl
     go_wp2
     exact ZoM (v:=.bool true) (by simp[results,Tryz.f52,go_sem]) rfl ⟨true,rfl,⟨fun _=>HYES.out,fun _=>rfl⟩,HE.out.base⟩
theorem Zji {t:TaskP} (ok:TaskOk t) {u i:Nat} (hu:u<t.rates.length) (hi:i<t.sites.length):((eR t u i).1.toList==[48])=decide (rR t u i=0):=by
 obtain⟨_,_,ho⟩:=Zaj.1 ((ok.team u hu).2.2 i hi)
 obtain⟨a1,a2,a3⟩:=Za3 ho
 have hz:=Zc2 (Zc0.1 ho).1
 by_cases h:rR t u i=0
 ·rw[decide_eq_true h]
  have h0:Zq (eR t u i).1.data.toList=0:=by
   rw[a2]
   show (rR t u i).num.toNat=0
   rw[h]
   rfl
  rw[hz.2 h0,Zo8]
  rfl
 ·rw[decide_eq_false h,beq_eq_false_iff_ne,Zo8]
  intro hc
  have h1:Zq (eR t u i).1.data.toList=0:=by rw[hc];rfl
  rw[a2] at h1
  have h2:0<=(rR t u i).num:=Rat.num_nonneg.2 a1
  exact h (Rat.num_eq_zero.1 (by have h3:(rR t u i).num.toNat=0:=h1;omega))
theorem Zl5 {t:TaskP} {p:List (List Int)} {sv hv rv pv:Value} {w:World} (h:TaskIn t sv hv rv w) (hz:LimT t) (hI:IIL w pv p) :
  Calls Tryz.prog 72 #[.agg #[sv,hv,rv],pv] w (AskB (PlanOk t p) w):=by
 obtain⟨N,hN⟩:=ZpB t.sites.length
 obtain⟨H,hH⟩:=ZpB t.hours.length
 obtain⟨R,hR⟩:=ZpB t.rates.length
 obtain⟨T,hT⟩:=ZpB p.length
 obtain⟨ps,cs,rfl,hs1,hs2⟩:=h.sites.shape hN
 obtain⟨ph,ch,rfl,hh1,hh2⟩:=h.hours.shape hH
 obtain⟨pr,cr,rfl,hr1,hr2⟩:=h.rates.shape hR
 obtain⟨pp,cp,rfl,hp1,hp2⟩:=hI.shape hT
 have HT:=Zpz h
 have HZ:=Zpz hz
 have HP:=Zpz hI
 have HN:=Zpz hN
 have HHL:=Zpz hH
 have HRL:=Zpz hR
 have HTL:=Zpz hT
 have HE0:Hid (Env w.heap.size w [(w.heap.size,efO (.slice ps N cs) (.slice ph H ch) (.slice pr R cr))] [] (w.alloc (efO (.slice ps N cs) (.slice ph H ch) (.slice pr R cr)))):=(Env.start w).push _ rfl
 clear h hz hN hH hR hT hI
 go_enter Tryz.func72,Tryz.ntmps72
 go_wp2_with fail
 refine(ZlN (HT.out.below HE0.out.base ZpA) HZ.out).mono ?_
 rintro e w1 ⟨r,rfl,hr,hb⟩
 have HE1:=Zpz (HE0.out.step hb)
 have HRR:=Zpz hr
 clear hb hr HE0
 cases r with
 | false=>
  have HNO:Hid (¬ PlanOk t p):=fun k=>by have:=HRR.out.2 k.task;cases this
  go_wp2
  exact ZoM (v:=.bool false) (by simp[results,Tryz.f72,go_sem]) rfl ⟨false,rfl,Zbl (HNO.out),HE1.out.base⟩
 | true=>
 have HOK:Hid (TaskOk t):=HRR.out.1 rfl
 have b1:=HE1.out.cell 0 1 (v:=.slice ph H ch) rfl rfl
 by_cases hTH:T=H
 rotate_left
 ·have HNO:Hid (¬ PlanOk t p):=fun k=>hTH (by have:=k.teams;rw[HTL.out,HHL.out] at this;exact this)
  have hc:((T:Int) !=(H:Int))=true:=by rw[bne_iff_ne];omega
  clear hTH
  go_wp2
  exact ZoM (v:=.bool false) (by simp[results,Tryz.f72,go_sem]) rfl ⟨false,rfl,Zbl (HNO.out),HE1.out.base⟩
 subst hTH
 have hc:((T:Int) !=(T:Int))=false:=Zc
 have hRT:R=T:=by rw[<- HRL.out,HOK.out.rates,HHL.out]
 subst hRT
 obtain⟨sb,so,sc,hb',ho,hc',rb,ro,rk,cv,rq,rp,rc,es,eh,er,k1,k2,k3,hA⟩:=HT.out.open HOK.out
 rw[HN.out] at es
 rw[HHL.out] at eh
 rw[HRL.out] at er
 injection es with es1 es2 es3
 injection eh with eh1 eh2 eh3
 injection er with er1 er2 er3
 subst es1 eh1 er1
 have HA:=Zpz hA
 have hN24:1<=N/\N<=24:=by rw[<- HN.out];exact HOK.out.sites
 have hT8:1<=R/\R<=8:=by rw[<- HHL.out];exact HOK.out.teams
 clear hA k1 k2 k3 es2 es3 eh2 eh3 er2 er3
 go_wp2_with fail
 clear b1 hc
 go_loopw [6] (fun iv wr=>∃ k:Nat,iv=.int .i64 k/\k<=R/\Hid (∀ u,u<k->(p.getD u []).length=N/\(∀ i,i<N->Zbm t p u i)/\ZX p u N<=eH t u)/\Hid (Env w.heap.size w [(w.heap.size,efO (.slice (some ⟨sb,so,none⟩) N cs) (.slice (some ⟨hb',ho,none⟩) R ch) (.slice (some ⟨rb,ro,none⟩) R cr))] [] wr)) (fun iv _=>R-(intOf iv).toNat)
 case atStart=>exact⟨0,rfl,ZoY _,fun i h=>Zpp h (Zpb _),HE1⟩
 case round=>
  clear HE1
  obtain⟨u,rfl,hu,HU,HE⟩:=hrel
  by_cases hlt:u<R
  ·obtain⟨qb,qo,rfl,hqb,hat⟩:=HP.out.at IIL.stays HTL.out Za
   have hul:u<p.length:=by rw[HTL.out];exact hlt
   obtain⟨v,e0',hil⟩:=hat w (ZoL _ w) u hul
   rw[Zpn] at e0'
   obtain⟨l,hl⟩:=ZpB (p[u])
   rw[hl] at hil
   obtain⟨n,hn⟩:=ZpB l.length
   obtain⟨lp,lc,rfl,hlc1,hlc2⟩:=hil.shape hn
   have HL:Hid (p.getD u []=l):=by show _=_;rw[<- hl];simp[List.getD,hul]
   have HLG:Hid (p[u]'(hul)=l):=hl
   have HNN:=Zpz hn
   have HIL:Hid (∀ V,Below w.heap.size w V->IL V (.slice lp n lc) l):=fun V hV=>hil.after IntR.stays hV ZpA
   have HROW:Hid (∀ V,Below w.heap.size w V->V.cell? ⟨qb,qo+u,none⟩=some (.slice lp n lc)):=fun V hV=>(hV.cell (p:=⟨qb,qo+u,none⟩) hqb).trans e0'
   have i0':(0:Int)<=(u:Int):=Za
   have i1':(u:Int)<(R:Int):=Za
   clear hat hl hn hil e0'
   go_wp2_with fail
   refine ZP [(1,0),(1,1),(1,2),(1,3),(1,4),(1,5),(1,6),(1,7),(1,8)] (Env w.heap.size w [(w.heap.size,efO (.slice (some ⟨sb,so,none⟩) N cs) (.slice (some ⟨hb',ho,none⟩) R ch) (.slice (some ⟨rb,ro,none⟩) R cr))] []) (fun _=>false)
    Zb Zb (fun _ _=>rfl) Zi HE.out.drew ?_
   obtain⟨w4,hw4⟩:=ZpB wr.drew
   have HE4:=Zpz HE.out.drew
   rw[hw4] at HE4 ⊢
   clear hw4 HE
   iterate 9
    refine Zx _ rfl rfl (fun w' hS=>by have b0:=hS.cell 0 0 (v:=.slice (some ⟨sb,so,none⟩) N cs) rfl rfl;have e0:=HROW.out _ hS.base;exact Ze) ?_
    simp only[Act.put,Zl]
   refine ZF ?_
   by_cases hnN:n=N
   rotate_left
   ·have HNO:Hid (¬ PlanOk t p):=fun k=>hnN (by have:=k.row u hul;rw[HLG.out,HNN.out,HN.out] at this;exact this)
    have hc:((n:Int) !=(N:Int))=true:=by rw[bne_iff_ne];omega
    clear hnN
    go_wp2
    exact ZoM (v:=.bool false) (by simp[results,Tryz.f72,go_sem]) rfl ⟨false,rfl,Zbl (HNO.out),HE4.out.base⟩
   subst hnN
   rw[show ((n:Int) !=(n:Int))=false by simp]
   obtain⟨lb,lo,rfl,hlb,hlat⟩:=(HIL.out w (ZoL _ _)).at IntR.stays HNN.out Za
   have HLA:Hid (∀ V,Below w.heap.size w V->∀ j,j<n->V.cell? ⟨lb,lo+j,none⟩=some (.int .i64 (pN p u j))):=fun V hV j hj=>by
    have h1:=hlat V hV j (by rw[HNN.out];exact hj)
    unfold IntR at h1
    rw[Zpn] at h1
    rw[show pN p u j=l[j]'(by rw[HNN.out];exact hj) by unfold pN;rw[HL.out];simp[List.getD,HNN.out,hj]]
    exact h1
   have HRT:Hid (∀ i,i<n->∀ V,Below w.heap.size w V->V.cell? ⟨rb,ro+u,none⟩=some (.slice (some ⟨rq u,rp u,none⟩) n (rc u))/\V.cell? ⟨rq u,rp u+i*2,none⟩=some (.string (eR t u i).1)):=fun i hi V hV=>by
    obtain⟨a1,_,_,a2⟩:=(HA.out V hV).rate u (by rw[HRL.out];exact hlt)
    rw[HN.out] at a1 a2
    exact⟨a1,(a2 i hi).1⟩
   obtain⟨_,hrc1,hrc2,_⟩:=(HA.out w (ZoL _ _)).rate u (by rw[HRL.out];exact hlt)
   rw[HN.out] at hrc1
   obtain⟨q1,hq1⟩:=ZpB (rq u)
   obtain⟨o1,ho1⟩:=ZpB (rp u)
   obtain⟨c1,hc1⟩:=ZpB (rc u)
   rw[hq1,ho1,hc1] at HRT
   rw[hc1] at hrc1 hrc2
   clear hlat hq1 ho1 hc1
   go_wp2_with fail
   go_loopw [7,8] (fun sv iv wv=>∃ i:Nat,iv=.int .i64 i/\i<=n/\sv=.int .i64 (ZX p u i)/\Hid (∀ j,j<i->Zbm t p u j)/\Hid (Env w.heap.size w [(w.heap.size,efO (.slice (some ⟨sb,so,none⟩) n cs) (.slice (some ⟨hb',ho,none⟩) R ch) (.slice (some ⟨rb,ro,none⟩) R cr))] [] wv)) (fun _ iv _=>n-(intOf iv).toNat)
   case atStart=>exact⟨0,rfl,ZoY _,rfl,fun i h=>Zpp h (Zpb _),HE4⟩
   case round=>
    clear HE4
    obtain⟨i,rfl,hi,rfl,HH,HEV⟩:=hrel
    have e0:=HROW.out _ HEV.out.base
    by_cases hlt2:i<n
    ·have c0:=HLA.out _ HEV.out.base i hlt2
     have HRX:=Zpz (HRT.out i hlt2)
     have hrn:=Zji HOK.out (u:=u) (i:=i) (by rw[HRL.out];exact hlt) (by rw[HN.out];exact hlt2)
     obtain⟨m,hm⟩:=ZpB (pN p u i)
     obtain⟨⟨s1,t1⟩,hs1'⟩:∃ z,eR t u i=z:=⟨_,rfl⟩
     rw[hm] at c0
     rw[hs1'] at HRX hrn
     dsimp only at HRX hrn
     have HM:=Zpz hm
     have HRN:=Zpz hrn
     have j0':(0:Int)<=(i:Int):=Za
     have j1':(i:Int)<(n:Int):=Za
     clear hm hs1' hrn
     go_wp2_with fail
     refine(ZdH m 0 48 _).mono ?_
     rintro e w5 ⟨rfl,hb⟩
     have HE5:=Zpz (HEV.out.step hb)
     clear hb e0 c0 HEV
     by_cases hw:0<=m/\m<=48
     rotate_left
     ·have HNO:Hid (¬ PlanOk t p):=fun k=>hw (by have:=(k.hour u i hul (by rw[HN.out];exact hlt2)).1;rw[HM.out] at this;exact this)
      rw[ZfF hw]
      clear hw
      go_wp2
      exact ZoM (v:=.bool false) (by simp[results,Tryz.f72,go_sem]) rfl ⟨false,rfl,Zbl (HNO.out),HE5.out.base⟩
     rw[ZeF hw]
     have hs1:=ZeT (p:=p) (u:=u) (N:=i) (fun j hj=>(HH.out j hj).1) i ZpA
     have e1:Hid (IntKind.i64.wrap (ZX p u i+m)=ZX p u (i+1)):=by
      show _=_
      rw[Zpm _ Za]
      show _=ZX p u i+pN p u i
      rw[HM.out]
     have HHN:Hid (Zbm t p u i->∀ j,j<i+1->Zbm t p u j):=fun h j hj=>by
      rcases ZoR j i with h1 | h1
      ·exact HH.out j h1
      ·obtain rfl:j=i:=Za
       exact h
     have e0:=HROW.out _ HE5.out.base
     have c0:=HLA.out _ HE5.out.base i hlt2
     rw[HM.out] at c0
     obtain⟨d0,d1⟩:=HRX.out _ HE5.out.base
     have d2:=HE5.out.cell 0 2 (v:=.slice (some ⟨rb,ro,none⟩) R cr) rfl rfl
     have e1':=e1.out
     clear hs1
     by_cases hm0:0<m
     ·by_cases hr0:rR t u i=0
      ·have HNO:Hid (¬ PlanOk t p):=fun k=>(k.hour u i hul (by rw[HN.out];exact hlt2)).2 (by rw[HM.out];exact hm0) hr0
       have hzz:(s1.toList==[48])=true:=by rw[HRN.out,decide_eq_true hr0]
       clear hw hr0 e1'
       go_wp2
       exact ZoM (v:=.bool false) (by simp[results,Tryz.f72,go_sem]) rfl ⟨false,rfl,Zbl (HNO.out),HE5.out.base⟩
      ·have HOKI:=Zpz (HHN.out ⟨by rw[HM.out];exact hw,fun _=>hr0⟩)
       have hzz:(s1.toList==[48])=false:=by rw[HRN.out,decide_eq_false hr0]
       clear hw hr0
       go_wp2
       go_roundw
       case rel=>exact⟨i+1,by go_num,Za,by first | rfl | rw[e1.out],HOKI,HE5⟩
       case measure=>exact Zj
     ·have HOKI:=Zpz (HHN.out ⟨by rw[HM.out];exact hw,fun h=>Zpp (by rw[HM.out] at h;exact h) hm0⟩)
      clear hw
      go_wp2
      go_roundw
      case rel=>exact⟨i+1,by go_num,Za,by first | rfl | rw[e1.out],HOKI,HE5⟩
      case measure=>exact Zj
    ·have hin:i=n:=Za
     have hh1:=HEV.out.cell 0 1 (v:=.slice (some ⟨hb',ho,none⟩) R ch) rfl rfl
     have a1:=(HA.out _ HEV.out.base).hour u (by rw[HHL.out];exact hlt)
     obtain⟨hh,hhh⟩:=ZpB (eH t u)
     rw[hhh] at a1
     have HHH:=Zpz hhh
     clear hhh
     by_cases hs:hh<ZX p u i
     ·have HNO:Hid (¬ PlanOk t p):=fun k=>by
       have:=k.sum u hul
       rw[HN.out,HHH.out,<- hin] at this
       omega
      clear hin
      go_wp2
      exact ZoM (v:=.bool false) (by simp[results,Tryz.f72,go_sem]) rfl ⟨false,rfl,Zbl (HNO.out),HEV.out.base⟩
     ·have HU2:Hid (∀ v,v<u+1->(p.getD v []).length=n/\(∀ i,i<n->Zbm t p v i)/\ZX p v n<=eH t v):=fun v hv=>by
       rcases ZoR v u with h1 | h1
       ·exact HU.out v h1
       ·obtain rfl:v=u:=Za
        refine⟨by rw[HL.out,HNN.out],fun j hj=>HH.out j Za,?_⟩
        rw[<- hin,HHH.out]
        omega
      clear hin
      go_wp2
      go_roundw
      case rel=>exact⟨u+1,by go_num,Za,HU2,HEV⟩
      case measure=>exact Zj
  ·have huR:u=R:=Za
   have HYES:Hid (PlanOk t p):=by
    refine⟨HOK.out,by rw[HTL.out,HHL.out],fun v hv=>?_,fun v i hv hi=>?_,fun v hv=>?_⟩
    ·have h1:=(HU.out v (by rw[huR,<- HTL.out];exact hv)).1
     rw[show p[v]=p.getD v [] by simp[List.getD,hv],h1,HN.out]
    ·exact(HU.out v (by rw[huR,<- HTL.out];exact hv)).2.1 i (by rw[<- HN.out];exact hi)
    ·rw[HN.out]
     exact(HU.out v (by rw[huR,<- HTL.out];exact hv)).2.2
   clear huR HU
   go_wp2
   exact ZoM (v:=.bool true) (by simp[results,Tryz.f72,go_sem]) rfl ⟨true,rfl,⟨fun _=>HYES.out,fun _=>rfl⟩,HE.out.base⟩
theorem ZnX {bs:List BB} (h:CurveP bs) (q:Rat):chF bs q<=1:=ZW.top h.conc' (ZdJ h q)
theorem Zc9 (q:Rat):q*((q.den:Nat):Rat)=((q.num:Int):Rat):=by
 have h1:(q.num:Rat)/((q.den:Nat):Rat)=q:=by rw[<- Rat.mkRat_eq_div,Rat.mkRat_self]
 have h2:((q.den:Nat):Rat)≠0:=by
  have:=Rat.natCast_pos.2 q.den_pos
  grind
 have h3:=Rat.div_mul_cancel (a:=(q.num:Rat)) h2
 rw[h1] at h3
 exact h3
def Den (D:Nat) (q:Rat):Prop:=0<D/\∃ z:Int,q*((D:Nat):Rat)=((z:Int):Rat)
theorem Den.own (q:Rat):Den q.den q:=⟨q.den_pos,q.num,Zc9 q⟩
theorem Den.one {n:Int} : Den 1 ((n:Int):Rat):=⟨Zd,n,by
 have e:((1:Nat):Rat)=1:=rfl
 rw[e,Rat.mul_one]⟩
theorem Den.mul {D E:Nat} {a b:Rat} (h:Den D a) (g:Den E b):Den (D*E) (a*b):=by
 obtain⟨d0,x,hx⟩:=h
 obtain⟨e0,y,hy⟩:=g
 refine⟨Nat.mul_pos d0 e0,x*y,?_⟩
 rw[Rat.natCast_mul,Rat.intCast_mul,<- hx,<- hy]
 grind
theorem Den.add {D E:Nat} {a b:Rat} (h:Den D a) (g:Den E b):Den (D*E) (a+b):=by
 obtain⟨d0,x,hx⟩:=h
 obtain⟨e0,y,hy⟩:=g
 refine⟨Nat.mul_pos d0 e0,x*E+y*D,?_⟩
 rw[Rat.natCast_mul,Rat.intCast_add,Rat.intCast_mul,Rat.intCast_mul,<- hx,<- hy,Rat.intCast_natCast,Rat.intCast_natCast]
 grind
theorem Den.le {D:Nat} {q:Rat} (h:Den D q):q.den<=D:=by
 obtain⟨d0,z,hz⟩:=h
 have h1:q.num*D=z*q.den:=by
  have h2:=Zc9 q
  have h3:((q.num*(D:Nat):Int):Rat)=((z*(q.den:Nat):Int):Rat):=by
   rw[Rat.intCast_mul,Rat.intCast_mul,<- h2,<- hz,Rat.intCast_natCast,Rat.intCast_natCast]
   grind
  exact Rat.intCast_inj.1 h3
 have h2:(q.den:Int) ∣ q.num*D:=⟨z,by rw[h1,Int.mul_comm]⟩
 have h3:q.den ∣ q.num.natAbs*D:=by
  have:=Int.natAbs_dvd_natAbs.2 h2
  rwa [Int.natAbs_mul,Int.natAbs_natCast,Int.natAbs_natCast] at this
 have h4:q.den ∣ D:=Nat.Coprime.dvd_of_dvd_mul_left (Nat.Coprime.symm q.reduced) h3
 exact Nat.le_of_dvd d0 h4
theorem Den.sz {D k M:Nat} {q:Rat} (h:Den D q) (h0:0<=q) (hD:D<10 ^ k) (hM:q<=((M:Nat):Rat)):q.den<10 ^ k/\q.num.toNat<=M*q.den:=by
 refine⟨Nat.lt_of_le_of_lt h.le hD,?_⟩
 have h2:=Zc9 q
 have h3:=Zab h0
 have hd:(0:Rat)<=((q.den:Nat):Rat):=Rat.le_of_lt (Rat.natCast_pos.2 q.den_pos)
 have h4:=Rat.mul_le_mul_of_nonneg_right hM hd
 rw[h2] at h4
 have h5:((q.num:Int):Rat)<=(((M*q.den:Nat):Int):Rat):=by
  rw[Rat.intCast_natCast,Rat.natCast_mul]
  exact h4
 have h6:=Rat.intCast_le_intCast.1 h5
 omega
theorem ZmG {H H' C C' q:Rat} {e1 e2 d1 d2 m:Nat} {k:Nat} (hH:Den e1 H) (hH':Den e2 H') (hC:Den d1 C) (hC':Den d2 C') (hq:Den m q) (hlt:C<C') (hC0:0<=C) {c2:Nat} (hc2:C'*((d2:Nat):Rat)=((c2:Nat):Rat)) (h1:c2<10 ^ k) (h2:d1<10 ^ k) :
  ∃ K:Nat,0<K/\K<10 ^ (k+k)/\Den (K*(e1*e2*m)) (H+(H'-H)/(C'-C)*(q-C)):=by
 obtain⟨e1p,x1,hx1⟩:=hH
 obtain⟨e2p,x2,hx2⟩:=hH'
 obtain⟨d1p,c1,hc1⟩:=hC
 obtain⟨d2p,_⟩:=hC'
 obtain⟨mp,z,hz⟩:=hq
 have p1:(0:Rat)<((d1:Nat):Rat):=Rat.natCast_pos.2 d1p
 have p2:(0:Rat)<((d2:Nat):Rat):=Rat.natCast_pos.2 d2p
 have hKr:(C'-C)*(((d1:Nat):Rat)*((d2:Nat):Rat))=(((c2:Int)*(d1:Int)-c1*(d2:Int):Int):Rat):=by
  rw[Rat.intCast_sub,Rat.intCast_mul,Rat.intCast_mul,<- hc1,Rat.intCast_natCast,Rat.intCast_natCast,Rat.intCast_natCast,<- hc2]
  grind
 have hpos:0<(C'-C)*(((d1:Nat):Rat)*((d2:Nat):Rat)):=Rat.mul_pos Zk (Rat.mul_pos p1 p2)
 rw[hKr] at hpos
 have hK0:0<(c2:Int)*(d1:Int)-c1*(d2:Int):=by
  have e:((0:Int):Rat)=0:=rfl
  rw[<- e] at hpos
  exact Rat.intCast_lt_intCast.1 hpos
 have hc1n:0<=c1:=by
  have h3:0<=C*((d1:Nat):Rat):=Rat.mul_nonneg hC0 (Rat.le_of_lt p1)
  rw[hc1] at h3
  have e:((0:Int):Rat)=0:=rfl
  rw[<- e] at h3
  exact Rat.intCast_le_intCast.1 h3
 obtain⟨K,hK⟩:∃ K:Nat,(K:Int)=(c2:Int)*(d1:Int)-c1*(d2:Int):=⟨((c2:Int)*(d1:Int)-c1*(d2:Int)).toNat,Int.toNat_of_nonneg Za⟩
 have hKle:(K:Int)<=(c2:Int)*(d1:Int):=by
  have:=Int.mul_nonneg hc1n (Int.natCast_nonneg d2)
  omega
 refine⟨K,Za,?_,Nat.mul_pos Za (Nat.mul_pos (Nat.mul_pos e1p e2p) mp),x1*e2*(c2*d1*m-z*d1*d2)+x2*e1*(z*d1*d2-c1*d2*m),?_⟩
 ·have h3:K<=c2*d1:=by exact_mod_cast hKle
  exact Nat.lt_of_le_of_lt h3 (ZaS h1 h2)
 ·have hKR:((K:Nat):Rat)=(C'-C)*(((d1:Nat):Rat)*((d2:Nat):Rat)):=by rw[hKr,<- hK,Rat.intCast_natCast]
  have hd:C'-C≠0:=Zk
  have hdiv:(H'-H)/(C'-C)*(C'-C)=H'-H:=Rat.div_mul_cancel hd
  simp only[Rat.natCast_mul,Rat.intCast_add,Rat.intCast_mul,Rat.intCast_sub,Rat.intCast_natCast,hKR]
  rw[<- hx1,<- hx2,<- hc1,<- hz,<- hc2]
  generalize (H'-H)/(C'-C)=sl at *
  generalize ((d1:Nat):Rat)=D1 at *
  generalize ((d2:Nat):Rat)=D2 at *
  generalize ((e1:Nat):Rat)=E1 at *
  generalize ((e2:Nat):Rat)=E2 at *
  generalize ((m:Nat):Rat)=M at *
  clear hKr hKR hx1 hx2 hc1 hz hc2 hpos hK0 hK hKle p1 p2
  grind
end Go.Proofs.YtmpaflidennnoaaGreatDoor
