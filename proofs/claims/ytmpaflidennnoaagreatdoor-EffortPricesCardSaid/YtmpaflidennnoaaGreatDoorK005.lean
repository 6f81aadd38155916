/- The parts RSlope, REPrices, RESur. -/
import Derived.Test.YtmpaflidennnoaaGreatDoorK004
set_option maxRecDepth 100000
set_option maxHeartbeats 8000000
set_option linter.unusedVariables false
set_option linter.unusedSimpArgs false
namespace Go.Proofs.YtmpaflidennnoaaGreatDoor
open Go.RowKit Go.Shelf
attribute [local go_sem ↓] Go.wp_at_zero Go.wp_at_succ
theorem Zlc {v:Value} {bs:List BB} {w:World} {s t:ByteArray} (hv:BL w v bs) (hz:LimB bs) (hs:s.size<=1000000) (ht:t.size<=1000000) :
  Calls Tryz.prog 85 #[v,pV s t] w (ZL (ZbQ bs s t) w):=by
 obtain⟨n,hn⟩:=Zpr bs.length
 obtain⟨p,c,rfl⟩:∃ p c,v=.slice p n c:=by obtain⟨p,c,h,_⟩:=id hv;exact⟨_,_,by rw[<- hn];exact h⟩
 obtain⟨_,hcc,hnc⟩:=hv.len
 have HL:=Zpp hn
 have HV:=Zpp hv
 have HZ:=Zpp hz
 have HSZ:Hid (s.size<=1000000/\t.size<=1000000):=⟨hs,ht⟩
 clear hv hn hz hs ht
 go_enter Tryz.func85,Tryz.ntmps85
 have HE0:Hid (Env w.heap.size w [(w.heap.size+1,pObj Zpm Zpm),(w.heap.size,pObj s t)] [] ((w.alloc (pObj s t)).alloc (pObj Zpm Zpm))):=((Env.start w).push (pObj s t) rfl).push _ Zc
 go_wp2_with fail
 refine(ZgH (HV.out.after HE0.out.base Zpq) HZ.out).mono ?_
 rintro e w1 ⟨r,rfl,hr,hb⟩
 have HE1:=Zpp (HE0.out.step hb)
 have HR:=Zpp hr
 clear hb hr HE0
 cases r
 ·have HNO:Hid (¬ (CurveP bs/\Zv 300 (s,t)=true)):=fun h=>by have:=HR.out.2 h.1;cases this
  have HA:Hid (ZbQ bs s t Zpm Zpm 2):=.inl ⟨HNO.out,rfl,rfl,rfl⟩
  have r0:=HE1.out.cell 0 0 rfl rfl
  have r1:=HE1.out.cell 0 1 rfl rfl
  have f0:=HE1.out.free 0 0 rfl
  have f1:=HE1.out.free 0 1 rfl
  go_wp2
  have HE9:=Zpp (HE1.out.fill (.string Zpm) (.string Zpm))
  have q0:=HE9.out.cell 0 0 (v:=.string Zpm) rfl rfl
  have q1:=HE9.out.cell 0 1 (v:=.string Zpm) rfl rfl
  exact ZoN (v:=.tuple #[Zpn Zpm Zpm,.int .i64 2]) (by simp[results,Tryz.f85,go_sem,q0,q1]) rfl ⟨Zpm,Zpm,2,rfl,HA.out,HE9.out.base⟩
 ·have HC:=Zpp (HR.out.1 rfl)
  clear HR
  have c0:=HE1.out.cell 1 0 (v:=.string s) rfl rfl
  have c1:=HE1.out.cell 1 1 (v:=.string t) rfl rfl
  go_wp2_with fail
  refine(ZmB s t HSZ.out.1 HSZ.out.2 _).mono ?_
  rintro e w2 ⟨rfl,hb⟩
  have HE2:=Zpp (HE1.out.step hb)
  clear hb c0 c1 HE1
  cases hsm:Zv 300 (s,t)
  ·have HNO:Hid (¬ (CurveP bs/\Zv 300 (s,t)=true)):=fun h=>by rw[hsm] at h;cases h.2
   clear hsm
   have HA:Hid (ZbQ bs s t Zpm Zpm 2):=.inl ⟨HNO.out,rfl,rfl,rfl⟩
   have r0:=HE2.out.cell 0 0 rfl rfl
   have r1:=HE2.out.cell 0 1 rfl rfl
   have f0:=HE2.out.free 0 0 rfl
   have f1:=HE2.out.free 0 1 rfl
   go_wp2
   have HE9:=Zpp (HE2.out.fill (.string Zpm) (.string Zpm))
   have q0:=HE9.out.cell 0 0 (v:=.string Zpm) rfl rfl
   have q1:=HE9.out.cell 0 1 (v:=.string Zpm) rfl rfl
   exact ZoN (v:=.tuple #[Zpn Zpm Zpm,.int .i64 2]) (by simp[results,Tryz.f85,go_sem,q0,q1]) rfl ⟨Zpm,Zpm,2,rfl,HA.out,HE9.out.base⟩
  ·obtain⟨isq,hz300⟩:=Zbr hsm
   have HSM:=Zpp hsm
   obtain⟨q,hq⟩:=Zpr (ratP s t)
   dsimp only at isq hz300
   rw[hq] at isq hz300
   have HRQ:=Zpp hq
   have IQ:=Zpp isq
   have ZQ:=Zpp hz300
   have c0:=HE2.out.cell 1 0 (v:=.string s) rfl rfl
   have c1:=HE2.out.cell 1 1 (v:=.string t) rfl rfl
   clear hsm isq hz300 hq
   go_wp2_with fail
   refine(Zla (HV.out.after HE2.out.base Zpq) HC.out IQ.out).mono ?_
   rintro e w3 ⟨k,rfl,hp,hb⟩
   have HE3:=Zpp (HE2.out.step hb)
   have hkn:=hp.1
   rw[HL.out] at hkn
   have HP:=Zpp hp
   have hln:=HC.out.len
   rw[HL.out] at hln
   obtain⟨r,hr⟩:∃ r,n=r+1:=⟨n-1,Za⟩
   have e1:IntKind.i64.wrap ((n:Int)-1)=(r:Int):=by rw[IntWalk.i64_in _ Za];omega
   obtain⟨b,off,rfl,hbl,hat⟩:=HV.out.at HL.out Za
   have HAT:=Zpp hat
   have k0':(0:Int)<=(k:Int):=Za
   have k1':(k:Int)<(n:Int):=Za
   obtain⟨ic,_⟩:=HC.out.isC (i:=k) (by rw[HL.out];exact hkn)
   obtain⟨ih,_⟩:=HC.out.isH (i:=k) (by rw[HL.out];exact hkn)
   obtain⟨z,hz⟩:=Zpr (bAt bs k)
   rw[hz] at ic ih
   have HFK:Hid (∀ V,Below w.heap.size w V->V.cell? ⟨b,off+k*4,none⟩=some (.string z.1.1)/\V.cell? ⟨b,off+k*4+1,none⟩=some (.string z.1.2)/\V.cell? ⟨b,off+k*4+2,none⟩=some (.string z.2.1)/\V.cell? ⟨b,off+k*4+3,none⟩=some (.string z.2.2)):=fun V hV=>by rw[<- hz];exact hat V hV k hkn
   obtain⟨⟨s1,t1⟩,u1,v1⟩:=z
   dsimp only at HFK ic ih
   have IC:=Zpp ic
   have IH:=Zpp ih
   have HRN:=Zpp hr
   clear hb hp c0 c1 HE2 hat hz ic ih hr
   by_cases hkr:k=r
   ·have bk:((k:Int)==(r:Int))=true:=by rw[beq_iff_eq,hkr]
    have HA:Hid (ZbQ bs s t ⟨#[48]⟩ ⟨#[49]⟩ 0):=.inr ⟨⟨HC.out,HSM.out⟩,rfl,0,⟨k,by rw[HRQ.out];exact HP.out,by
     unfold slo
     rw[if_neg (by rw[HL.out,HRN.out,hkr];omega)]⟩,Z1⟩
    clear hkr
    go_wp2_with fail
    refine(Za4 _).mono ?_
    rintro e w4 ⟨rfl,hb⟩
    have HE4:=Zpp (HE3.out.step hb)
    clear hb
    have r0:=HE4.out.cell 0 0 rfl rfl
    have r1:=HE4.out.cell 0 1 rfl rfl
    have f0:=HE4.out.free 0 0 rfl
    have f1:=HE4.out.free 0 1 rfl
    go_wp2
    have HE9:=Zpp (HE4.out.fill (.string ⟨#[48]⟩) (.string ⟨#[49]⟩))
    have q0:=HE9.out.cell 0 0 (v:=.string ⟨#[48]⟩) rfl rfl
    have q1:=HE9.out.cell 0 1 (v:=.string ⟨#[49]⟩) rfl rfl
    exact ZoN (v:=.tuple #[Zpn ⟨#[48]⟩ ⟨#[49]⟩,.int .i64 0]) (by simp[results,Tryz.f85,go_sem,q0,q1]) rfl ⟨⟨#[48]⟩,⟨#[49]⟩,0,rfl,HA.out,HE9.out.base⟩
   ·have bk:((k:Int)==(r:Int))=false:=by rw[beq_eq_false_iff_ne];omega
    obtain⟨m,hm⟩:∃ m,m=k+1:=⟨_,rfl⟩
    have e2:IntKind.i64.wrap ((k:Int)+1)=(m:Int):=by rw[IntWalk.i64_in _ Za];omega
    have hmn:k+1<bs.length:=by have:=HL.out;have:=HRN.out;omega
    have m0':(0:Int)<=(m:Int):=Za
    have m1':(m:Int)<(n:Int):=by have:=HL.out;omega
    obtain⟨⟨x1,y1,f1⟩,⟨x2,y2,f2⟩,⟨x3,y3,f3⟩,f8⟩:=ZhR HC.out hmn
    obtain⟨ic,_⟩:=HC.out.isC (i:=k+1) hmn
    obtain⟨ih,_⟩:=HC.out.isH (i:=k+1) hmn
    obtain⟨z,hz⟩:=Zpr (bAt bs (k+1))
    rw[hz] at ic ih
    have HFM:Hid (∀ V,Below w.heap.size w V->V.cell? ⟨b,off+m*4,none⟩=some (.string z.1.1)/\V.cell? ⟨b,off+m*4+1,none⟩=some (.string z.1.2)/\V.cell? ⟨b,off+m*4+2,none⟩=some (.string z.2.1)/\V.cell? ⟨b,off+m*4+3,none⟩=some (.string z.2.2)):=fun V hV=>by rw[<- hz,hm];exact HAT.out V hV (k+1) (by have:=HL.out;omega)
    obtain⟨⟨s2,t2⟩,u2,v2⟩:=z
    dsimp only at HFM ic ih
    have CT2:=Zpp (fun W=>Ze9 IC.out IH.out ic ih f1 f2 f3 f8 W)
    have HA:Hid (ZbQ bs s t x3 y3 0):=.inr ⟨⟨HC.out,HSM.out⟩,rfl,_,⟨k,by rw[HRQ.out];exact HP.out,rfl⟩,by unfold slo;rw[if_pos hmn];exact f3⟩
    clear hz hm hmn ic ih f1 f2 f3 f8 hkr HP HC HSM HRQ IQ ZQ IC IH HRN
    go_wp2_with fail
    obtain⟨W,hW⟩:=Zpr w3.drew
    have HE5:Hid (Env w.heap.size w [(w.heap.size+1,pObj Zpm Zpm),(w.heap.size,pObj s t)] [] W):=by rw[<- hW];exact HE3.out.drew
    refine Z4 [(true,0),(true,1),(true,2),(true,3),(true,4),(true,5),(true,6),(true,7),(true,8),(false,9),(false,10),(true,11)] (fun V=>∃ o,Env w.heap.size w [(w.heap.size+1,o),(w.heap.size,pObj s t)] [] V) (fun _=>false)
     Zb Zb Zb (fun _ _=>rfl) Zi ⟨_,by rw[hW];exact HE5.out⟩ ?_
    rw[hW]
    clear hW
    iterate 9
     refine Zr _ rfl rfl (fun w' hS=>by obtain⟨o,hS⟩:=hS;obtain⟨a0,a1,a2,a3⟩:=HFK.out w' hS.base;obtain⟨b0,b1,b2,b3⟩:=HFM.out w' hS.base;exact Ze) ?_
     simp only[Act.put,Zl]
    refine Zu rfl rfl fun K hK=>?_
    go_simp
    go_at_call 140
    have HEC:=HE5
    refine(CT2.out _).mono ?_
    rintro e w6 ⟨rfl,hb⟩
    have HE6:=Zpp (HE5.out.step hb)
    refine hK _ _ (.inr ⟨_,HE6.out⟩) ?_
    clear hK K hb HEC
    have r0:=HE6.out.cell 0 0 rfl rfl
    have r1:=HE6.out.cell 0 1 rfl rfl
    have f0:=HE6.out.free 0 0 rfl
    have f1:=HE6.out.free 0 1 rfl
    refine Zu rfl rfl fun K hK=>?_
    go_simp
    have HE7:=Zpp (HE6.out.fill (.string x3) (.string y3))
    refine hK _ _ (.inr ⟨_,HE7.out⟩) ?_
    clear hK K r0 r1 f0 f1
    iterate 1
     refine Zr _ rfl rfl (fun w' hS=>Ze) ?_
     simp only[Act.put,Zl]
    refine ZJ ?_
    go_wp2
    have q0:=HE7.out.cell 0 0 (v:=.string x3) rfl rfl
    have q1:=HE7.out.cell 0 1 (v:=.string y3) rfl rfl
    exact ZoN (v:=.tuple #[Zpn x3 y3,.int .i64 0]) (by simp[results,Tryz.f85,go_sem,q0,q1]) rfl ⟨x3,y3,0,rfl,HA.out,HE7.out.base⟩
theorem ZkW {v:Value} {bs:List BB} {w:World} {q:Rat} {s t x y:ByteArray} (hv:BL w v bs) (hC:CurveP bs) (hq:IsP q s t) (hs:Sz 300 q) (hx:IsP (slF bs q) x y) :
  Calls Tryz.prog 85 #[v,pV s t] w (ZZ (.tuple #[pV x y,.int .i64 0]) w):=by
 refine(Zlc hv hC.limB hq.limit.1 hq.limit.2).mono ?_
 rintro e w' ⟨u,u2,n,rfl,h,hb⟩
 rcases h with ⟨h,_⟩ | ⟨_,rfl,r',h1,h2⟩
 ·exact absurd ⟨hC,Zdr hq hs Zd⟩ h
 ·rw[hq.rat] at h1
  obtain⟨e1,e2⟩:=Zbb h2 hx (h1.unique (ZiW hC q))
  subst e1 e2
  exact⟨rfl,hb⟩
theorem ZlN {S:Nat->Prop} {w1 w w':World} {B:Nat} (h:Keeps S w1 w) (hB:w1.heap.size=B) (hb:Below B w w'):Keeps S w1 w':=
 ⟨hb.os.trans h.os,hb.tape.trans h.tape,hb.output.trans h.output,ZoV h.size hb.size,fun k hk hs=>(hb.block k Za).trans (h.block k hk hs)⟩
theorem Zj2 {t:TaskP} {p:List (List Int)} {sv hv rv pv:Value} {w:World} (hT:TaskIn t sv hv rv w) (hz:LimT t) (hI:IIL w pv p) :
  Calls Tryz.prog 37 #[.agg #[sv,hv,rv],pv] w (Zhg t p w):=by
 have HT:=Zpp hT
 have HZ:=Zpp hz
 have HI:=Zpp hI
 obtain⟨ps,cs,rfl,_⟩:=hT.sites.shape rfl
 obtain⟨ph,ch,rfl,_⟩:=hT.hours.shape rfl
 obtain⟨pr,cr,rfl,_⟩:=hT.rates.shape rfl
 obtain⟨pp,pc,rfl,_⟩:=hI.shape rfl
 obtain⟨N,hN⟩:=Zpr t.sites.length
 obtain⟨T,hTl⟩:=Zpr t.hours.length
 obtain⟨R,hR⟩:=Zpr t.rates.length
 obtain⟨np,hnp⟩:=Zpr p.length
 rw[hN,hTl,hR] at HT ⊢
 rw[hnp] at HI ⊢
 obtain⟨G,hG⟩:=Zpr w.heap.size
 have HGG:=Zpp hG
 have HLN:=Zpp hN
 have HLT:=Zpp hTl
 have HLR:=Zpp hR
 obtain⟨i0,hi,hz0,hz1,hz2⟩:=info_parts Zg0
 have HE0:Hid (Env w.heap.size w [(G,efO (.slice ps N cs) (.slice ph T ch) (.slice pr R cr))] [] (w.alloc (efO (.slice ps N cs) (.slice ph T ch) (.slice pr R cr)))):=(Env.start w).push _ hG.symm
 clear hT hz hI hN hTl hR hnp
 go_enter Tryz.func37,Tryz.ntmps37
 go_wp2_with fail
 refine(ZmP (HT.out.below HE0.out.base Zpq) HZ.out (IIL.stay2 HI.out HE0.out.base Zpq)).mono ?_
 rintro e w1 ⟨r,rfl,hr,hb⟩
 have HE1:=Zpp (HE0.out.step hb)
 have HRR:=Zpp hr
 clear hb hr HE0
 try rw[hG]
 clear hG
 cases r with
 | false=>
  have HNO:Hid (¬ PlanOk t p):=fun k=>by have:=HRR.out.2 k;cases this
  clear HRR
  go_wp2
  exact ZoN (by simp[results,Tryz.f37,go_sem]) rfl ⟨.inl ⟨HNO.out,rfl⟩,HE1.out.base⟩
 | true=>
 have HOK:Hid (PlanOk t p):=HRR.out.1 rfl
 clear HRR
 have hRT:R=T:=by rw[<- HLR.out,HOK.out.task.rates,HLT.out]
 subst hRT
 have hN24:1<=N/\N<=24:=by rw[<- HLN.out];exact HOK.out.task.sites
 have hT8:1<=R/\R<=8:=by rw[<- HLT.out];exact HOK.out.task.teams
 obtain⟨pb,po,pc',gq,gp,gc,hpv,hPW⟩:=ZmZ HI.out HOK.out.len8.1 HOK.out.task.sites.1 (fun u h=>HOK.out.row u h)
 obtain⟨b,hb⟩:=Zpr w1.heap.size
 obtain⟨w2,hw2⟩:=Zpr (w1.alloc (smO 0))
 have HS:=Zpp (smIn HT.out HE1.out.base hb hw2)
 have HPW:=Zpp (hPW b w2 HS.out.ge HS.out.now)
 have HEF:=Zpp (HE1.out.block 0 rfl)
 have HB2:Hid (w2.heap.size=b+1):=by show _=_;rw[<- hw2,<- hb];simp
 obtain⟨sb,so,sc,hb',ho,hc',rb,ro,rk,cv,rq,rp,rc,es,eh,er,k1,k2,k3,hA⟩:=HS.out.task.open HOK.out.task
 rw[HLN.out] at es
 rw[HLT.out] at eh
 rw[HLR.out] at er
 injection es with es1 es2 es3
 injection eh with eh1 eh2 eh3
 injection er with er1 er2 er3
 subst es1 es3 er1 er3
 have hsc:N<=cs/\cs<=9223372036854775807:=by rw[<- HLN.out];exact k1
 have hrk:R<=cr/\cr<=9223372036854775807:=by rw[<- HLR.out];exact k3
 have HA:=Zpp hA
 clear hPW HE1 hpv hA k1 k2 k3 es2 eh1 eh2 eh3 er2
 go_wp2_with fail
 try rw[hb]
 try rw[hw2]
 clear hb hw2
 have hbG:w.heap.size<=b:=HS.out.ge
 go_loopw [8,9] (fun uv iv wr=>∃ (u:Nat) (qs:List PP),iv=.int .i64 u/\u<=R/\Hid (Own wr (b+1) uv qs)/\Hid (qs.length=u/\∀ j,j<u->∃ r m,Best (priF t p j) t.sites.length r m/\IsP m (qs.getD j (Zpm,Zpm)).1 (qs.getD j (Zpm,Zpm)).2)/\Hid (Keeps (NotM b) w2 wr/\wr.heap[b]?=some (smO 0))) (fun _ iv _=>R-(intOf iv).toNat)
 case atStart=>exact⟨0,[],rfl,ZoZ _,Own.nil _ _,⟨rfl,fun j hj=>absurd hj (Zpc _)⟩,Keeps.refl _ _,HS.out.sm⟩
 case round=>
  obtain⟨u,qs,rfl,hu,HO,HQ,HK⟩:=hrel
  obtain⟨hbv,hgv⟩:=HS.out.keep _ HK.out.1
  have g0:=hgv _ _ HEF.out
  have e1:=Zn g0 1 (v:=.slice ph R ch) rfl
  by_cases hlt:u<R
  ·go_wp2_with fail
   clear hbv hgv g0 e1
   refine(Za4 _).mono ?_
   rintro e w3 ⟨rfl,hb3⟩
   obtain⟨wo,hwo⟩:∃ z,z=wr:=⟨_,rfl⟩
   rw[<- hwo] at HK HO hb3
   have HE2:=Zpp (SmK.start HK.out.2)
   obtain⟨B0,hB0⟩:=Zpr w3.heap.size
   have HE3:=Zpp ((HE2.out.step hb3).push (pObj ⟨#[48]⟩ ⟨#[49]⟩) hB0.symm)
   obtain⟨w4,hw4⟩:=Zpr (w3.alloc (pObj ⟨#[48]⟩ ⟨#[49]⟩))
   rw[hw4] at HE3
   clear hb3 HE2 hwo
   go_wp2_with fail
   try rw[hB0]
   try rw[hw4]
   clear hB0 hw4
   go_loopw [11] (fun iv wv=>∃ (i:Nat) (r:Option Nat) (mx:Rat) (x y:ByteArray),iv=.int .i64 i/\i<=N/\Hid (Best (priF t p u) i r mx)/\Hid (IsP mx x y)/\Hid (SmK b 0 wo [(B0,pObj x y)] wv)) (fun iv _=>N-(intOf iv).toNat)
   case atStart=>exact⟨0,none,0,_,_,rfl,ZoZ _,Best.zero _,Z1,HE3⟩
   case round=>
    clear HE3
    obtain⟨i,r,mx,x,y,rfl,hi',HBT,HX,HE⟩:=hrel
    have HKV:Hid (Keeps (NotM b) w2 wr):=HK.out.1.trans HE.out.base
    have g0:=(HS.out.keep _ HKV.out).2 _ _ HEF.out
    have e0:=Zn g0 0 (v:=.slice (some ⟨sb,so,none⟩) N cs) rfl
    by_cases hlt2:i<N
    ·have hil:i<t.sites.length:=by rw[HLN.out];exact hlt2
     have hul:u<t.rates.length:=by rw[HLR.out];exact hlt
     have hVI:∀ V,Keeps (NotM b) wo V->(V.cell? ⟨sb,so+i*3,none⟩=some (.string (eS t i).weight.1)/\V.cell? ⟨sb,so+i*3+1,none⟩=some (.string (eS t i).weight.2)/\V.cell? ⟨sb,so+i*3+2,none⟩=some (cv i)/\BL V (cv i) (eS t i).curve)/\
       (V.cell? ⟨rb,ro+u,none⟩=some (.slice (some ⟨rq u,rp u,none⟩) N (rc u))/\V.cell? ⟨rq u,rp u+i*2,none⟩=some (.string (eR t u i).1)/\V.cell? ⟨rq u,rp u+i*2+1,none⟩=some (.string (eR t u i).2))/\
       V.heap[G]?=some (efO (.slice (some ⟨sb,so,none⟩) N cs) (.slice ph R ch) (.slice (some ⟨rb,ro,none⟩) R cr)):=fun V hV=>by
      have hk:=HK.out.1.trans hV
      have A:=HA.out V hk
      obtain⟨b1,_,_,b2⟩:=A.rate u hul
      rw[HLN.out] at b1 b2
      exact⟨A.site i hil,⟨b1,b2 i hlt2⟩,(HS.out.keep V hk).2 _ _ HEF.out⟩
     have hCV:∀ V,Keeps (NotM b) wo V->V.heap[b]?=some (smO 0)->Calls Tryz.prog 73 #[.pointer (some ⟨b,0,none⟩),.agg #[.slice (some ⟨sb,so,none⟩) N cs,.slice ph R ch,.slice (some ⟨rb,ro,none⟩) R cr],.slice pp np pc,.int .i64 i] V (SmP b 0 (covR t p i) V):=fun V hV hs=>
      Zk0 (HS.out.task.keep (HK.out.1.trans hV)) (HPW.out.keep (HK.out.1.trans hV)) hs HOK.out.task HOK.out.inn hil
     obtain⟨⟨xs,ys,hxs⟩,_,_⟩:=Zf8 (HOK.out.task.site i hil).2 (covR t p i)
     obtain⟨⟨⟨xw,yw,hxw⟩,xp,yp,hxp⟩,_,_⟩:=Zes (p:=p) HOK.out.task hul hil
     have HXS:=Zpp hxs
     have HXW:=Zpp hxw
     have HXP:=Zpp hxp
     have HZC:Hid (Sz 300 (covR t p i)):=(ZcS HOK.out.task HOK.out.inn hil Zpq).2.1.mono Zd
     have HCU:Hid (CurveP (eS t i).curve):=(HOK.out.task.site i hil).2
     have HWR:Hid (IsP (wR t i) (eS t i).weight.1 (eS t i).weight.2):=(Zd0 HOK.out.task hil).1
     have HRT:Hid (IsP (rR t u i) (eR t u i).1 (eR t u i).2):=(ZcP HOK.out.task hul hil).1
     obtain⟨_,hrc1,hrc2,_⟩:=(HA.out w2 (Keeps.refl _ _)).rate u hul
     obtain⟨_,_,_,pq,cq,hcv,_⟩:=(HA.out w2 (Keeps.refl _ _)).site i hil
     obtain⟨nq,hnq⟩:=Zpr ((eS t i).curve.length)
     rw[HLN.out] at hrc1
     rw[hnq] at hcv
     have HVI:=Zpp hVI
     have HCV:=Zpp hCV
     obtain⟨q1,hq1⟩:=Zpr (rq u)
     obtain⟨o1,ho1⟩:=Zpr (rp u)
     obtain⟨c1,hc1⟩:=Zpr (rc u)
     obtain⟨⟨s1,t1⟩,hs1⟩:∃ z,eR t u i=z:=⟨_,rfl⟩
     obtain⟨⟨s2,t2⟩,hs2⟩:∃ z,(eS t i).weight=z:=⟨_,rfl⟩
     rw[hq1,ho1,hc1,hs1,hs2,hcv] at HVI
     rw[hc1] at hrc1 hrc2
     rw[hs1] at HRT
     rw[hs2] at HWR
     dsimp only at HVI HRT HWR
     have j0':(0:Int)<=(i:Int):=Za
     have j1':(i:Int)<(N:Int):=Za
     have u0':(0:Int)<=(u:Int):=Za
     have u1':(u:Int)<(R:Int):=Za
     clear hVI hCV hxs hxw hxp hcv hnq hq1 ho1 hc1 hs1 hs2
     go_wp2_with fail
     clear g0 e0
     refine Zaq 16 12 [(0,17)] [(1,0),(1,1),(1,2),(1,3),(1,4),(1,5),(1,6),(1,7),(1,8),(1,9),(1,10),(0,11),(0,12),(1,13),(1,14),(0,15)] (fun _ g V=>SmK b 0 wo (ZbV (pObj Zpm Zpm) [(B0,pObj x y)] g) V) (fun i=>i==17)
      Zb Zb (fun j hj=>by have h:17<j:=hj;simp;omega) Zi rfl rfl (fun _=>rfl) (fun a V K hK=>by go_simp;exact hK) (fun j V h=>h.push _ rfl) HE.out.drew ?_
     iterate 11
      refine ZO _ rfl (fun z=>rfl) (fun z j g w' hS=>by obtain⟨⟨_,_,e2,_⟩,_,eg⟩:=HVI.out _ hS.bare.base;have d0:=Zn eg 0 (v:=.slice (some ⟨sb,so,none⟩) N cs) rfl;have d1:=Zn eg 1 (v:=.slice ph R ch) rfl;have d2:=Zn eg 2 (v:=.slice (some ⟨rb,ro,none⟩) R cr) rfl;exact Zg) ?_
      simp only[Act.put,Zl]
     refine ZM 73 _ rfl (fun z=>rfl) (fun z w'=>Zh) (fun g V hS=>?_)
     refine(HCV.out _ hS.bare.base hS.bare.sm).mono ?_
     rintro e V' ⟨xc,yc,hxc,rfl,hb⟩
     refine .inl ⟨_,rfl,hS.call hb,?_⟩
     clear hb hS
     simp only[Act.put,Zl]
     have HXC:=Zpp hxc
     clear hxc
     refine ZM 85 _ rfl (fun z=>rfl) (fun z w'=>Zh) (fun g V hS=>?_)
     refine(ZkW (HVI.out _ hS.bare.base).1.2.2.2 HCU.out HXC.out HZC.out HXS.out).mono ?_
     rintro e V' ⟨rfl,hb⟩
     refine .inl ⟨_,rfl,hS.step hb,?_⟩
     clear hb hS
     simp only[Act.put,Zl]
     iterate 2
      refine ZO _ rfl (fun z=>rfl) (fun z j g w' hS=>Zg) ?_
      simp only[Act.put,Zl]
     refine ZM 84 _ rfl (fun z=>rfl) (fun z w'=>Zh) (fun g V hS=>?_)
     refine(ZgF xs ys hS.bare.sm).mono ?_
     rintro e V' ⟨rfl,hb⟩
     refine .inl ⟨_,rfl,hS.call hb,?_⟩
     clear hb hS
     simp only[Act.put,Zl]
     refine ZaE fun g8 V8 hS=>?_
     simp only[Act.put,Zl]
     have HG8:Hid (SmK b 0 wo ((g8,pObj Zpm Zpm)::[(B0,pObj x y)]) V8):=hS
     have r0:=HG8.out.cell 0 0 rfl rfl
     have r1:=HG8.out.cell 0 1 rfl rfl
     have f0:=HG8.out.free 0 0 rfl
     have f1:=HG8.out.free 0 1 rfl
     refine ZB rfl rfl fun K hK=>?_
     go_simp
     have HE8:=Zpp (HG8.out.fill (.string xs) (.string ys))
     refine hK _ _ (.inl rfl) ?_
     clear hK K r0 r1 f0 f1 HG8 hS
     refine ZD ?_
     obtain⟨Z8,hZ⟩:=Zpr ((V8.setCell ⟨g8,0,none⟩ (.string xs)).setCell ⟨g8,1,none⟩ (.string ys))
     rw[hZ] at HE8 ⊢
     clear hZ
     clear HE
     go_wp2_with fail
     refine Zaq 25 13 [(0,26)] [(1,0),(1,1),(1,2),(1,3),(1,4),(1,5),(1,6),(1,7),(1,8),(1,13),(1,14),(1,15),(1,16),(1,17),(1,18),(1,19),(1,20),(0,9),(1,10),(1,11),(0,12),(0,21),(1,22),(1,23),(0,24)] (fun _ g V=>SmK b 0 wo (ZbV (pObj Zpm Zpm) [(g8,pObj xs ys),(B0,pObj x y)] g) V) (fun i=>i==26)
      Zb Zb (fun j hj=>by have h:26<j:=hj;simp;omega) Zi rfl rfl (fun _=>rfl) (fun a V K hK=>by go_simp;exact hK) (fun j V h=>h.push _ rfl) HE8.out.drew ?_
     iterate 17
      refine ZO _ rfl (fun z=>rfl) (fun z j g w' hS=>by have hE:=hS.bare;have c0:=hE.cell 0 0 (v:=.string xs) rfl rfl;have c1:=hE.cell 0 1 (v:=.string ys) rfl rfl;obtain⟨⟨e0,e1,_,_⟩,⟨e3,e4,e5⟩,eg⟩:=HVI.out _ hE.base;have d0:=Zn eg 0 (v:=.slice (some ⟨sb,so,none⟩) N cs) rfl;have d2:=Zn eg 2 (v:=.slice (some ⟨rb,ro,none⟩) R cr) rfl;exact Zg) ?_
      simp only[Act.put,Zl]
     refine ZM 86 _ rfl (fun z=>rfl) (fun z w'=>Zh) (fun g V hS=>?_)
     refine(Zdy HWR.out HXS.out HXW.out rfl _).mono ?_
     rintro e V' ⟨rfl,hb⟩
     refine .inl ⟨_,rfl,hS.step hb,?_⟩
     clear hb hS
     simp only[Act.put,Zl]
     iterate 2
      refine ZO _ rfl (fun z=>rfl) (fun z j g w' hS=>Zg) ?_
      simp only[Act.put,Zl]
     refine ZM 84 _ rfl (fun z=>rfl) (fun z w'=>Zh) (fun g V hS=>?_)
     refine(ZgF xw yw hS.bare.sm).mono ?_
     rintro e V' ⟨rfl,hb⟩
     refine .inl ⟨_,rfl,hS.call hb,?_⟩
     clear hb hS
     simp only[Act.put,Zl]
     refine ZM 86 _ rfl (fun z=>rfl) (fun z w'=>Zh) (fun g V hS=>?_)
     refine(Zdy HXW.out HRT.out HXP.out rfl _).mono ?_
     rintro e V' ⟨rfl,hb⟩
     refine .inl ⟨_,rfl,hS.step hb,?_⟩
     clear hb hS
     simp only[Act.put,Zl]
     iterate 2
      refine ZO _ rfl (fun z=>rfl) (fun z j g w' hS=>Zg) ?_
      simp only[Act.put,Zl]
     refine ZM 84 _ rfl (fun z=>rfl) (fun z w'=>Zh) (fun g V hS=>?_)
     refine(ZgF xp yp hS.bare.sm).mono ?_
     rintro e V' ⟨rfl,hb⟩
     refine .inl ⟨_,rfl,hS.call hb,?_⟩
     clear hb hS
     simp only[Act.put,Zl]
     refine ZaE fun g9 V9 hS=>?_
     simp only[Act.put,Zl]
     have HG8:Hid (SmK b 0 wo ((g9,pObj Zpm Zpm)::[(g8,pObj xs ys),(B0,pObj x y)]) V9):=hS
     have r0:=HG8.out.cell 0 0 rfl rfl
     have r1:=HG8.out.cell 0 1 rfl rfl
     have f0:=HG8.out.free 0 0 rfl
     have f1:=HG8.out.free 0 1 rfl
     refine ZB rfl rfl fun K hK=>?_
     go_simp
     have HE9:=Zpp (HG8.out.fill (.string xp) (.string yp))
     refine hK _ _ (.inl rfl) ?_
     clear hK K r0 r1 f0 f1 HG8 hS
     refine ZD ?_
     obtain⟨Z9,hZ⟩:=Zpr ((V9.setCell ⟨g9,0,none⟩ (.string xp)).setCell ⟨g9,1,none⟩ (.string yp))
     rw[hZ] at HE9 ⊢
     clear hZ
     clear HE8
     have c0:=HE9.out.cell 0 0 (v:=.string xp) rfl rfl
     have c1:=HE9.out.cell 0 1 (v:=.string yp) rfl rfl
     have c2:=HE9.out.cell 2 0 (v:=.string x) rfl rfl
     have c3:=HE9.out.cell 2 1 (v:=.string y) rfl rfl
     obtain⟨n,hn⟩:=Zpr (sgnR (priF t p u i) mx)
     go_wp2_with fail
     refine(Za9 HXP.out HX.out hn _).mono ?_
     rintro e w8 ⟨rfl,hb8⟩
     have HE10:=Zpp (HE9.out.step hb8)
     clear hb8 HE9 c0 c1 c2 c3
     by_cases hcmp:mx<priF t p u i
     ·have hge:(0:Int)<n:=by rw[<- hn];exact Za6 (Rat.not_le.2 hcmp)
      have HBT2:=Zpp (HBT.out.up hcmp)
      have c0:=HE10.out.cell 0 0 (v:=.string xp) rfl rfl
      have c1:=HE10.out.cell 0 1 (v:=.string yp) rfl rfl
      have HE11:=Zpp (HE10.out.only [2] _ rfl Zd)
      have r0:=HE11.out.cell 0 0 rfl rfl
      have r1:=HE11.out.cell 0 1 rfl rfl
      have f0:=HE11.out.free 0 0 rfl
      have f1:=HE11.out.free 0 1 rfl
      clear hn hcmp HE10
      go_wp2
      have HE12:=Zpp (HE11.out.fill (.string xp) (.string yp))
      go_roundw
      case rel=>exact⟨i+1,_,_,xp,yp,by go_num,Za,HBT2,HXP,HE12⟩
      case measure=>exact Zj
     ·have hge:¬ (0:Int)<n:=by rw[<- hn];exact Za5 (Rat.not_lt.1 hcmp)
      have HBT2:=Zpp (HBT.out.keep (Rat.not_lt.1 hcmp))
      have HE11:=Zpp (HE10.out.only [2] _ rfl Zd)
      clear hn hcmp HE10
      go_wp2
      go_roundw
      case rel=>exact⟨i+1,_,_,x,y,by go_num,Za,HBT2,HX,HE11⟩
      case measure=>exact Zj
    ·obtain rfl:i=N:=Za
     have hB2:=HB2.out
     have hs1:=HK.out.1.size
     have hs2:=HE.out.base.size
     have hown1:wr.ownsRow (b+1) 41 2 u8 qs.length (Zbc qs):=Zaz HO.out fun g hg=>HE.out.base.block g (Zo0 HO.out g hg).2 (by have:=(Zo0 HO.out g hg).1;show g≠b;omega)
     have hownA:(wr.alloc (pObj x y)).ownsRow (b+1) 41 2 u8 qs.length (Zbc qs):=hown1.alloc _
     have c2:=HE.out.cell 0 0 (v:=.string x) rfl rfl
     have c3:=HE.out.cell 0 1 (v:=.string y) rfl rfl
     have hql:=HQ.out.1
     have hm1:qs.length+1<=maxLen:=by unfold maxLen;omega
     have hm2:(qs.length+1)*32<=140737488355328:=Za
     have hm3:b+1<=(wr.alloc (pObj x y)).heap.size:=by simp;omega
     have hnews:∀ (j:Nat) (z:Value),([.string x,.string y]:List Value)[j]?=some z->(wr.alloc (pObj x y)).cell? ((⟨wr.heap.size,0,none⟩:Addr).add j)=some z:=World.news_of_block (ZoP wr _)
     obtain⟨po9,no9,co9,rfl⟩:∃ p n c,u8=Value.slice p n c:=by
      obtain⟨p,c,h,_⟩:=HO.out.pl
      exact⟨_,_,_,h⟩
     have HQL:=Zpp hql
     have HWV:Hid (Keeps (NotM b) w2 (wr.alloc (pObj x y))/\(wr.alloc (pObj x y)).heap[b]?=some (smO 0)):=by
      have hal:Below wr.heap.size wr (wr.alloc (pObj x y)):=(ZoM _ wr).alloc Zpq _
      have h:=HE.out.step hal
      exact⟨HK.out.1.trans h.base,h.sm⟩
     clear hown1 hql hs1 hs2 g0
     go_wp2_with (at_builtin;refine Zph _ rfl (.tmp 82) (.tmp 84) 37 rfl (b+1) 41 i0 (Zpn Zpm Zpm) 2 32 Tryz.underlying37 hi hz0 hz1 hz2 rfl Zd _ qs.length (Zbc qs) rfl hownA ⟨wr.heap.size,0,none⟩ 1 1 [.string x,.string y] rfl rfl hnews (by simp[Value.oneCell']) hm1 hm2 hm3 ?_;intro v' w4' hown4 hgrow4 _)
     have HO4:Hid (Own w4' (b+1) v' (qs++[(x,y)])):=by
      show w4'.ownsRow _ _ _ _ _ _
      rw[Zo3,ZeS]
      exact hown4
     have hbl:Below (b+1) (wr.alloc (pObj x y)) w4':=(ZoM _ _).grown hgrow4 hm3 (fun z hz=>(Zo0 hownA z hz).1)
     have HK4:Hid (Keeps (NotM b) w2 w4'/\w4'.heap[b]?=some (smO 0)):=⟨ZlN HWV.out.1 hB2 hbl,(hbl.block b Za).trans HWV.out.2⟩
     have HQ4:Hid ((qs++[(x,y)]).length=u+1/\∀ j,j<u+1->∃ r m,Best (priF t p j) t.sites.length r m/\IsP m ((qs++[(x,y)]).getD j (Zpm,Zpm)).1 ((qs++[(x,y)]).getD j (Zpm,Zpm)).2):=by
      refine⟨by rw[Zo3,HQL.out];rfl,fun j hj=>?_⟩
      rcases ZoS j u with h | h
      ·rw[show (qs++[(x,y)]).getD j (Zpm,Zpm)=qs.getD j (Zpm,Zpm) by simp only[List.getD];rw[List.getElem?_append_left (by rw[HQL.out];exact h)]]
       exact HQ.out.2 j h
      ·obtain rfl:j=u:=Za
       rw[show (qs++[(x,y)]).getD j (Zpm,Zpm)=(x,y) by simp only[List.getD];rw[List.getElem?_append_right (by rw[HQL.out];exact Nat.le_refl _),HQL.out,Nat.sub_self];rfl]
       exact⟨r,mx,by rw[HLN.out];exact HBT.out,HX.out⟩
     clear hown4 hgrow4 hownA hnews hm1 hm2 hm3 hbl HWV
     go_roundw
     case rel=>exact⟨u+1,qs++[(x,y)],by go_num,Za,HO4,HQ4,HK4⟩
     case measure=>exact Zj
  ·obtain rfl:u=R:=Za
   have s0:=Zn HK.out.2 0 (v:=.int .i64 0) rfl
   have HBV:=Zpp hbv
   obtain⟨po9,no9,co9,rfl⟩:∃ p n c,u8=Value.slice p n c:=by
    obtain⟨p,c,h,_⟩:=HO.out.pl
    exact⟨_,_,_,h⟩
   have HPR:Hid (ZbB t p qs):=⟨by rw[HQ.out.1,HLT.out],fun j hj=>HQ.out.2 j (by rw[<- HLT.out];exact hj)⟩
   clear HQ hbv hgv g0
   go_wp2
   exact ZoN (by simp[results,Tryz.f37,go_sem]) rfl ⟨.inr ⟨HOK.out,qs,_,HPR.out,HO.out.mono Za,rfl⟩,HBV.out⟩
theorem ZlX {q:Rat} {s t:ByteArray} (h:IsP q s t):(s.toList==[])=false:=by
 rw[beq_eq_false_iff_ne,Zo9]
 intro e
 have h1:=h.ok
 rw[Zcx] at h1
 have h2:=h1.1
 rw[e] at h2
 exact absurd h2 Zd
theorem BL.four {V:World} {cb co n cc:Nat} {bs:List BB} (h:BL V (.slice (some ⟨cb,co,none⟩) n cc) bs) {k:Nat} (hk:k<bs.length) :
  V.cell? ⟨cb,co+k*4,none⟩=some (.string (bAt bs k).1.1)/\V.cell? ⟨cb,co+k*4+1,none⟩=some (.string (bAt bs k).1.2)/\V.cell? ⟨cb,co+k*4+2,none⟩=some (.string (bAt bs k).2.1)/\V.cell? ⟨cb,co+k*4+3,none⟩=some (.string (bAt bs k).2.2):=by
 obtain⟨p,c,hv,_,_,h4⟩:=h
 obtain⟨b,off,hp,_,hat⟩:=h4 (ZoU Za)
 injection hv with e1 e2 e3
 rw[<- e1] at hp
 obtain⟨rfl,rfl⟩:cb=b/\co=off:=by injection hp with h;injection h with h1 h2;exact⟨h1,h2⟩
 have:=hat k hk
 rwa [<- ZcY hk] at this
theorem Zbx.pl {b:Nat} {qv:Value} {qs:List PP} {w:World} (h:Zbx b (fun V=>PL V qv qs) w) (h0:0<qs.length) :
  ∃ qb qo qc,qv=.slice (some ⟨qb,qo,none⟩) qs.length qc/\(qs.length<=qc/\qc<=9223372036854775807)/\∀ V,Keeps (NotM b) w V->∀ u,u<qs.length->V.cell? ⟨qb,qo+u*2,none⟩=some (.string (qs.getD u (Zpm,Zpm)).1)/\V.cell? ⟨qb,qo+u*2+1,none⟩=some (.string (qs.getD u (Zpm,Zpm)).2):=by
 obtain⟨w1,h1,h2,h3⟩:=h
 obtain⟨qb,qo,qc,rfl,q1,q2,q3,q4⟩:=ZcV h1 h0
 refine⟨qb,qo,qc,rfl,⟨q1,q2⟩,fun V hV u hu=>?_⟩
 have hb:Below w1.heap.size w1 V:=h2.trans ((hV.mono fun c _ hc=>(by show c≠b;omega):Keeps (fun c=>c<w1.heap.size) w V).toBelow h2.size)
 obtain⟨a1,a2⟩:=q4 u hu
 rw[show qs.getD u (Zpm,Zpm)=qs[u] by simp[List.getD,hu]]
 exact⟨(hb.cell (p:=⟨qb,qo+u*2,none⟩) q3).trans a1,(hb.cell (p:=⟨qb,qo+u*2+1,none⟩) q3).trans a2⟩
def SurP (t:TaskP) (qs:List PP) (i b:Nat) (E:Int) (w:World) (e:Ending) (w':World):Prop:=∃ s x y,SurR t qs i s/\IsP (zq E s) x y/\SmV b (pV x y) E w e w'
def ZgQ (E:Int) (r:Option Rat) (x y:ByteArray):Prop:=(r=none/\x=Zpm/\y=Zpm)\/∃ c,r=some c/\IsP (zq E c) x y/\Sz 309 c/\0<=c
noncomputable abbrev Zfx (t:TaskP) (i:Nat) (c:Rat) (k:Nat):Rat:=posR (wR t i*hR (eS t i).curve k-c*cR (eS t i).curve k)
theorem Ziy {t:TaskP} {b:Nat} {sv hv rv qv:Value} {qs:List PP} {w:World} {E:Int} (hE:Zbx b (TaskIn t sv hv rv) w) (hq:Zbx b (fun V=>PL V qv qs) w) (hs:w.heap[b]?=some (smO E)) (ok:TaskOk t) (hp:PricesOk t qs) {i:Nat} (hi:i<t.sites.length) :
  Calls Tryz.prog 90 #[.pointer (some ⟨b,0,none⟩),.agg #[sv,hv,rv],qv,.int .i64 i] w (SurP t qs i b E w):=by
 obtain⟨sb,so,sc,hb,ho,hc,rb,ro,rk,cv,rq,rp,rc,rfl,rfl,rfl,k1,k2,k3,hA⟩:=hE.open ok
 obtain⟨qb,qo,qc,rfl,hqc,hQ⟩:=hq.pl (by rw[hp.len];exact ok.teams.1)
 obtain⟨N,hN⟩:=Zpr t.sites.length
 obtain⟨T,hT⟩:=Zpr t.hours.length
 have hTq:=hp.len
 have hTr:=ok.rates
 have hT8:=ok.teams
 have hN24:=ok.sites
 rw[hT] at hTq hTr hT8 k2
 rw[hN] at hN24 k1
 rw[hTq] at hqc hQ ⊢
 rw[hTr] at k3
 rw[hN,hT,hTr]
 have HV:Hid (∀ V,Keeps (NotM b) w V->V.cell? ⟨sb,so+i*3,none⟩=some (.string (eS t i).weight.1)/\V.cell? ⟨sb,so+i*3+1,none⟩=some (.string (eS t i).weight.2)/\V.cell? ⟨sb,so+i*3+2,none⟩=some (cv i)/\BL V (cv i) (eS t i).curve):=fun V hV=>(hA V hV).site i hi
 have HR:Hid (∀ u,u<T->∀ V,Keeps (NotM b) w V->V.cell? ⟨rb,ro+u,none⟩=some (.slice (some ⟨rq u,rp u,none⟩) N (rc u))/\V.cell? ⟨rq u,rp u+i*2,none⟩=some (.string (eR t u i).1)/\V.cell? ⟨rq u,rp u+i*2+1,none⟩=some (.string (eR t u i).2)):=fun u hu V hV=>by
  obtain⟨a1,_,_,a2⟩:=(hA V hV).rate u (by rw[hTr];exact hu)
  rw[hN] at a1 a2
  exact⟨a1,a2 i (by rw[<- hN];exact hi)⟩
 have HRC:Hid (∀ u,u<T->N<=rc u/\rc u<=9223372036854775807):=fun u hu=>by
  obtain⟨_,a1,a2,_⟩:=(hA w (Keeps.refl _ _)).rate u (by rw[hTr];exact hu)
  rw[hN] at a1
  exact⟨a1,a2⟩
 obtain⟨_,_,_,pq,cq,hcv,_⟩:=(hA w (Keeps.refl _ _)).site i hi
 obtain⟨nq,hnq⟩:=Zpr ((eS t i).curve.length)
 have HNQ:=Zpp hnq
 have HBP:Hid (0<nq->∃ cb co,pq=some ⟨cb,co,none⟩):=fun h0=>by
  obtain⟨_,_,_,h9⟩:=(hA w (Keeps.refl _ _)).site i hi
  obtain⟨p9,c9,e9,_,_,f9⟩:=h9
  obtain⟨cb,co,g9,_⟩:=f9 (ZoU Za)
  rw[hcv] at e9
  injection e9 with e9 _ _
  exact⟨cb,co,e9.trans g9⟩
 have hcq:nq<=cq/\cq<=9223372036854775807:=by
  obtain⟨_,_,_,h9⟩:=(hA w (Keeps.refl _ _)).site i hi
  obtain⟨p9,c9,e9,f9,g9,_⟩:=h9
  rw[hcv] at e9
  injection e9 with _ _ e9
  subst e9
  unfold maxLen at g9
  omega
 have hln:=(ok.site i hi).2.len
 rw[hnq] at hln hcv
 rw[hcv] at HV
 have HQ:=Zpp hQ
 have HOK:=Zpp ok
 have HP:=Zpp hp
 have HTT:=Zpp hT
 have HTQ:=Zpp hTq
 have HTR:=Zpp hTr
 have HI:=Zpp hi
 have HS:=Zpp hs
 have hiN:i<N:=by rw[<- hN];exact hi
 obtain⟨⟨s2,t2⟩,hs2⟩:∃ z,(eS t i).weight=z:=⟨_,rfl⟩
 have HWR:Hid (IsP (wR t i) (eS t i).weight.1 (eS t i).weight.2/\Sz 9 (wR t i)):=Zd0 ok hi
 rw[hs2] at HV HWR
 dsimp only at HV HWR
 obtain⟨G,hG⟩:=Zpr w.heap.size
 obtain⟨w1,hw1⟩:=Zpr (((w.alloc (efO (.slice (some ⟨sb,so,none⟩) N sc) (.slice (some ⟨hb,ho,none⟩) T hc) (.slice (some ⟨rb,ro,none⟩) T rk))).alloc (pObj Zpm Zpm)).alloc (pObj Zpm Zpm))
 have HE0:Hid (SmK b E w [(G+1+1,pObj Zpm Zpm),(G+1,pObj Zpm Zpm),(G,efO (.slice (some ⟨sb,so,none⟩) N sc) (.slice (some ⟨hb,ho,none⟩) T hc) (.slice (some ⟨rb,ro,none⟩) T rk))] w1):=by
  rw[<- hw1]
  exact(((SmK.start HS.out).push _ hG.symm).push _ (by simp[hG])).push _ (by simp[hG])
 clear hE hq hs ok hp hA hQ hN hT hTq hTr hi hcv hnq hs2
 have i0':(0:Int)<=(i:Int):=Za
 have i1':(i:Int)<(N:Int):=Za
 go_enter Tryz.func90,Tryz.ntmps90
 have r0:=HE0.out.cell 0 0 (v:=.string Zpm) rfl rfl
 have r1:=HE0.out.cell 0 1 (v:=.string Zpm) rfl rfl
 have f0:=HE0.out.free 0 0 rfl
 have f1:=HE0.out.free 0 1 rfl
 go_wp2_with fail
 try rw[hw1]
 try rw[hG]
 have HE1:=Zpp (HE0.out.fill (.string Zpm) (.string Zpm))
 clear hw1 hG r0 r1 f0 f1 HE0
 go_loopw [10] (fun iv wr=>∃ (u:Nat) (r:Option Rat) (x y:ByteArray),iv=.int .i64 u/\u<=T/\Hid (LeastQ (fun u=>prR qs u/rR t u i) (fun u=>rR t u i≠0) u r)/\Hid (ZgQ E r x y)/\Hid (SmK b E w [(G+1+1,pObj x y),(G+1,pObj Zpm Zpm),(G,efO (.slice (some ⟨sb,so,none⟩) N sc) (.slice (some ⟨hb,ho,none⟩) T hc) (.slice (some ⟨rb,ro,none⟩) T rk))] wr)) (fun iv _=>T-(intOf iv).toNat)
 case atStart=>exact⟨0,none,_,_,rfl,ZoZ _,LeastQ.zero _ _,.inl ⟨rfl,rfl,rfl⟩,HE1⟩
 case round=>
  clear HE1
  obtain⟨u,r,x,y,rfl,hu,HL,HCH,HE⟩:=hrel
  by_cases hlt:u<T
  ·have hul:u<t.rates.length:=by rw[HTR.out];exact hlt
   have HRU:=Zpp (HR.out u hlt)
   obtain⟨hrc1,hrc2⟩:=HRC.out u hlt
   have HQU:=Zpp (fun V hV=>HQ.out V hV u hlt)
   have hrn:=Zi4 HOK.out hul HI.out
   have hri:=ZcP HOK.out hul HI.out
   have hpi:=ZgC HP.out (u:=u) (by rw[HTQ.out];exact hlt)
   obtain⟨q1,hq1⟩:=Zpr (rq u)
   obtain⟨o1,ho1⟩:=Zpr (rp u)
   obtain⟨c1,hc1⟩:=Zpr (rc u)
   obtain⟨⟨s1,t1⟩,hs1⟩:∃ z,eR t u i=z:=⟨_,rfl⟩
   obtain⟨⟨p1,p2⟩,hpp⟩:∃ z,qs.getD u (Zpm,Zpm)=z:=⟨_,rfl⟩
   rw[hq1,ho1,hc1,hs1] at HRU
   rw[hc1] at hrc1 hrc2
   rw[hs1] at hrn hri
   rw[hpp] at HQU hpi
   dsimp only at HRU HQU hrn hri hpi
   have HRI:=Zpp hri
   have HPI:=Zpp hpi
   have u0':(0:Int)<=(u:Int):=Za
   have u1':(u:Int)<(T:Int):=Za
   obtain⟨e0,e1,_⟩:=HRU.out _ HE.out.base
   have d2:=HE.out.cell 2 2 (v:=.slice (some ⟨rb,ro,none⟩) T rk) rfl rfl
   clear hri hpi hq1 ho1 hc1 hs1 hpp
   by_cases hr0:rR t u i=0
   ·rw[decide_eq_true hr0] at hrn
    have HL2:=Zpp (HL.out.skip (fun h=>h hr0))
    clear hr0
    go_wp2
    go_roundw
    case rel=>exact⟨u+1,r,x,y,by go_num,Za,HL2,HCH,HE⟩
    case measure=>exact Zj
   ·rw[decide_eq_false hr0] at hrn
    have hpos:0<rR t u i:=by have:=HRI.out.1.nn;grind
    obtain⟨xs,ys,hxs⟩:=ZW (Go.Proofs.YtmpaflidennnoaaGreatDoor.ZeE HPI.out.1.nn HRI.out.1.nn) (Sz.div HPI.out.1.nn hpos HPI.out.2 HRI.out.2) Zd Zd
    have HXZ:Hid (Sz 309 (prR qs u/rR t u i)/\0<=prR qs u/rR t u i):=⟨Sz.div HPI.out.1.nn hpos HPI.out.2 HRI.out.2,hxs.nn⟩
    have HXS:=Zpp hxs
    have HPOS:=Zpp (And.intro hpos hr0)
    clear hxs hpos hr0
    go_wp2_with fail
    clear e0 e1 d2 hrn
    refine Zaq 17 11 [(0,18)] [(1,0),(1,1),(1,2),(1,3),(1,4),(1,5),(1,6),(1,7),(1,8),(1,9),(1,10),(1,11),(1,12),(0,13),(1,14),(1,15),(0,16)] (fun _ g V=>SmK b E w (ZbV (pObj Zpm Zpm) [(G+1+1,pObj x y),(G+1,pObj Zpm Zpm),(G,efO (.slice (some ⟨sb,so,none⟩) N sc) (.slice (some ⟨hb,ho,none⟩) T hc) (.slice (some ⟨rb,ro,none⟩) T rk))] g) V) (fun i=>i==18)
     Zb Zb (fun j hj=>by have h:18<j:=hj;simp;omega) Zi rfl rfl (fun _=>rfl) (fun a V K hK=>by go_simp;exact hK) (fun j V h=>h.push _ rfl) HE.out.drew ?_
    iterate 13
     refine ZO _ rfl (fun z=>rfl) (fun z j g w' hS=>by have hE:=hS.bare;have d2:=hE.cell 2 2 (v:=.slice (some ⟨rb,ro,none⟩) T rk) rfl rfl;obtain⟨e0,e1,e2⟩:=HRU.out _ hE.base;obtain⟨e3,e4⟩:=HQU.out _ hE.base;exact Zg) ?_
     simp only[Act.put,Zl]
    refine ZM 145 _ rfl (fun z=>rfl) (fun z w'=>Zh) (fun g V hS=>?_)
    refine(Zkx HPI.out.1 HRI.out.1 HXS.out HPOS.out.1 rfl _).mono ?_
    rintro e V' ⟨rfl,hb⟩
    refine .inl ⟨_,rfl,hS.step hb,?_⟩
    clear hb hS
    simp only[Act.put,Zl]
    iterate 2
     refine ZO _ rfl (fun z=>rfl) (fun z j g w' hS=>Zg) ?_
     simp only[Act.put,Zl]
    refine ZM 84 _ rfl (fun z=>rfl) (fun z w'=>Zh) (fun g V hS=>?_)
    refine(ZfA HXS.out hS.bare.sm).mono ?_
    rintro e V' ⟨xp,yp,hx,rfl,hb⟩
    have HXP:=Zpp hx
    refine .inl ⟨_,rfl,hS.call hb,?_⟩
    clear hb hS hx
    simp only[Act.put,Zl]
    refine ZaE fun g8 V8 hS=>?_
    simp only[Act.put,Zl]
    have HG8:Hid (SmK b E w ((g8,pObj Zpm Zpm)::[(G+1+1,pObj x y),(G+1,pObj Zpm Zpm),(G,efO (.slice (some ⟨sb,so,none⟩) N sc) (.slice (some ⟨hb,ho,none⟩) T hc) (.slice (some ⟨rb,ro,none⟩) T rk))]) V8):=hS
    have r0:=HG8.out.cell 0 0 rfl rfl
    have r1:=HG8.out.cell 0 1 rfl rfl
    have f0:=HG8.out.free 0 0 rfl
    have f1:=HG8.out.free 0 1 rfl
    refine ZB rfl rfl fun K hK=>?_
    go_simp
    have HE8:=Zpp (HG8.out.fill (.string xp) (.string yp))
    refine hK _ _ (.inl rfl) ?_
    clear hK K r0 r1 f0 f1 HG8 hS
    refine ZD ?_
    obtain⟨Z8,hZ⟩:=Zpr ((V8.setCell ⟨g8,0,none⟩ (.string xp)).setCell ⟨g8,1,none⟩ (.string yp))
    rw[hZ] at HE8 ⊢
    clear hZ
    clear HE
    have c0:=HE8.out.cell 0 0 (v:=.string xp) rfl rfl
    have c1:=HE8.out.cell 0 1 (v:=.string yp) rfl rfl
    have c2:=HE8.out.cell 1 0 (v:=.string x) rfl rfl
    have c3:=HE8.out.cell 1 1 (v:=.string y) rfl rfl
    have HE9:=Zpp (HE8.out.only [1,2,3] _ rfl Zd)
    rcases HCH.out with ⟨h1,h2,h3⟩ | ⟨c,h1,h2,h3,h4⟩
    ·subst h1 h2 h3
     have HL2:=Zpp (HL.out.take HPOS.out.2 (fun c hc=>by cases hc))
     have HC2:Hid (ZgQ E (some (prR qs u/rR t u i)) xp yp):=.inr ⟨_,rfl,HXP.out,HXZ.out⟩
     have hnil:((Zpm:ByteArray).toList==[])=true:=by rw[Zo9];rfl
     have r0:=HE9.out.cell 0 0 rfl rfl
     have r1:=HE9.out.cell 0 1 rfl rfl
     have f0:=HE9.out.free 0 0 rfl
     have f1:=HE9.out.free 0 1 rfl
     clear HE8
     go_wp2
     have HE10:=Zpp (HE9.out.fill (.string xp) (.string yp))
     go_roundw
     case rel=>exact⟨u+1,_,xp,yp,by go_num,Za,HL2,HC2,HE10⟩
     case measure=>exact Zj
    ·subst h1
     have hne:=ZlX h2
     have HXC:=Zpp h2
     have HXCZ:=Zpp (And.intro h3 h4)
     obtain⟨n,hn⟩:=Zpr (sgnR (zq E (prR qs u/rR t u i)) (zq E c))
     clear h2 h3 h4
     go_wp2_with fail
     refine(Za9 HXP.out HXC.out hn _).mono ?_
     rintro e w8 ⟨rfl,hb8⟩
     have HE10:=Zpp (HE8.out.step hb8)
     clear hb8 HE8 HE9 c0 c1 c2 c3 hne
     by_cases hcmp:zq E (prR qs u/rR t u i)<zq E c
     ·have hge:n<0:=by rw[<- hn];unfold sgnR;rw[if_pos hcmp];decide
      have hlc:prR qs u/rR t u i<c:=by
       unfold zq at hcmp
       split at hcmp
       ·exact hcmp
       ·exact absurd hcmp Rat.lt_irrefl
      have HL2:=Zpp (HL.out.take HPOS.out.2 (fun d hd=>by obtain rfl:=ZoQ hd;exact hlc))
      have HC2:Hid (ZgQ E (some (prR qs u/rR t u i)) xp yp):=.inr ⟨_,rfl,HXP.out,HXZ.out⟩
      have c0:=HE10.out.cell 0 0 (v:=.string xp) rfl rfl
      have c1:=HE10.out.cell 0 1 (v:=.string yp) rfl rfl
      have HE11:=Zpp (HE10.out.only [1,2,3] _ rfl Zd)
      have r0:=HE11.out.cell 0 0 rfl rfl
      have r1:=HE11.out.cell 0 1 rfl rfl
      have f0:=HE11.out.free 0 0 rfl
      have f1:=HE11.out.free 0 1 rfl
      clear hn hcmp HE10 hlc
      go_wp2
      have HE12:=Zpp (HE11.out.fill (.string xp) (.string yp))
      go_roundw
      case rel=>exact⟨u+1,_,xp,yp,by go_num,Za,HL2,HC2,HE12⟩
      case measure=>exact Zj
     ·have hge:¬ n<0:=by
       rw[<- hn]
       unfold sgnR
       rw[if_neg hcmp]
       split<;>decide
      have hex:∃ r2,LeastQ (fun u=>prR qs u/rR t u i) (fun u=>rR t u i≠0) (u+1) r2/\ZgQ E r2 x y:=by
       by_cases hlc:prR qs u/rR t u i<c
       ·have hE0:E≠0:=fun h=>hcmp (by rw[h];exact hlc)
        refine⟨_,HL.out.take HPOS.out.2 (fun d hd=>by obtain rfl:=ZoQ hd;exact hlc),.inr ⟨_,rfl,?_,HXZ.out⟩⟩
        have:=HXC.out
        rw[Zfu hE0] at this ⊢
        exact this
       ·exact⟨_,HL.out.keep (Rat.not_lt.1 hlc),.inr ⟨c,rfl,HXC.out,HXCZ.out⟩⟩
      obtain⟨r2,hr2,hc2⟩:=hex
      have HL2:=Zpp hr2
      have HC2:=Zpp hc2
      have HE11:=Zpp (HE10.out.only [1,2,3] _ rfl Zd)
      clear hn hcmp HE10 hr2 hc2
      go_wp2
      go_roundw
      case rel=>exact⟨u+1,_,x,y,by go_num,Za,HL2,HC2,HE11⟩
      case measure=>exact Zj
  ·obtain rfl:u=T:=Za
   have HL':Hid (LeastQ (fun u=>prR qs u/rR t u i) (fun u=>rR t u i≠0) t.hours.length r):=by rw[HTT.out];exact HL.out
   clear HL
   go_wp2_with fail
   refine(Za4 _).mono ?_
   rintro e w3 ⟨rfl,hb3⟩
   obtain⟨B0,hB0⟩:=Zpr w3.heap.size
   have HE3:=Zpp ((HE.out.step hb3).push (pObj ⟨#[48]⟩ ⟨#[49]⟩) hB0.symm)
   obtain⟨w4,hw4⟩:=Zpr (w3.alloc (pObj ⟨#[48]⟩ ⟨#[49]⟩))
   rw[hw4] at HE3
   have c2:=HE3.out.cell 1 0 (v:=.string x) rfl rfl
   have c3:=HE3.out.cell 1 1 (v:=.string y) rfl rfl
   clear hb3 HE
   rcases HCH.out with ⟨h1,h2,h3⟩ | ⟨c,h1,h2,h3,h4⟩
   ·subst h1 h2 h3
    have hnil:((Zpm:ByteArray).toList==[])=true:=by rw[Zo9];rfl
    have HSR:Hid (SurR t qs i 0):=⟨none,HL'.out,.inl ⟨rfl,rfl⟩⟩
    have HEA:=Zpp (HE3.out.only [2,0] _ rfl Zd)
    have hz:zq E 0=0:=by unfold zq;split<;>rfl
    have HIZ:Hid (IsP (zq E 0) ⟨#[48]⟩ ⟨#[49]⟩):=by rw[hz];exact Z1
    clear hz HE3
    have c0:=HEA.out.cell 1 0 (v:=.string ⟨#[48]⟩) rfl rfl
    have c1:=HEA.out.cell 1 1 (v:=.string ⟨#[49]⟩) rfl rfl
    have r0:=HEA.out.cell 0 0 rfl rfl
    have r1:=HEA.out.cell 0 1 rfl rfl
    have f0:=HEA.out.free 0 0 rfl
    have f1:=HEA.out.free 0 1 rfl
    go_wp2
    have HQ9:=Zpp (HEA.out.fill (.string ⟨#[48]⟩) (.string ⟨#[49]⟩))
    have q0:=HQ9.out.cell 0 0 (v:=.string ⟨#[48]⟩) rfl rfl
    have q1:=HQ9.out.cell 0 1 (v:=.string ⟨#[49]⟩) rfl rfl
    exact ZoN (v:=Zpn ⟨#[48]⟩ ⟨#[49]⟩) (by simp[results,Tryz.f90,go_sem,q0,q1]) rfl ⟨0,_,_,HSR.out,HIZ.out,rfl,HQ9.out.done⟩
   ·subst h1
    have hne:=ZlX h2
    have HXC:=Zpp h2
    have HXCZ:=Zpp (And.intro h3 h4)
    obtain⟨e0,e1,e2,_⟩:=HV.out _ HE3.out.base
    have d0:=HE3.out.cell 3 0 (v:=.slice (some ⟨sb,so,none⟩) N sc) rfl rfl
    clear h2 h3 h4
    go_wp2_with fail
    try rw[hB0]
    try rw[hw4]
    clear e0 e1 e2 d0 c2 c3 hne hB0 hw4
    go_loopw [14] (fun iv wv=>∃ (k:Nat) (bo:Option Nat) (s:Rat) (x1 y1:ByteArray),iv=.int .i64 k/\k<=nq/\Hid (Best (Zfx t i c) k bo s)/\Hid (IsP (zq E s) x1 y1)/\Hid (SmK b E w [(B0,pObj x1 y1),(G+1+1,pObj x y),(G+1,pObj Zpm Zpm),(G,efO (.slice (some ⟨sb,so,none⟩) N sc) (.slice (some ⟨hb,ho,none⟩) u hc) (.slice (some ⟨rb,ro,none⟩) u rk))] wv)) (fun iv _=>nq-(intOf iv).toNat)
    case atStart=>exact⟨0,none,0,_,_,rfl,ZoZ _,Best.zero _,(by rw[show zq E 0=0 by unfold zq;split<;>rfl];exact Z1),HE3⟩
    case round=>
     clear HE3
     obtain⟨k,bo,s,x1,y1,rfl,hk,HBT,HX1,HE⟩:=hrel
     by_cases hlt2:k<nq
     ·obtain⟨cb,co,rfl⟩:=HBP.out Za
      have hkl:k<(eS t i).curve.length:=by rw[HNQ.out];exact hlt2
      have HBD:Hid (∀ V,Keeps (NotM b) w V->V.cell? ⟨cb,co+k*4,none⟩=some (.string (bAt (eS t i).curve k).1.1)/\V.cell? ⟨cb,co+k*4+1,none⟩=some (.string (bAt (eS t i).curve k).1.2)/\V.cell? ⟨cb,co+k*4+2,none⟩=some (.string (bAt (eS t i).curve k).2.1)/\V.cell? ⟨cb,co+k*4+3,none⟩=some (.string (bAt (eS t i).curve k).2.2)):=fun V hV=>(HV.out V hV).2.2.2.four hkl
      obtain⟨ic,zc⟩:=(HOK.out.site i HI.out).2.isC hkl
      obtain⟨ih,zh⟩:=(HOK.out.site i HI.out).2.isH hkl
      obtain⟨za,hza⟩:=Zpr (wR t i*hR (eS t i).curve k)
      obtain⟨zb,hzb⟩:=Zpr (c*cR (eS t i).curve k)
      have hsa:=Sz.mul HWR.out.1.nn ih.nn HWR.out.2 zh
      have hna:=Rat.mul_nonneg HWR.out.1.nn ih.nn
      have hsb:=Sz.mul HXCZ.out.2 ic.nn HXCZ.out.1 zc
      have hnb:=Rat.mul_nonneg HXCZ.out.2 ic.nn
      have HBF:Hid (Zfx t i c k=posR (za-zb)):=by show posR _=_;rw[hza,hzb]
      obtain⟨xa,ya,hxa⟩:=ZW hna hsa Zd Zd
      obtain⟨xb0,yb0,hxb0⟩:=ZW hnb hsb Zd Zd
      have hsub:∀ _:zb<za,∃ x y,IsP (za-zb) x y:=fun h=>by
       rw[hza] at hsa hna
       rw[hzb] at hsb hnb
       exact ZW Zk (Sz.sub hna hnb Zk hsa hsb) Zd Zd
      rw[hza] at hxa
      rw[hzb] at hxb0
      obtain⟨xb,yb,hxb⟩:=ZnM (n:=E) ⟨xb0,yb0,hxb0⟩
      obtain⟨⟨⟨c1,c2⟩,h1,h2⟩,hbd⟩:∃ z,bAt (eS t i).curve k=z:=⟨_,rfl⟩
      rw[hbd] at HBD ic ih
      dsimp only at HBD ic ih
      have HIC:=Zpp ic
      have HIH:=Zpp ih
      have HXA:=Zpp hxa
      have HXB:=Zpp hxb
      have HZA:=Zpp hza
      have HZB:Hid (zq E c*cR (eS t i).curve k=zq E zb):=by show _=_;rw[<- hzb,Rat.mul_comm,Zok,Rat.mul_comm]
      have HSUB:=Zpp hsub
      have k0':(0:Int)<=(k:Int):=Za
      have k1':(k:Int)<(nq:Int):=Za
      clear ic ih zc zh hsa hna hsb hnb hza hzb hxa hxb hxb0 hsub hbd hkl
      go_wp2_with fail
      refine Zaq 16 15 [(0,17)] [(1,0),(1,1),(1,2),(1,3),(1,4),(1,5),(1,6),(1,7),(1,8),(1,9),(1,10),(1,11),(0,12),(1,13),(1,14),(0,15)] (fun _ g V=>SmK b E w (ZbV (pObj Zpm Zpm) [(B0,pObj x1 y1),(G+1+1,pObj x y),(G+1,pObj Zpm Zpm),(G,efO (.slice (some ⟨sb,so,none⟩) N sc) (.slice (some ⟨hb,ho,none⟩) u hc) (.slice (some ⟨rb,ro,none⟩) u rk))] g) V) (fun i=>i==17)
       Zb Zb (fun j hj=>by have h:17<j:=hj;simp;omega) Zi rfl rfl (fun _=>rfl) (fun a V K hK=>by go_simp;exact hK) (fun j V h=>h.push _ rfl) HE.out.drew ?_
      iterate 12
       refine ZO _ rfl (fun z=>rfl) (fun z j g w' hS=>by have hE:=hS.bare;have d0:=hE.cell 3 0 (v:=.slice (some ⟨sb,so,none⟩) N sc) rfl rfl;obtain⟨e0,e1,_⟩:=HV.out _ hE.base;obtain⟨_,_,e4,e5⟩:=HBD.out _ hE.base;exact Zg) ?_
       simp only[Act.put,Zl]
      refine ZM 86 _ rfl (fun z=>rfl) (fun z w'=>Zh) (fun g V hS=>?_)
      refine(Zdy HWR.out.1 HIH.out HXA.out HZA.out _).mono ?_
      rintro e V' ⟨rfl,hb⟩
      refine .inl ⟨_,rfl,hS.step hb,?_⟩
      clear hb hS
      simp only[Act.put,Zl]
      iterate 2
       refine ZO _ rfl (fun z=>rfl) (fun z j g w' hS=>Zg) ?_
       simp only[Act.put,Zl]
      refine ZM 84 _ rfl (fun z=>rfl) (fun z w'=>Zh) (fun g V hS=>?_)
      refine(ZfA HXA.out hS.bare.sm).mono ?_
      rintro e V' ⟨xa',ya',hx,rfl,hb⟩
      have HXA2:=Zpp hx
      refine .inl ⟨_,rfl,hS.call hb,?_⟩
      clear hb hS hx
      simp only[Act.put,Zl]
      refine ZaE fun g8 V8 hS=>?_
      simp only[Act.put,Zl]
      have HG8:Hid (SmK b E w ((g8,pObj Zpm Zpm)::[(B0,pObj x1 y1),(G+1+1,pObj x y),(G+1,pObj Zpm Zpm),(G,efO (.slice (some ⟨sb,so,none⟩) N sc) (.slice (some ⟨hb,ho,none⟩) u hc) (.slice (some ⟨rb,ro,none⟩) u rk))]) V8):=hS
      have r0:=HG8.out.cell 0 0 rfl rfl
      have r1:=HG8.out.cell 0 1 rfl rfl
      have f0:=HG8.out.free 0 0 rfl
      have f1:=HG8.out.free 0 1 rfl
      refine ZB rfl rfl fun K hK=>?_
      go_simp
      have HE8:=Zpp (HG8.out.fill (.string xa') (.string ya'))
      refine hK _ _ (.inl rfl) ?_
      clear hK K r0 r1 f0 f1 HG8 hS
      refine ZD ?_
      obtain⟨Z8,hZ⟩:=Zpr ((V8.setCell ⟨g8,0,none⟩ (.string xa')).setCell ⟨g8,1,none⟩ (.string ya'))
      rw[hZ] at HE8 ⊢
      clear hZ
      clear HE
      go_wp2_with fail
      refine Zaq 11 16 [(0,12)] [(1,0),(1,1),(1,2),(1,3),(1,4),(1,5),(1,6),(0,7),(1,8),(1,9),(0,10)] (fun _ g V=>SmK b E w (ZbV (pObj Zpm Zpm) [(g8,pObj xa' ya'),(B0,pObj x1 y1),(G+1+1,pObj x y),(G+1,pObj Zpm Zpm),(G,efO (.slice (some ⟨sb,so,none⟩) N sc) (.slice (some ⟨hb,ho,none⟩) u hc) (.slice (some ⟨rb,ro,none⟩) u rk))] g) V) (fun i=>i==12)
       Zb Zb (fun j hj=>by have h:12<j:=hj;simp;omega) Zi rfl rfl (fun _=>rfl) (fun a V K hK=>by go_simp;exact hK) (fun j V h=>h.push _ rfl) HE8.out.drew ?_
      iterate 7
       refine ZO _ rfl (fun z=>rfl) (fun z j g w' hS=>by have hE:=hS.bare;have f0:=hE.cell 2 0 (v:=.string x) rfl rfl;have f1:=hE.cell 2 1 (v:=.string y) rfl rfl;obtain⟨e4,e5,_,_⟩:=HBD.out _ hE.base;exact Zg) ?_
       simp only[Act.put,Zl]
      refine ZM 86 _ rfl (fun z=>rfl) (fun z w'=>Zh) (fun g V hS=>?_)
      refine(Zdy HXC.out HIC.out HXB.out HZB.out _).mono ?_
      rintro e V' ⟨rfl,hb⟩
      refine .inl ⟨_,rfl,hS.step hb,?_⟩
      clear hb hS
      simp only[Act.put,Zl]
      iterate 2
       refine ZO _ rfl (fun z=>rfl) (fun z j g w' hS=>Zg) ?_
       simp only[Act.put,Zl]
      refine ZM 84 _ rfl (fun z=>rfl) (fun z w'=>Zh) (fun g V hS=>?_)
      refine(ZfA HXB.out hS.bare.sm).mono ?_
      rintro e V' ⟨xb',yb',hx,rfl,hb⟩
      have HXB1:=Zpp hx
      refine .inl ⟨_,rfl,hS.call hb,?_⟩
      clear hb hS hx
      simp only[Act.put,Zl]
      have HXB2:Hid (IsP (zq E zb) xb' yb'):=by rw[<- ZnO];exact HXB1.out
      clear HXB1
      refine ZaE fun g9 V9 hS=>?_
      simp only[Act.put,Zl]
      have HG8:Hid (SmK b E w ((g9,pObj Zpm Zpm)::[(g8,pObj xa' ya'),(B0,pObj x1 y1),(G+1+1,pObj x y),(G+1,pObj Zpm Zpm),(G,efO (.slice (some ⟨sb,so,none⟩) N sc) (.slice (some ⟨hb,ho,none⟩) u hc) (.slice (some ⟨rb,ro,none⟩) u rk))]) V9):=hS
      have r0:=HG8.out.cell 0 0 rfl rfl
      have r1:=HG8.out.cell 0 1 rfl rfl
      have f0:=HG8.out.free 0 0 rfl
      have f1:=HG8.out.free 0 1 rfl
      refine ZB rfl rfl fun K hK=>?_
      go_simp
      have HE9:=Zpp (HG8.out.fill (.string xb') (.string yb'))
      refine hK _ _ (.inl rfl) ?_
      clear hK K r0 r1 f0 f1 HG8 hS
      refine ZD ?_
      obtain⟨Z9,hZ⟩:=Zpr ((V9.setCell ⟨g9,0,none⟩ (.string xb')).setCell ⟨g9,1,none⟩ (.string yb'))
      rw[hZ] at HE9 ⊢
      clear hZ
      clear HE8
      have a0:=HE9.out.cell 1 0 (v:=.string xa') rfl rfl
      have a1:=HE9.out.cell 1 1 (v:=.string ya') rfl rfl
      have b0:=HE9.out.cell 0 0 (v:=.string xb') rfl rfl
      have b1:=HE9.out.cell 0 1 (v:=.string yb') rfl rfl
      obtain⟨n,hn⟩:=Zpr (sgnR (zq E za) (zq E zb))
      go_wp2_with fail
      refine(Za9 HXA2.out HXB2.out hn _).mono ?_
      rintro e w8 ⟨rfl,hb8⟩
      have HE10:=Zpp (HE9.out.step hb8)
      clear hb8 HE9 a0 a1 b0 b1
      by_cases hcmp:zq E za<=zq E zb
      ·have hge:n<=0:=by rw[<- hn];exact Int.not_lt.1 (Za5 hcmp)
       have hex:∃ bo2 s2,Best (Zfx t i c) (k+1) bo2 s2/\IsP (zq E s2) x1 y1:=by
        by_cases hE0:E=0
        ·subst hE0
         have hle:za<=zb:=hcmp
         refine⟨bo,s,HBT.out.keep ?_,HX1.out⟩
         rw[HBF.out]
         unfold posR
         rw[if_pos Zk]
         exact HBT.out.nn
        ·obtain⟨bo2,s2,h2⟩:=Best.ex (Zfx t i c) (k+1)
         refine⟨bo2,s2,h2,?_⟩
         have:=HX1.out
         rw[Zfu hE0] at this ⊢
         exact this
       obtain⟨bo2,s2',hb2,hx2⟩:=hex
       have HBT2:=Zpp hb2
       have HX2:=Zpp hx2
       have HE11:=Zpp (HE10.out.only [2,3,4,5] _ rfl Zd)
       clear hn hcmp HE10 hb2 hx2
       go_wp2
       go_roundw
       case rel=>exact⟨k+1,bo2,s2',x1,y1,by go_num,Za,HBT2,HX2,HE11⟩
       case measure=>exact Zj
      ·have hge:¬ n<=0:=by rw[<- hn];have:=Za6 hcmp;omega
       have hE0:E=0:=by
        by_cases h:E=0
        ·exact h
        ·exact absurd (by rw[Zfu h,Zfu h];exact Rat.le_refl) hcmp
       subst hE0
       have hlt9:zb<za:=Rat.not_le.1 hcmp
       obtain⟨xd,yd,hxd⟩:=HSUB.out hlt9
       have HXD:=Zpp hxd
       have HPO:Hid (Zfx t i c k=za-zb):=by
        show _=_
        rw[HBF.out]
        unfold posR
        rw[if_neg Zk]
       have a0:=HE10.out.cell 1 0 (v:=.string xa') rfl rfl
       have a1:=HE10.out.cell 1 1 (v:=.string ya') rfl rfl
       have b0:=HE10.out.cell 0 0 (v:=.string xb') rfl rfl
       have b1:=HE10.out.cell 0 1 (v:=.string yb') rfl rfl
       clear hn hcmp hlt9 hxd
       go_wp2_with fail
       refine(Zhs HXA2.out HXB2.out HXD.out rfl _).mono ?_
       rintro e w9 ⟨rfl,hb9⟩
       have HE11:=Zpp (HE10.out.step hb9)
       clear hb9 HE10 a0 a1 b0 b1
       go_wp2_with fail
       refine(ZgF xd yd HE11.out.sm).mono ?_
       rintro e w10 ⟨rfl,hb10⟩
       obtain⟨B1,hB1⟩:=Zpr w10.heap.size
       have HE12:=Zpp ((HE11.out.call hb10).push (pObj xd yd) hB1.symm)
       obtain⟨w11,hw11⟩:=Zpr (w10.alloc (pObj xd yd))
       rw[hw11] at HE12
       have a0:=HE12.out.cell 0 0 (v:=.string xd) rfl rfl
       have a1:=HE12.out.cell 0 1 (v:=.string yd) rfl rfl
       have b0:=HE12.out.cell 3 0 (v:=.string x1) rfl rfl
       have b1:=HE12.out.cell 3 1 (v:=.string y1) rfl rfl
       obtain⟨n2,hn2⟩:=Zpr (sgnR (za-zb) s)
       clear hb10 HE11
       go_wp2_with fail
       try rw[hB1]
       try rw[hw11]
       clear hB1 hw11
       refine(Za9 HXD.out HX1.out hn2 _).mono ?_
       rintro e w12 ⟨rfl,hb12⟩
       have HE13:=Zpp (HE12.out.step hb12)
       clear hb12 HE12 a0 a1 b0 b1
       by_cases hc2:s<za-zb
       ·have hg2:(0:Int)<n2:=by rw[<- hn2];exact Za6 (Rat.not_le.2 hc2)
        have HBT2:=Zpp (HBT.out.up (by rw[HPO.out];exact hc2))
        have HX2:Hid (IsP (zq 0 (Zfx t i c k)) xd yd):=by rw[HPO.out];exact HXD.out
        have a0:=HE13.out.cell 0 0 (v:=.string xd) rfl rfl
        have a1:=HE13.out.cell 0 1 (v:=.string yd) rfl rfl
        have HE14:=Zpp (HE13.out.only [3,4,5,6] _ rfl Zd)
        have r0:=HE14.out.cell 0 0 rfl rfl
        have r1:=HE14.out.cell 0 1 rfl rfl
        have f0:=HE14.out.free 0 0 rfl
        have f1:=HE14.out.free 0 1 rfl
        clear hn2 hc2 HE13
        go_wp2
        have HE15:=Zpp (HE14.out.fill (.string xd) (.string yd))
        go_roundw
        case rel=>exact⟨k+1,_,_,xd,yd,by go_num,Za,HBT2,HX2,HE15⟩
        case measure=>exact Zj
       ·have hg2:¬ (0:Int)<n2:=by rw[<- hn2];exact Za5 (Rat.not_lt.1 hc2)
        have HBT2:=Zpp (HBT.out.keep (by rw[HPO.out];exact Rat.not_lt.1 hc2))
        have HE14:=Zpp (HE13.out.only [3,4,5,6] _ rfl Zd)
        clear hn2 hc2 HE13
        go_wp2
        go_roundw
        case rel=>exact⟨k+1,_,_,x1,y1,by go_num,Za,HBT2,HX1,HE14⟩
        case measure=>exact Zj
     ·obtain rfl:k=nq:=Za
      have HSR:Hid (SurR t qs i s):=⟨some c,HL'.out,.inr ⟨c,rfl,bo,by rw[HNQ.out];exact HBT.out⟩⟩
      have HEA:=Zpp (HE.out.only [2,0] _ rfl Zd)
      clear HE
      have c0:=HEA.out.cell 1 0 (v:=.string x1) rfl rfl
      have c1:=HEA.out.cell 1 1 (v:=.string y1) rfl rfl
      have r0:=HEA.out.cell 0 0 rfl rfl
      have r1:=HEA.out.cell 0 1 rfl rfl
      have f0:=HEA.out.free 0 0 rfl
      have f1:=HEA.out.free 0 1 rfl
      go_wp2
      have HQ9:=Zpp (HEA.out.fill (.string x1) (.string y1))
      have q0:=HQ9.out.cell 0 0 (v:=.string x1) rfl rfl
      have q1:=HQ9.out.cell 0 1 (v:=.string y1) rfl rfl
      exact ZoN (v:=Zpn x1 y1) (by simp[results,Tryz.f90,go_sem,q0,q1]) rfl ⟨s,_,_,HSR.out,HX1.out,rfl,HQ9.out.done⟩
end Go.Proofs.YtmpaflidennnoaaGreatDoor
