/- The parts RChance, RMiss, REValue of a proof, put together by program (merge7.py). -/
import Derived.Test.YtmpaflidennnoaaGreatDoorK003
set_option maxRecDepth 100000
set_option maxHeartbeats 8000000
set_option linter.unusedVariables false
set_option linter.unusedSimpArgs false
namespace Go.Proofs.YtmpaflidennnoaaGreatDoor
open Go.RowKit Go.Shelf
attribute [local go_sem ↓] Go.wp_at_zero Go.wp_at_succ
theorem ZiM {v:Value} {bs:List BB} {w:World} {s t:ByteArray} (hv:BL w v bs) (hz:LimB bs) (hs:s.size≤1000000) (ht:t.size≤1000000) :
  Calls Tryz.prog 114 #[v,pV s t] w (Zx (Zbc bs s t) w):=by
 obtain⟨n,hn⟩:=ZnX bs.length
 obtain⟨p,c,rfl⟩:∃ p c,v=.slice p n c:=by obtain⟨p,c,h,_⟩:=id hv;exact⟨_,_,by rw[← hn];exact h⟩
 obtain⟨_,hcc,hnc⟩:=hv.len
 have HL:=ZnV hn
 have HV:=ZnV hv
 have HZ:=ZnV hz
 have HSZ:Hid (s.size≤1000000∧t.size≤1000000):=⟨hs,ht⟩
 clear hv hn hz hs ht
 go_enter Tryz.func114,Tryz.ntmps114
 have HE0:Hid (Env w.heap.size w [(w.heap.size+1,pObj ⟨#[]⟩ ⟨#[]⟩),(w.heap.size,pObj s t)] [] ((w.alloc (pObj s t)).alloc (pObj ⟨#[]⟩ ⟨#[]⟩))):=((Env.start w).push (pObj s t) rfl).push _ (by simp)
 go_wp2_with fail
 refine(Zgj (HV.out.after HE0.out.base ZnW) HZ.out).mono ?_
 rintro e w1 ⟨r,rfl,hr,hb⟩
 have HE1:=ZnV (HE0.out.step hb)
 have HR:=ZnV hr
 clear hb hr HE0
 cases r
 ·have HNO:Hid (¬ (CurveP bs∧Zh 300 (s,t)=true)):=fun h=>by have:=HR.out.2 h.1;cases this
  have HA:Hid (Zbc bs s t ⟨#[]⟩ ⟨#[]⟩ 2):=.inl ⟨HNO.out,rfl,rfl,rfl⟩
  have r0:=HE1.out.cell 0 0 rfl rfl
  have r1:=HE1.out.cell 0 1 rfl rfl
  have f0:=HE1.out.free 0 0 rfl
  have f1:=HE1.out.free 0 1 rfl
  go_wp2
  have HE9:=ZnV (HE1.out.fill (.string ⟨#[]⟩) (.string ⟨#[]⟩))
  have q0:=HE9.out.cell 0 0 (v:=.string ⟨#[]⟩) rfl rfl
  have q1:=HE9.out.cell 0 1 (v:=.string ⟨#[]⟩) rfl rfl
  exact bodyPost_ret (v:=.tuple #[.agg #[.string ⟨#[]⟩,.string ⟨#[]⟩],.int .i64 2]) (by simp[results,Tryz.f114,go_sem,q0,q1]) rfl ⟨⟨#[]⟩,⟨#[]⟩,2,rfl,HA.out,HE9.out.base⟩
 ·have HC:=ZnV (HR.out.1 rfl)
  clear HR
  have c0:=HE1.out.cell 1 0 (v:=.string s) rfl rfl
  have c1:=HE1.out.cell 1 1 (v:=.string t) rfl rfl
  go_wp2_with fail
  refine(ZlV s t HSZ.out.1 HSZ.out.2 _).mono ?_
  rintro e w2 ⟨rfl,hb⟩
  have HE2:=ZnV (HE1.out.step hb)
  clear hb c0 c1 HE1
  cases hsm:Zh 300 (s,t)
  ·have HNO:Hid (¬ (CurveP bs∧Zh 300 (s,t)=true)):=fun h=>by rw[hsm] at h;cases h.2
   clear hsm
   have HA:Hid (Zbc bs s t ⟨#[]⟩ ⟨#[]⟩ 2):=.inl ⟨HNO.out,rfl,rfl,rfl⟩
   have r0:=HE2.out.cell 0 0 rfl rfl
   have r1:=HE2.out.cell 0 1 rfl rfl
   have f0:=HE2.out.free 0 0 rfl
   have f1:=HE2.out.free 0 1 rfl
   go_wp2
   have HE9:=ZnV (HE2.out.fill (.string ⟨#[]⟩) (.string ⟨#[]⟩))
   have q0:=HE9.out.cell 0 0 (v:=.string ⟨#[]⟩) rfl rfl
   have q1:=HE9.out.cell 0 1 (v:=.string ⟨#[]⟩) rfl rfl
   exact bodyPost_ret (v:=.tuple #[.agg #[.string ⟨#[]⟩,.string ⟨#[]⟩],.int .i64 2]) (by simp[results,Tryz.f114,go_sem,q0,q1]) rfl ⟨⟨#[]⟩,⟨#[]⟩,2,rfl,HA.out,HE9.out.base⟩
  ·obtain⟨isq,hz300⟩:=Zbg hsm
   have HSM:=ZnV hsm
   obtain⟨q,hq⟩:=ZnX (ratP s t)
   dsimp only at isq hz300
   rw[hq] at isq hz300
   have HRQ:=ZnV hq
   have IQ:=ZnV isq
   have ZQ:=ZnV hz300
   have c0:=HE2.out.cell 1 0 (v:=.string s) rfl rfl
   have c1:=HE2.out.cell 1 1 (v:=.string t) rfl rfl
   clear hsm isq hz300 hq
   go_wp2_with fail
   refine(Zj1 (HV.out.after HE2.out.base ZnW) HC.out IQ.out).mono ?_
   rintro e w3 ⟨k,rfl,hp,hb⟩
   have HE3:=ZnV (HE2.out.step hb)
   have hkn:=hp.1
   rw[HL.out] at hkn
   have HP:=ZnV hp
   have hln:=HC.out.len
   rw[HL.out] at hln
   obtain⟨r,hr⟩:∃ r,n=r+1:=⟨n-1,by omega⟩
   have e1:IntKind.i64.wrap ((n:Int)-1)=(r:Int):=by rw[IntWalk.i64_in _ (by omega)];omega
   obtain⟨b,off,rfl,hbl,hat⟩:=HV.out.at HL.out (by omega)
   have HAT:=ZnV hat
   have k0':(0:Int)≤(k:Int):=by omega
   have k1':(k:Int)<(n:Int):=by omega
   obtain⟨ic,_⟩:=HC.out.isC (i:=k) (by rw[HL.out];exact hkn)
   obtain⟨ih,_⟩:=HC.out.isH (i:=k) (by rw[HL.out];exact hkn)
   obtain⟨z,hz⟩:=ZnX (bAt bs k)
   rw[hz] at ic ih
   have HFK:Hid (∀ V,Below w.heap.size w V→V.cell? ⟨b,off+k*4,none⟩=some (.string z.1.1)∧V.cell? ⟨b,off+k*4+1,none⟩=some (.string z.1.2)∧V.cell? ⟨b,off+k*4+2,none⟩=some (.string z.2.1)∧V.cell? ⟨b,off+k*4+3,none⟩=some (.string z.2.2)):=fun V hV=>by rw[← hz];exact hat V hV k hkn
   obtain⟨⟨s1,t1⟩,u1,v1⟩:=z
   dsimp only at HFK ic ih
   have IC:=ZnV ic
   have IH:=ZnV ih
   have HRN:=ZnV hr
   clear hb hp c0 c1 HE2 hat hz ic ih hr
   by_cases hkr:k=r
   ·have bk:((k:Int)==(r:Int))=true:=by rw[beq_iff_eq,hkr]
    have HA:Hid (Zbc bs s t u1 v1 0):=.inr ⟨⟨HC.out,HSM.out⟩,rfl,hR bs k,⟨k,by rw[HRQ.out];exact HP.out,by
     unfold lin slo
     rw[if_neg (by rw[HL.out,HRN.out,hkr];omega)]
     grind⟩,IH.out⟩
    obtain⟨a0,a1,a2,a3⟩:=HFK.out w3 HE3.out.base
    clear hkr
    have r0:=HE3.out.cell 0 0 rfl rfl
    have r1:=HE3.out.cell 0 1 rfl rfl
    have f0:=HE3.out.free 0 0 rfl
    have f1:=HE3.out.free 0 1 rfl
    go_wp2
    have HE9:=ZnV (HE3.out.fill (.string u1) (.string v1))
    have q0:=HE9.out.cell 0 0 (v:=.string u1) rfl rfl
    have q1:=HE9.out.cell 0 1 (v:=.string v1) rfl rfl
    exact bodyPost_ret (v:=.tuple #[.agg #[.string u1,.string v1],.int .i64 0]) (by simp[results,Tryz.f114,go_sem,q0,q1]) rfl ⟨u1,v1,0,rfl,HA.out,HE9.out.base⟩
   ·have bk:((k:Int)==(r:Int))=false:=by rw[beq_eq_false_iff_ne];omega
    obtain⟨m,hm⟩:∃ m,m=k+1:=⟨_,rfl⟩
    have e2:IntKind.i64.wrap ((k:Int)+1)=(m:Int):=by rw[IntWalk.i64_in _ (by omega)];omega
    have hmn:k+1<bs.length:=by have:=HL.out;have:=HRN.out;omega
    have m0':(0:Int)≤(m:Int):=by omega
    have m1':(m:Int)<(n:Int):=by have:=HL.out;omega
    obtain⟨⟨x1,y1,f1⟩,⟨x2,y2,f2⟩,⟨x3,y3,f3⟩,⟨x4,y4,f4⟩,⟨x5,y5,f5⟩,⟨x6,y6,f6⟩,f7,f8⟩:=ZeV HC.out IQ.out.nn ZQ.out HP.out hmn
    obtain⟨ic,_⟩:=HC.out.isC (i:=k+1) hmn
    obtain⟨ih,_⟩:=HC.out.isH (i:=k+1) hmn
    obtain⟨z,hz⟩:=ZnX (bAt bs (k+1))
    rw[hz] at ic ih
    have HFM:Hid (∀ V,Below w.heap.size w V→V.cell? ⟨b,off+m*4,none⟩=some (.string z.1.1)∧V.cell? ⟨b,off+m*4+1,none⟩=some (.string z.1.2)∧V.cell? ⟨b,off+m*4+2,none⟩=some (.string z.2.1)∧V.cell? ⟨b,off+m*4+3,none⟩=some (.string z.2.2)):=fun V hV=>by rw[← hz,hm];exact HAT.out V hV (k+1) (by have:=HL.out;omega)
    obtain⟨⟨s2,t2⟩,u2,v2⟩:=z
    dsimp only at HFM ic ih
    have CT1:=ZnV (fun W=>Ze5 IQ.out IC.out f4 rfl W)
    have CT2:=ZnV (fun W=>ZeX IC.out IH.out ic ih f1 f2 f3 f8 W)
    have CT3:=ZnV (fun W=>ZgE f3 f4 f5 rfl W)
    have CT4:=ZnV (fun W=>ZgM IH.out f5 f6 f7.symm W)
    have HA:Hid (Zbc bs s t x6 y6 0):=.inr ⟨⟨HC.out,HSM.out⟩,rfl,_,⟨k,by rw[HRQ.out];exact HP.out,rfl⟩,by rw[HRQ.out];exact f6⟩
    clear hz hm hmn ic ih f1 f2 f3 f4 f5 f6 f7 f8 hkr HP HC HSM HRQ IQ ZQ IC IH HRN
    go_wp2_with fail
    refine Zat 10 8 [(0,11)] [(1,0),(1,1),(1,2),(1,3),(1,4),(1,5),(0,6),(1,7),(1,8),(0,9)] (fun _ g V=>Env w.heap.size w (Zb1 (pObj ⟨#[]⟩ ⟨#[]⟩) [(w.heap.size+1,pObj ⟨#[]⟩ ⟨#[]⟩),(w.heap.size,pObj s t)] g) [] V) (fun i=>i==11)
     (by kernel_rfl) (by kernel_rfl) (fun j hj=>by have h:11<j:=hj;simp;omega) (fun _ _ o _ _ h=>by cases o<;>exact h) rfl rfl (fun _=>rfl) (fun a V K hK=>by go_simp;exact hK) (fun j V h=>h.push _ rfl) HE3.out.drew ?_
    iterate 6
     refine ZG _ rfl (fun z=>rfl) (fun z j g w' hS=>by have hE:=hS.bareG;have c0:=hE.cell 1 0 (v:=.string s) rfl rfl;have c1:=hE.cell 1 1 (v:=.string t) rfl rfl;obtain⟨a0,a1,a2,a3⟩:=HFK.out _ hE.base;simp only[Act.put,List.setIfInBounds_toArray,List.set_cons_zero,List.set_cons_succ];go_simp;first | rfl | (rw[if_pos (by omega)])) ?_
     simp only[ZnP,ZnQ,ZnR,Act.put,ZnS,ZnT,ZnU]
    refine ZK 105 _ rfl (fun z=>rfl) (fun z w'=>by simp only[Act.put,List.setIfInBounds_toArray,List.set_cons_zero,List.set_cons_succ];go_simp;rfl) (fun g V hS=>?_)
    refine(CT1.out _).mono ?_
    rintro e V' ⟨rfl,hb⟩
    refine .inl ⟨_,rfl,hS.step hb,?_⟩
    clear hb hS
    simp only[ZnP,ZnQ,ZnR,Act.put,ZnS,ZnT,ZnU]
    iterate 2
     refine ZG _ rfl (fun z=>rfl) (fun z j g w' hS=>by skip;simp only[Act.put,List.setIfInBounds_toArray,List.set_cons_zero,List.set_cons_succ];go_simp;first | rfl | (rw[if_pos (by omega)])) ?_
     simp only[ZnP,ZnQ,ZnR,Act.put,ZnS,ZnT,ZnU]
    refine ZK 164 _ rfl (fun z=>rfl) (fun z w'=>by simp only[Act.put,List.setIfInBounds_toArray,List.set_cons_zero,List.set_cons_succ];go_simp;rfl) (fun g V hS=>?_)
    refine(ZcI x4 y4 0 _).mono ?_
    rintro e V' ⟨rfl,hb⟩
    refine .inl ⟨_,rfl,hS.step hb,?_⟩
    clear hb hS
    simp only[ZnP,ZnQ,ZnR,Act.put,ZnS,ZnT,ZnU]
    refine ZaP fun G V hS=>?_
    simp only[ZnP,ZnQ,ZnR,Act.put,ZnS,ZnT,ZnU]
    have HE8:Hid (Env w.heap.size w [(G,pObj ⟨#[]⟩ ⟨#[]⟩),(w.heap.size+1,pObj ⟨#[]⟩ ⟨#[]⟩),(w.heap.size,pObj s t)] [] V):=hS
    have r0:=HE8.out.cell 0 0 rfl rfl
    have r1:=HE8.out.cell 0 1 rfl rfl
    have f0:=HE8.out.free 0 0 rfl
    have f1:=HE8.out.free 0 1 rfl
    refine Zq rfl rfl fun K hK=>?_
    go_simp
    have HE4:=ZnV (HE8.out.fill (.string x4) (.string y4))
    refine hK _ _ (.inl rfl) ?_
    clear hK K r0 r1 f0 f1 HE8 HE3 hS
    refine Zt ?_
    obtain⟨w4,hZ⟩:=ZnX ((V.setCell ⟨G,0,none⟩ (.string x4)).setCell ⟨G,1,none⟩ (.string y4))
    rw[hZ] at HE4 ⊢
    clear hZ
    go_wp2_with fail
    obtain⟨W,hW⟩:=ZnX w4.drew
    have HE5:Hid (Env w.heap.size w [(w.heap.size+1,pObj ⟨#[]⟩ ⟨#[]⟩),(G,pObj x4 y4),(w.heap.size,pObj s t)] [] W):=by rw[← hW];exact HE4.out.drew.only [1,0,2] _ rfl (by decide)
    refine ZL [(true,0),(true,1),(true,2),(true,3),(true,4),(true,5),(true,6),(true,7),(true,8),(true,9),(true,10),(true,11),(true,12),(true,13),(true,15),(false,14),(false,16),(true,17),(true,18),(false,19),(false,20),(true,21),(true,22),(false,23),(true,24)] (fun V=>∃ o,Env w.heap.size w [(w.heap.size+1,o),(G,pObj x4 y4),(w.heap.size,pObj s t)] [] V) (fun _=>false)
     (by kernel_rfl) (by kernel_rfl) (by kernel_rfl) (fun _ _=>rfl) (fun _ _ o _ _ h=>by cases o<;>exact h) ⟨_,by rw[hW];exact HE5.out⟩ ?_
    rw[hW]
    clear hW
    iterate 15
     refine Ze _ rfl rfl (fun w' hS=>by obtain⟨o,hS⟩:=hS;have c0:=hS.cell 1 0 (v:=.string x4) rfl rfl;have c1:=hS.cell 1 1 (v:=.string y4) rfl rfl;obtain⟨a0,a1,a2,a3⟩:=HFK.out w' hS.base;obtain⟨b0,b1,b2,b3⟩:=HFM.out w' hS.base;go_simp;first | rfl | (rw[if_pos (by omega)])) ?_
     simp only[ZnP,ZnQ,ZnR,Act.put,ZnS,ZnT,ZnU]
    refine Zg rfl rfl fun K hK=>?_
    go_simp
    go_at_call 140
    have HEC:=HE5
    refine(CT2.out _).mono ?_
    rintro e w6 ⟨rfl,hb⟩
    have HE6:=ZnV (HE5.out.step hb)
    refine hK _ _ (.inr ⟨_,HE6.out⟩) ?_
    clear hK K hb HEC
    refine Zg rfl rfl fun K hK=>?_
    go_simp
    go_at_call 86
    have HEC:=HE6
    refine(CT3.out _).mono ?_
    rintro e w7 ⟨rfl,hb⟩
    have HE7:=ZnV (HE6.out.step hb)
    refine hK _ _ (.inr ⟨_,HE7.out⟩) ?_
    clear hK K hb HEC
    iterate 2
     refine Ze _ rfl rfl (fun w' hS=>by skip;go_simp;first | rfl | (rw[if_pos (by omega)])) ?_
     simp only[ZnP,ZnQ,ZnR,Act.put,ZnS,ZnT,ZnU]
    refine Zg rfl rfl fun K hK=>?_
    go_simp
    go_at_call 164
    have HEC:=HE7
    refine(ZcI x5 y5 0 _).mono ?_
    rintro e w8 ⟨rfl,hb⟩
    have HE8:=ZnV (HE7.out.step hb)
    refine hK _ _ (.inr ⟨_,HE8.out⟩) ?_
    clear hK K hb HEC
    refine Zg rfl rfl fun K hK=>?_
    go_simp
    go_at_call 88
    have HEC:=HE8
    refine(CT4.out _).mono ?_
    rintro e w9 ⟨rfl,hb⟩
    have HE9:=ZnV (HE8.out.step hb)
    refine hK _ _ (.inr ⟨_,HE9.out⟩) ?_
    clear hK K hb HEC
    iterate 2
     refine Ze _ rfl rfl (fun w' hS=>by skip;go_simp;first | rfl | (rw[if_pos (by omega)])) ?_
     simp only[ZnP,ZnQ,ZnR,Act.put,ZnS,ZnT,ZnU]
    have r0:=HE9.out.cell 0 0 rfl rfl
    have r1:=HE9.out.cell 0 1 rfl rfl
    have f0:=HE9.out.free 0 0 rfl
    have f1:=HE9.out.free 0 1 rfl
    refine Zg rfl rfl fun K hK=>?_
    go_simp
    have HE10:=ZnV (HE9.out.fill (.string x6) (.string y6))
    refine hK _ _ (.inr ⟨_,HE10.out⟩) ?_
    clear hK K r0 r1 f0 f1
    iterate 1
     refine Ze _ rfl rfl (fun w' hS=>by skip;go_simp;first | rfl | (rw[if_pos (by omega)])) ?_
     simp only[ZnP,ZnQ,ZnR,Act.put,ZnS,ZnT,ZnU]
    refine Zw ?_
    go_wp2
    have q0:=HE10.out.cell 0 0 (v:=.string x6) rfl rfl
    have q1:=HE10.out.cell 0 1 (v:=.string y6) rfl rfl
    exact bodyPost_ret (v:=.tuple #[.agg #[.string x6,.string y6],.int .i64 0]) (by simp[results,Tryz.f114,go_sem,q0,q1]) rfl ⟨x6,y6,0,rfl,HA.out,HE10.out.base⟩
theorem SmK.bare {b:Nat} {n:Int} {w0 w:World} {ob:Obj} {bs:List (Nat×Obj)} {g:Option Nat} (h:SmK b n w0 (Zb1 ob bs g) w):SmK b n w0 bs w:=by
 cases g with
 | none=>exact h
 | some G=>exact h.tail
theorem Zga {v:Value} {bs:List BB} {w:World} {q:Rat} {s t x y:ByteArray} (hv:BL w v bs) (hC:CurveP bs) (hq:IsP q s t) (hs:Sz 300 q) (hx:IsP (chF bs q) x y) :
  Calls Tryz.prog 114 #[v,pV s t] w (ZM (.tuple #[pV x y,.int .i64 0]) w):=by
 refine(ZiM hv hC.limB hq.limit.1 hq.limit.2).mono ?_
 rintro e w' ⟨u,u2,n,rfl,h,hb⟩
 rcases h with ⟨h,_⟩ | ⟨_,rfl,r',h1,h2⟩
 ·exact absurd ⟨hC,Zgq hq hs (by decide)⟩ h
 ·rw[hq.rat] at h1
  rw[← ZeJ hC h1] at h2
  obtain⟨e1,e2⟩:=ZbC h2 hx rfl
  subst e1 e2
  exact⟨rfl,hb⟩
def VSt (f:Nat→Rat) (N k:Nat) (E:Int) (x y:ByteArray):Prop:=(E=0∧Zae f k∧IsP (sumF f k) x y)∨(E=4∧¬ Zae f N∧IsP 0 x y)
theorem VSt.start (f:Nat→Rat) (N:Nat):VSt f N 0 0 ⟨#[48]⟩ ⟨#[49]⟩:=.inl ⟨rfl,Zae.zero f,ZY⟩
theorem VSt.is {f:Nat→Rat} {N k:Nat} {E:Int} {x y:ByteArray} (h:VSt f N k E x y):IsP (zq E (sumF f k)) x y:=by
 rcases h with ⟨rfl,_,h⟩ | ⟨rfl,_,h⟩
 ·exact h
 ·exact h
theorem VSt.step {f:Nat→Rat} {N k:Nat} {E:Int} {x y u v:ByteArray} {n:Int} (h:VSt f N k E x y) (hk:k<N) (hA:Ans (zq E (sumF f k)+zq E (f k)) u v n) :
  ∃ x6 y6 E6,(if E=0∧n=0 then pV u v else pV ⟨#[48]⟩ ⟨#[49]⟩)=pV x6 y6∧(if E=0 then n else E)=E6∧VSt f N (k+1) E6 x6 y6:=by
 rcases h with ⟨rfl,h1,h2⟩ | ⟨rfl,h1,h2⟩
 ·by_cases hn:n=0
  ·have hx:IsP (sumF f (k+1)) u v:=hA.zero hn
   subst hn
   exact⟨u,v,0,rfl,rfl,.inl ⟨rfl,h1.step hx.fits,hx⟩⟩
  ·rcases hA with ⟨_,h3⟩ | ⟨h3,_,_,rfl⟩
   ·exact absurd h3 hn
   ·exact⟨_,_,4,rfl,rfl,.inr ⟨rfl,Zae.not h3 hk,ZY⟩⟩
 ·exact⟨_,_,4,rfl,rfl,.inr ⟨rfl,h1,ZY⟩⟩
theorem VSt.sum {f:Nat→Rat} {N:Nat} {E:Int} {x y:ByteArray} (h:VSt f N N E x y):SumE f N (if E=0 then x else ⟨#[]⟩) (if E=0 then y else ⟨#[]⟩) E:=by
 rcases h with ⟨rfl,h1,h2⟩ | ⟨rfl,h1,h2⟩
 ·exact .inl ⟨h1,h2,rfl⟩
 ·exact .inr ⟨h1,rfl,rfl,rfl⟩
end Go.Proofs.YtmpaflidennnoaaGreatDoor
