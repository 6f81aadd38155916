/- The parts RChance, RMiss, REValue. -/
import Derived.Test.YtmpaflidennnoaaGreatDoorK003
set_option maxRecDepth 100000
set_option maxHeartbeats 8000000
set_option linter.unusedVariables false
set_option linter.unusedSimpArgs false
namespace Go.Proofs.YtmpaflidennnoaaGreatDoor
open Go.RowKit Go.Shelf
attribute [local go_sem ↓] Go.wp_at_zero Go.wp_at_succ
theorem Zjs {v:Value} {bs:List BB} {w:World} {s t:ByteArray} (hv:BL w v bs) (hz:LimB bs) (hs:s.size<=1000000) (ht:t.size<=1000000) :
  Calls Tryz.prog 114 #[v,pV s t] w (ZL (Zbs bs s t) w):=by
 obtain⟨n,hn⟩:=Zpg bs.length
 obtain⟨p,c,rfl⟩:∃ p c,v=.slice p n c:=by obtain⟨p,c,h,_⟩:=id hv;exact⟨_,_,by rw[<- hn];exact h⟩
 obtain⟨_,hcc,hnc⟩:=hv.len
 have HL:=Zpe hn
 have HV:=Zpe hv
 have HZ:=Zpe hz
 have HSZ:Hid (s.size<=1000000/\t.size<=1000000):=⟨hs,ht⟩
 clear hv hn hz hs ht
 go_enter Tryz.func114,Tryz.ntmps114
 have HE0:Hid (Env w.heap.size w [(w.heap.size+1,pObj Zpa Zpa),(w.heap.size,pObj s t)] [] ((w.alloc (pObj s t)).alloc (pObj Zpa Zpa))):=((Env.start w).push (pObj s t) rfl).push _ Zc
 go_wp2_with fail
 refine(ZgH (HV.out.after HE0.out.base Zpf) HZ.out).mono ?_
 rintro e w1 ⟨r,rfl,hr,hb⟩
 have HE1:=Zpe (HE0.out.step hb)
 have HR:=Zpe hr
 clear hb hr HE0
 cases r
 ·have HNO:Hid (¬ (CurveP bs/\Zw 300 (s,t)=true)):=fun h=>by have:=HR.out.2 h.1;cases this
  have HA:Hid (Zbs bs s t Zpa Zpa 2):=.inl ⟨HNO.out,rfl,rfl,rfl⟩
  have r0:=HE1.out.cell 0 0 rfl rfl
  have r1:=HE1.out.cell 0 1 rfl rfl
  have f0:=HE1.out.free 0 0 rfl
  have f1:=HE1.out.free 0 1 rfl
  go_wp2
  have HE9:=Zpe (HE1.out.fill (.string Zpa) (.string Zpa))
  have q0:=HE9.out.cell 0 0 (v:=.string Zpa) rfl rfl
  have q1:=HE9.out.cell 0 1 (v:=.string Zpa) rfl rfl
  exact Zor (v:=.tuple #[Zpb Zpa Zpa,.int .i64 2]) (by simp[results,Tryz.f114,go_sem,q0,q1]) rfl ⟨Zpa,Zpa,2,rfl,HA.out,HE9.out.base⟩
 ·have HC:=Zpe (HR.out.1 rfl)
  clear HR
  have c0:=HE1.out.cell 1 0 (v:=.string s) rfl rfl
  have c1:=HE1.out.cell 1 1 (v:=.string t) rfl rfl
  go_wp2_with fail
  refine(Zl4 s t HSZ.out.1 HSZ.out.2 _).mono ?_
  rintro e w2 ⟨rfl,hb⟩
  have HE2:=Zpe (HE1.out.step hb)
  clear hb c0 c1 HE1
  cases hsm:Zw 300 (s,t)
  ·have HNO:Hid (¬ (CurveP bs/\Zw 300 (s,t)=true)):=fun h=>by rw[hsm] at h;cases h.2
   clear hsm
   have HA:Hid (Zbs bs s t Zpa Zpa 2):=.inl ⟨HNO.out,rfl,rfl,rfl⟩
   have r0:=HE2.out.cell 0 0 rfl rfl
   have r1:=HE2.out.cell 0 1 rfl rfl
   have f0:=HE2.out.free 0 0 rfl
   have f1:=HE2.out.free 0 1 rfl
   go_wp2
   have HE9:=Zpe (HE2.out.fill (.string Zpa) (.string Zpa))
   have q0:=HE9.out.cell 0 0 (v:=.string Zpa) rfl rfl
   have q1:=HE9.out.cell 0 1 (v:=.string Zpa) rfl rfl
   exact Zor (v:=.tuple #[Zpb Zpa Zpa,.int .i64 2]) (by simp[results,Tryz.f114,go_sem,q0,q1]) rfl ⟨Zpa,Zpa,2,rfl,HA.out,HE9.out.base⟩
  ·obtain⟨isq,hz300⟩:=Zbw hsm
   have HSM:=Zpe hsm
   obtain⟨q,hq⟩:=Zpg (ratP s t)
   dsimp only at isq hz300
   rw[hq] at isq hz300
   have HRQ:=Zpe hq
   have IQ:=Zpe isq
   have ZQ:=Zpe hz300
   have c0:=HE2.out.cell 1 0 (v:=.string s) rfl rfl
   have c1:=HE2.out.cell 1 1 (v:=.string t) rfl rfl
   clear hsm isq hz300 hq
   go_wp2_with fail
   refine(Zk1 (HV.out.after HE2.out.base Zpf) HC.out IQ.out).mono ?_
   rintro e w3 ⟨k,rfl,hp,hb⟩
   have HE3:=Zpe (HE2.out.step hb)
   have hkn:=hp.1
   rw[HL.out] at hkn
   have HP:=Zpe hp
   have hln:=HC.out.len
   rw[HL.out] at hln
   obtain⟨r,hr⟩:∃ r,n=r+1:=⟨n-1,Za⟩
   have e1:IntKind.i64.wrap ((n:Int)-1)=(r:Int):=by rw[Zo1 _ Za];omega
   obtain⟨b,off,rfl,hbl,hat⟩:=HV.out.at HL.out Za
   have HAT:=Zpe hat
   have k0':(0:Int)<=(k:Int):=Za
   have k1':(k:Int)<(n:Int):=Za
   obtain⟨ic,_⟩:=HC.out.isC (i:=k) (by rw[HL.out];exact hkn)
   obtain⟨ih,_⟩:=HC.out.isH (i:=k) (by rw[HL.out];exact hkn)
   obtain⟨z,hz⟩:=Zpg (bAt bs k)
   rw[hz] at ic ih
   have HFK:Hid (∀ V,Below w.heap.size w V->V.cell? ⟨b,off+k*4,none⟩=some (.string z.1.1)/\V.cell? ⟨b,off+k*4+1,none⟩=some (.string z.1.2)/\V.cell? ⟨b,off+k*4+2,none⟩=some (.string z.2.1)/\V.cell? ⟨b,off+k*4+3,none⟩=some (.string z.2.2)):=fun V hV=>by rw[<- hz];exact hat V hV k hkn
   obtain⟨⟨s1,t1⟩,u1,v1⟩:=z
   dsimp only at HFK ic ih
   have IC:=Zpe ic
   have IH:=Zpe ih
   have HRN:=Zpe hr
   clear hb hp c0 c1 HE2 hat hz ic ih hr
   by_cases hkr:k=r
   ·have bk:((k:Int)==(r:Int))=true:=by rw[beq_iff_eq,hkr]
    have HA:Hid (Zbs bs s t u1 v1 0):=.inr ⟨⟨HC.out,HSM.out⟩,rfl,hR bs k,⟨k,by rw[HRQ.out];exact HP.out,by
     unfold lin slo
     rw[if_neg (by rw[HL.out,HRN.out,hkr];omega)]
     grind⟩,IH.out⟩
    obtain⟨a0,a1,a2,a3⟩:=HFK.out w3 HE3.out.base
    clear hkr
    have r0:=HE3.out.cell 0 0 rfl rfl
    have r1:=HE3.out.cell 0 1 rfl rfl
    have f0:=HE3.out.free 0 0 rfl
    have f1:=HE3.out.free 0 1 rfl
    go_wp2
    have HE9:=Zpe (HE3.out.fill (.string u1) (.string v1))
    have q0:=HE9.out.cell 0 0 (v:=.string u1) rfl rfl
    have q1:=HE9.out.cell 0 1 (v:=.string v1) rfl rfl
    exact Zor (v:=.tuple #[Zpb u1 v1,.int .i64 0]) (by simp[results,Tryz.f114,go_sem,q0,q1]) rfl ⟨u1,v1,0,rfl,HA.out,HE9.out.base⟩
   ·have bk:((k:Int)==(r:Int))=false:=by rw[beq_eq_false_iff_ne];omega
    obtain⟨m,hm⟩:∃ m,m=k+1:=⟨_,rfl⟩
    have e2:IntKind.i64.wrap ((k:Int)+1)=(m:Int):=by rw[Zo1 _ Za];omega
    have hmn:k+1<bs.length:=by have:=HL.out;have:=HRN.out;omega
    have m0':(0:Int)<=(m:Int):=Za
    have m1':(m:Int)<(n:Int):=by have:=HL.out;omega
    obtain⟨⟨x1,y1,f1⟩,⟨x2,y2,f2⟩,⟨x3,y3,f3⟩,⟨x4,y4,f4⟩,⟨x5,y5,f5⟩,⟨x6,y6,f6⟩,f7,f8⟩:=Ze1 HC.out IQ.out.nn ZQ.out HP.out hmn
    obtain⟨ic,_⟩:=HC.out.isC (i:=k+1) hmn
    obtain⟨ih,_⟩:=HC.out.isH (i:=k+1) hmn
    obtain⟨z,hz⟩:=Zpg (bAt bs (k+1))
    rw[hz] at ic ih
    have HFM:Hid (∀ V,Below w.heap.size w V->V.cell? ⟨b,off+m*4,none⟩=some (.string z.1.1)/\V.cell? ⟨b,off+m*4+1,none⟩=some (.string z.1.2)/\V.cell? ⟨b,off+m*4+2,none⟩=some (.string z.2.1)/\V.cell? ⟨b,off+m*4+3,none⟩=some (.string z.2.2)):=fun V hV=>by rw[<- hz,hm];exact HAT.out V hV (k+1) (by have:=HL.out;omega)
    obtain⟨⟨s2,t2⟩,u2,v2⟩:=z
    dsimp only at HFM ic ih
    have CT1:=Zpe (fun W=>ZfC IQ.out IC.out f4 rfl W)
    have CT2:=Zpe (fun W=>ZeZ IC.out IH.out ic ih f1 f2 f3 f8 W)
    have CT3:=Zpe (fun W=>Zfy f3 f4 f5 rfl W)
    have CT4:=Zpe (fun W=>Zhe IH.out f5 f6 f7.symm W)
    have HA:Hid (Zbs bs s t x6 y6 0):=.inr ⟨⟨HC.out,HSM.out⟩,rfl,_,⟨k,by rw[HRQ.out];exact HP.out,rfl⟩,by rw[HRQ.out];exact f6⟩
    clear hz hm hmn ic ih f1 f2 f3 f4 f5 f6 f7 f8 hkr HP HC HSM HRQ IQ ZQ IC IH HRN
    go_wp2_with fail
    refine Zaw 10 8 [(0,11)] [(1,0),(1,1),(1,2),(1,3),(1,4),(1,5),(0,6),(1,7),(1,8),(0,9)] (fun _ g V=>Env w.heap.size w (Zca (pObj Zpa Zpa) [(w.heap.size+1,pObj Zpa Zpa),(w.heap.size,pObj s t)] g) [] V) (fun i=>i==11)
     Zb Zb (fun j hj=>by have h:11<j:=hj;simp;omega) Zi rfl rfl (fun _=>rfl) (fun a V K hK=>by go_simp;exact hK) (fun j V h=>h.push _ rfl) HE3.out.drew ?_
    iterate 6
     refine ZS _ rfl (fun z=>rfl) (fun z j g w' hS=>by have hE:=hS.bareG;have c0:=hE.cell 1 0 (v:=.string s) rfl rfl;have c1:=hE.cell 1 1 (v:=.string t) rfl rfl;obtain⟨a0,a1,a2,a3⟩:=HFK.out _ hE.base;exact Zg) ?_
     simp only[Act.put,Zl]
    refine ZU 105 _ rfl (fun z=>rfl) (fun z w'=>Zh) (fun g V hS=>?_)
    refine(CT1.out _).mono ?_
    rintro e V' ⟨rfl,hb⟩
    refine .inl ⟨_,rfl,hS.step hb,?_⟩
    clear hb hS
    simp only[Act.put,Zl]
    iterate 2
     refine ZS _ rfl (fun z=>rfl) (fun z j g w' hS=>Zg) ?_
     simp only[Act.put,Zl]
    refine ZU 164 _ rfl (fun z=>rfl) (fun z w'=>Zh) (fun g V hS=>?_)
    refine(Zdc x4 y4 0 _).mono ?_
    rintro e V' ⟨rfl,hb⟩
    refine .inl ⟨_,rfl,hS.step hb,?_⟩
    clear hb hS
    simp only[Act.put,Zl]
    refine ZaP fun G V hS=>?_
    simp only[Act.put,Zl]
    have HE8:Hid (Env w.heap.size w [(G,pObj Zpa Zpa),(w.heap.size+1,pObj Zpa Zpa),(w.heap.size,pObj s t)] [] V):=hS
    have r0:=HE8.out.cell 0 0 rfl rfl
    have r1:=HE8.out.cell 0 1 rfl rfl
    have f0:=HE8.out.free 0 0 rfl
    have f1:=HE8.out.free 0 1 rfl
    refine ZB rfl rfl fun K hK=>?_
    go_simp
    have HE4:=Zpe (HE8.out.fill (.string x4) (.string y4))
    refine hK _ _ (.inl rfl) ?_
    clear hK K r0 r1 f0 f1 HE8 HE3 hS
    refine ZD ?_
    obtain⟨w4,hZ⟩:=Zpg ((V.setCell ⟨G,0,none⟩ (.string x4)).setCell ⟨G,1,none⟩ (.string y4))
    rw[hZ] at HE4 ⊢
    clear hZ
    go_wp2_with fail
    obtain⟨W,hW⟩:=Zpg w4.drew
    have HE5:Hid (Env w.heap.size w [(w.heap.size+1,pObj Zpa Zpa),(G,pObj x4 y4),(w.heap.size,pObj s t)] [] W):=by rw[<- hW];exact HE4.out.drew.only [1,0,2] _ rfl Zd
    refine Z0 [(true,0),(true,1),(true,2),(true,3),(true,4),(true,5),(true,6),(true,7),(true,8),(true,9),(true,10),(true,11),(true,12),(true,13),(true,15),(false,14),(false,16),(true,17),(true,18),(false,19),(false,20),(true,21),(true,22),(false,23),(true,24)] (fun V=>∃ o,Env w.heap.size w [(w.heap.size+1,o),(G,pObj x4 y4),(w.heap.size,pObj s t)] [] V) (fun _=>false)
     Zb Zb Zb (fun _ _=>rfl) Zi ⟨_,by rw[hW];exact HE5.out⟩ ?_
    rw[hW]
    clear hW
    iterate 15
     refine Zr _ rfl rfl (fun w' hS=>by obtain⟨o,hS⟩:=hS;have c0:=hS.cell 1 0 (v:=.string x4) rfl rfl;have c1:=hS.cell 1 1 (v:=.string y4) rfl rfl;obtain⟨a0,a1,a2,a3⟩:=HFK.out w' hS.base;obtain⟨b0,b1,b2,b3⟩:=HFM.out w' hS.base;exact Ze) ?_
     simp only[Act.put,Zl]
    refine Zt rfl rfl fun K hK=>?_
    go_simp
    go_at_call 140
    have HEC:=HE5
    refine(CT2.out _).mono ?_
    rintro e w6 ⟨rfl,hb⟩
    have HE6:=Zpe (HE5.out.step hb)
    refine hK _ _ (.inr ⟨_,HE6.out⟩) ?_
    clear hK K hb HEC
    refine Zt rfl rfl fun K hK=>?_
    go_simp
    go_at_call 86
    have HEC:=HE6
    refine(CT3.out _).mono ?_
    rintro e w7 ⟨rfl,hb⟩
    have HE7:=Zpe (HE6.out.step hb)
    refine hK _ _ (.inr ⟨_,HE7.out⟩) ?_
    clear hK K hb HEC
    iterate 2
     refine Zr _ rfl rfl (fun w' hS=>Ze) ?_
     simp only[Act.put,Zl]
    refine Zt rfl rfl fun K hK=>?_
    go_simp
    go_at_call 164
    have HEC:=HE7
    refine(Zdc x5 y5 0 _).mono ?_
    rintro e w8 ⟨rfl,hb⟩
    have HE8:=Zpe (HE7.out.step hb)
    refine hK _ _ (.inr ⟨_,HE8.out⟩) ?_
    clear hK K hb HEC
    refine Zt rfl rfl fun K hK=>?_
    go_simp
    go_at_call 88
    have HEC:=HE8
    refine(CT4.out _).mono ?_
    rintro e w9 ⟨rfl,hb⟩
    have HE9:=Zpe (HE8.out.step hb)
    refine hK _ _ (.inr ⟨_,HE9.out⟩) ?_
    clear hK K hb HEC
    iterate 2
     refine Zr _ rfl rfl (fun w' hS=>Ze) ?_
     simp only[Act.put,Zl]
    have r0:=HE9.out.cell 0 0 rfl rfl
    have r1:=HE9.out.cell 0 1 rfl rfl
    have f0:=HE9.out.free 0 0 rfl
    have f1:=HE9.out.free 0 1 rfl
    refine Zt rfl rfl fun K hK=>?_
    go_simp
    have HE10:=Zpe (HE9.out.fill (.string x6) (.string y6))
    refine hK _ _ (.inr ⟨_,HE10.out⟩) ?_
    clear hK K r0 r1 f0 f1
    iterate 1
     refine Zr _ rfl rfl (fun w' hS=>Ze) ?_
     simp only[Act.put,Zl]
    refine ZJ ?_
    go_wp2
    have q0:=HE10.out.cell 0 0 (v:=.string x6) rfl rfl
    have q1:=HE10.out.cell 0 1 (v:=.string y6) rfl rfl
    exact Zor (v:=.tuple #[Zpb x6 y6,.int .i64 0]) (by simp[results,Tryz.f114,go_sem,q0,q1]) rfl ⟨x6,y6,0,rfl,HA.out,HE10.out.base⟩
theorem SmK.bare {b:Nat} {n:Int} {w0 w:World} {ob:Obj} {bs:List (Nat×Obj)} {g:Option Nat} (h:SmK b n w0 (Zca ob bs g) w):SmK b n w0 bs w:=by
 cases g with
 | none=>exact h
 | some G=>exact h.tail
theorem ZeH {v:Value} {bs:List BB} {w:World} {q:Rat} {s t x y:ByteArray} (hv:BL w v bs) (hC:CurveP bs) (hq:IsP q s t) (hs:Sz 300 q) (hx:IsP (chF bs q) x y) :
  Calls Tryz.prog 114 #[v,pV s t] w (ZV (.tuple #[pV x y,.int .i64 0]) w):=by
 refine(Zjs hv hC.limB hq.limit.1 hq.limit.2).mono ?_
 rintro e w' ⟨u,u2,n,rfl,h,hb⟩
 rcases h with ⟨h,_⟩ | ⟨_,rfl,r',h1,h2⟩
 ·exact Zo4 ⟨hC,Zgr hq hs Zd⟩ h
 ·rw[hq.rat] at h1
  rw[<- Ze3 hC h1] at h2
  obtain⟨e1,e2⟩:=Zcs h2 hx rfl
  subst e1 e2
  exact⟨rfl,hb⟩
theorem Zn2 (n:Int) (c q:Rat):c*zq n q=zq n (c*q):=by unfold zq;split<;>grind
theorem Zol (n:Int) (bs:List BB) (q:Rat):zq n (chF bs (zq n q))=zq n (chF bs q):=by unfold zq;split<;>rfl
theorem Zno {n:Int} {q:Rat} {k:Nat} (h:Sz (k+1) q):Sz (k+1) (zq n q):=by
 unfold zq
 split
 ·exact h
 ·exact(show Sz 1 (0:Rat) from ⟨by decide +kernel,by decide +kernel⟩).mono Za
def VSt (f:Nat->Rat) (N k:Nat) (E:Int) (x y:ByteArray):Prop:=(E=0/\Zap f k/\IsP (sumF f k) x y)\/(E=4/\¬ Zap f N/\IsP 0 x y)
theorem VSt.start (f:Nat->Rat) (N:Nat):VSt f N 0 0 ⟨#[48]⟩ ⟨#[49]⟩:=.inl ⟨rfl,Zap.zero f,Zad⟩
theorem VSt.is {f:Nat->Rat} {N k:Nat} {E:Int} {x y:ByteArray} (h:VSt f N k E x y):IsP (zq E (sumF f k)) x y:=by
 rcases h with ⟨rfl,_,h⟩ | ⟨rfl,_,h⟩
 ·exact h
 ·exact h
theorem VSt.step {f:Nat->Rat} {N k:Nat} {E:Int} {x y u v:ByteArray} {n:Int} (h:VSt f N k E x y) (hk:k<N) (hA:Ans (zq E (sumF f k)+zq E (f k)) u v n) :
  ∃ x6 y6 E6,(if E=0/\n=0 then pV u v else pV ⟨#[48]⟩ ⟨#[49]⟩)=pV x6 y6/\(if E=0 then n else E)=E6/\VSt f N (k+1) E6 x6 y6:=by
 rcases h with ⟨rfl,h1,h2⟩ | ⟨rfl,h1,h2⟩
 ·by_cases hn:n=0
  ·have hx:IsP (sumF f (k+1)) u v:=hA.zero hn
   subst hn
   exact⟨u,v,0,rfl,rfl,.inl ⟨rfl,h1.step hx.fits,hx⟩⟩
  ·rcases hA with ⟨_,h3⟩ | ⟨h3,_,_,rfl⟩
   ·exact Zo4 h3 hn
   ·exact⟨_,_,4,rfl,rfl,.inr ⟨rfl,Zap.not h3 hk,Zad⟩⟩
 ·exact⟨_,_,4,rfl,rfl,.inr ⟨rfl,h1,Zad⟩⟩
theorem VSt.sum {f:Nat->Rat} {N:Nat} {E:Int} {x y:ByteArray} (h:VSt f N N E x y):SumE f N (if E=0 then x else Zpa) (if E=0 then y else Zpa) E:=by
 rcases h with ⟨rfl,h1,h2⟩ | ⟨rfl,h1,h2⟩
 ·exact .inl ⟨h1,h2,rfl⟩
 ·exact .inr ⟨h1,rfl,rfl,rfl⟩
theorem ZmW {a b:Rat} {s t u v:ByteArray} (ha:IsP a s t) (hb:IsP b u v) (w:World) :
  Calls Tryz.prog 88 #[pV s t,pV u v] w (ZL (Ans (a+b)) w):=by
 refine(Zis s t u v w ha.le.1 ha.le.2 hb.le.1 hb.le.2).mono ?_
 rintro e w' ⟨x,y,n,rfl,h,hB⟩
 rcases h with ⟨h,_⟩ | ⟨_,h⟩
 ·rw[ha.oks hb] at h;cases h
 ·rw[ha.rat,hb.rat] at h
  exact⟨x,y,n,rfl,h,hB⟩
def SmS (b:Nat) (f:Nat->Rat) (N:Nat) (w:World) (e:Ending) (w':World):Prop:=∃ x y E,VSt f N N E x y/\SmV b (pV x y) E w e w'
theorem Zk9 {t:TaskP} {p:List (List Int)} {b:Nat} {sv hv rv pv:Value} {pb po pc:Nat} {gq gp gc:Nat->Nat} {w:World} (hE:Zb0 b (TaskIn t sv hv rv) w) (hP:PlanW p t.sites.length b pv pb po pc gq gp gc w) (hs:w.heap[b]?=some (smO 0)) (ok:TaskOk t) (inn:Zbu t p) :
  Calls Tryz.prog 75 #[.pointer (some ⟨b,0,none⟩),.agg #[sv,hv,rv],pv] w (SmS b (valF t p) t.sites.length w):=by
 obtain⟨sb,so,sc,hb,ho,hc,rb,ro,rk,cv,rq,rp,rc,rfl,rfl,rfl,k1,k2,k3,hA⟩:=hE.open ok
 obtain rfl:=hP.val
 obtain⟨N,hN⟩:=Zpg t.sites.length
 have HV:Hid (∀ i,i<N->∀ V,Keeps (NotM b) w V->V.cell? ⟨sb,so+i*3,none⟩=some (.string (eS t i).weight.1)/\V.cell? ⟨sb,so+i*3+1,none⟩=some (.string (eS t i).weight.2)/\V.cell? ⟨sb,so+i*3+2,none⟩=some (cv i)/\BL V (cv i) (eS t i).curve):=fun i hi V hV=>(hA V hV).site i (by rw[hN];exact hi)
 have HCV:Hid (∀ i,i<N->∀ V E,Keeps (NotM b) w V->V.heap[b]?=some (smO E)->Calls Tryz.prog 73 #[.pointer (some ⟨b,0,none⟩),.agg #[.slice (some ⟨sb,so,none⟩) N sc,.slice (some ⟨hb,ho,none⟩) t.hours.length hc,.slice (some ⟨rb,ro,none⟩) t.rates.length rk],.slice (some ⟨pb,po,none⟩) p.length pc,.int .i64 i] V (SmP b E (zq E (covR t p i)) V)):=fun i hi V E hV hs=>by
  rw[<- hN]
  exact Zew (hE.keep hV) (hP.keep hV) hs ok inn (by rw[hN];exact hi)
 have HF:Hid (∀ i,i<N->IsP (wR t i) (eS t i).weight.1 (eS t i).weight.2/\(∃ x y,IsP (valF t p i) x y)/\CurveP (eS t i).curve/\∀ E,Sz 300 (zq E (covR t p i))/\∃ x y,IsP (chF (eS t i).curve (zq E (covR t p i))) x y):=fun i hi=>by
  have hi':i<t.sites.length:=by rw[hN];exact hi
  obtain⟨c1,c2,c3⟩:=ZcW ok inn hi' Zpf
  obtain⟨d1,d2,d3,d4⟩:=Zcv ok hi' c3 c2 Zd
  obtain⟨w1,w2⟩:=Zfz ok hi'
  have n0:=Rat.mul_nonneg w1.nn d3
  refine⟨w1,Zaa n0 (Sz.mul w1.nn d3 w2 d2) Zd Zd,(ok.site i hi').2,fun E=>⟨Zno (c2.mono Zd),?_⟩⟩
  exact(Zcv ok hi' (Zon c3) (Zno (k:=96) c2) Zd).1
 have HSH:Hid (∀ i,i<N->∃ p n c,cv i=.slice p n c):=fun i hi=>by
  obtain⟨_,_,_,p,c,h2,_⟩:=HV.out i hi w (Keeps.refl _ _)
  exact⟨_,_,_,h2⟩
 have hN24:N<=24:=by rw[<- hN];exact ok.sites.2
 have hsc:N<=sc/\sc<=9223372036854775807:=by rw[<- hN];exact k1
 have HS:=Zpe hs
 obtain⟨T,hT⟩:=Zpg t.hours.length
 obtain⟨R,hR⟩:=Zpg t.rates.length
 obtain⟨P,hPL⟩:=Zpg p.length
 rw[hT,hR,hPL] at HCV
 rw[hN,hT,hR,hPL]
 clear hE hP hs ok inn hA k1 k2 k3 hN hT hR hPL
 obtain⟨G,hG⟩:=Zpg w.heap.size
 have HE0:Hid (SmK b 0 w [(G+1,pObj Zpa Zpa),(G,efO (.slice (some ⟨sb,so,none⟩) N sc) (.slice (some ⟨hb,ho,none⟩) T hc) (.slice (some ⟨rb,ro,none⟩) R rk))] ((w.alloc (efO (.slice (some ⟨sb,so,none⟩) N sc) (.slice (some ⟨hb,ho,none⟩) T hc) (.slice (some ⟨rb,ro,none⟩) R rk))).alloc (pObj Zpa Zpa))):=
  ((SmK.start HS.out).push _ hG.symm).push _ (by simp[hG])
 go_enter Tryz.func75,Tryz.ntmps75
 go_wp2_with fail
 refine(Zcw _).mono ?_
 rintro e w1 ⟨rfl,hb1⟩
 obtain⟨gx,hg⟩:=Zpg w1.heap.size
 have HE1:=Zpe ((HE0.out.step hb1).push (pObj ⟨#[48]⟩ ⟨#[49]⟩) hg.symm)
 obtain⟨w2,hw2⟩:=Zpg (w1.alloc (pObj ⟨#[48]⟩ ⟨#[49]⟩))
 rw[hw2] at HE1
 clear hb1 HE0
 go_wp2_with fail
 try rw[hg]
 try rw[hw2]
 try rw[hG]
 clear hg hw2 hG
 go_loopw [8] (fun v wr=>∃ (k:Nat) (E:Int) (x y:ByteArray),v=.int .i64 k/\k<=N/\Hid (VSt (valF t p) N k E x y)/\Hid (SmK b E w [(gx,pObj x y),(G+1,pObj Zpa Zpa),(G,efO (.slice (some ⟨sb,so,none⟩) N sc) (.slice (some ⟨hb,ho,none⟩) T hc) (.slice (some ⟨rb,ro,none⟩) R rk))] wr)) (fun v _=>N-(intOf v).toNat)
 case atStart=>exact⟨0,0,_,_,rfl,ZoD _,VSt.start _ _,HE1⟩
 case round=>
  obtain⟨k,E,x,y,rfl,hk,HVS,HE⟩:=hrel
  clear HE1
  have b0:=HE.out.cell 2 0 (v:=.slice (some ⟨sb,so,none⟩) N sc) rfl rfl
  by_cases hlt:k<N
  ·have HVK:=Zpe (HV.out k hlt)
   have HCK:=Zpe (HCV.out k hlt)
   obtain⟨hF1,⟨x8,y8,hx8⟩,hcu,hF2⟩:=HF.out k hlt
   obtain⟨hzc,xh,yh,hxh⟩:=hF2 E
   obtain⟨x8,y8,hx8⟩:=Znh (n:=E) ⟨x8,y8,hx8⟩
   obtain⟨pq,nq,cq,hcv⟩:=HSH.out k hlt
   obtain⟨⟨s1,t1⟩,hs1⟩:∃ z,(eS t k).weight=z:=⟨_,rfl⟩
   rw[hcv,hs1] at HVK
   rw[hs1] at hF1
   dsimp only at HVK hF1
   have HX8:=Zpe hx8
   have HWR:=Zpe hF1
   have HZC:=Zpe hzc
   have HXH:=Zpe hxh
   have HCU:=Zpe hcu
   have HIS:=Zpe HVS.out.is
   have i0':(0:Int)<=(k:Int):=Za
   have i1':(k:Int)<(N:Int):=Za
   clear hF1 hx8 hcu hF2 hzc hxh hcv hs1
   go_wp2_with fail
   clear b0
   refine Zaw 16 9 [(0,17)] [(1,0),(1,1),(1,2),(1,3),(1,4),(1,5),(1,6),(1,7),(1,8),(1,9),(1,10),(0,11),(0,12),(1,13),(1,14),(0,15)] (fun _ g V=>SmK b E w (Zca (pObj Zpa Zpa) [(gx,pObj x y),(G+1,pObj Zpa Zpa),(G,efO (.slice (some ⟨sb,so,none⟩) N sc) (.slice (some ⟨hb,ho,none⟩) T hc) (.slice (some ⟨rb,ro,none⟩) R rk))] g) V) (fun i=>i==17)
    Zb Zb (fun j hj=>by have h:17<j:=hj;simp;omega) Zi rfl rfl (fun _=>rfl) (fun a V K hK=>by go_simp;exact hK) (fun j V h=>h.push _ rfl) HE.out.drew ?_
   iterate 11
    refine ZS _ rfl (fun z=>rfl) (fun z j g w' hS=>by have hE:=hS.bare;have d0:=hE.cell 2 0 (v:=.slice (some ⟨sb,so,none⟩) N sc) rfl rfl;have d1:=hE.cell 2 1 (v:=.slice (some ⟨hb,ho,none⟩) T hc) rfl rfl;have d2:=hE.cell 2 2 (v:=.slice (some ⟨rb,ro,none⟩) R rk) rfl rfl;obtain⟨_,_,e2,_⟩:=HVK.out _ hE.base;exact Zg) ?_
    simp only[Act.put,Zl]
   refine ZU 73 _ rfl (fun z=>rfl) (fun z w'=>Zh) (fun g V hS=>?_)
   refine(HCK.out _ _ hS.bare.base hS.bare.sm).mono ?_
   rintro e V' ⟨xc,yc,hxc,rfl,hb⟩
   refine .inl ⟨_,rfl,hS.call hb,?_⟩
   clear hb hS
   simp only[Act.put,Zl]
   have HXC:=Zpe hxc
   clear hxc
   refine ZU 114 _ rfl (fun z=>rfl) (fun z w'=>Zh) (fun g V hS=>?_)
   refine(ZeH (HVK.out _ hS.bare.base).2.2.2 HCU.out HXC.out HZC.out HXH.out).mono ?_
   rintro e V' ⟨rfl,hb⟩
   refine .inl ⟨_,rfl,hS.step hb,?_⟩
   clear hb hS
   simp only[Act.put,Zl]
   iterate 2
    refine ZS _ rfl (fun z=>rfl) (fun z j g w' hS=>Zg) ?_
    simp only[Act.put,Zl]
   refine ZU 84 _ rfl (fun z=>rfl) (fun z w'=>Zh) (fun g V hS=>?_)
   refine(Zic HXH.out hS.bare.sm).mono ?_
   rintro e V' ⟨x1,y1,hx,rfl,hb⟩
   have HX0:=Zpe hx
   refine .inl ⟨_,rfl,hS.call hb,?_⟩
   clear hb hS hx
   simp only[Act.put,Zl]
   have HX1:Hid (IsP (zq E (chF (eS t k).curve (covR t p k))) x1 y1):=by rw[<- Zol];exact HX0.out
   clear HX0
   refine ZaP fun g9 V9 hS=>?_
   simp only[Act.put,Zl]
   have HG8:Hid (SmK b E w ((g9,pObj Zpa Zpa)::[(gx,pObj x y),(G+1,pObj Zpa Zpa),(G,efO (.slice (some ⟨sb,so,none⟩) N sc) (.slice (some ⟨hb,ho,none⟩) T hc) (.slice (some ⟨rb,ro,none⟩) R rk))]) V9):=hS
   have r0:=HG8.out.cell 0 0 rfl rfl
   have r1:=HG8.out.cell 0 1 rfl rfl
   have f0:=HG8.out.free 0 0 rfl
   have f1:=HG8.out.free 0 1 rfl
   refine ZB rfl rfl fun K hK=>?_
   go_simp
   have HE9:=Zpe (HG8.out.fill (.string x1) (.string y1))
   refine hK _ _ (.inl rfl) ?_
   clear hK K r0 r1 f0 f1 HG8 hS
   refine ZD ?_
   obtain⟨Z9,hZ⟩:=Zpg ((V9.setCell ⟨g9,0,none⟩ (.string x1)).setCell ⟨g9,1,none⟩ (.string y1))
   rw[hZ] at HE9 ⊢
   clear hZ
   clear HE
   go_wp2_with fail
   refine ZP [(1,0),(1,1),(1,2),(1,3),(1,4),(1,5),(1,6),(1,7),(1,8),(1,9),(0,10),(1,11),(1,12),(0,13),(0,14),(1,15),(1,16),(0,17),(0,18)] (fun V=>∃ E,SmK b E w [(g9,pObj x1 y1),(gx,pObj x y),(G+1,pObj Zpa Zpa),(G,efO (.slice (some ⟨sb,so,none⟩) N sc) (.slice (some ⟨hb,ho,none⟩) T hc) (.slice (some ⟨rb,ro,none⟩) R rk))] V) (fun i=>i==18)
    Zb Zb (fun j hj=>by have h:19<=j:=hj;simp;omega) Zi ⟨_,HE9.out.drew⟩ ?_
   obtain⟨w4,hw4⟩:=Zpg Z9.drew
   have HE4:=Zpe HE9.out.drew
   rw[hw4] at HE4 ⊢
   clear hw4 HE9
   iterate 10
    refine Zx _ rfl rfl (fun w' hS=>by obtain⟨_,hS⟩:=hS;have c0:=hS.cell 0 0 (v:=.string x1) rfl rfl;have c1:=hS.cell 0 1 (v:=.string y1) rfl rfl;have c2:=hS.cell 1 0 (v:=.string x) rfl rfl;have c3:=hS.cell 1 1 (v:=.string y) rfl rfl;have d0:=hS.cell 3 0 (v:=.slice (some ⟨sb,so,none⟩) N sc) rfl rfl;obtain⟨e0,e1,_⟩:=HVK.out _ hS.base;exact Ze) ?_
    simp only[Act.put,Zl]
   refine Zy 86 _ rfl rfl Zf ?_
   have HEC:=HE4
   refine(Zfy HWR.out HX1.out HX8.out (Zn2 _ _ _) _).mono ?_
   rintro e w5 ⟨rfl,hb⟩
   have HE5:=Zpe (HEC.out.step hb)
   refine .inl ⟨_,rfl,⟨_,HE5.out⟩,?_⟩
   clear hb HEC
   simp only[Act.put,Zl]
   iterate 2
    refine Zx _ rfl rfl (fun w' hS=>Ze) ?_
    simp only[Act.put,Zl]
   refine Zy 84 _ rfl rfl Zf ?_
   have HEC:=HE5
   refine(Zic HX8.out HEC.out.sm).mono ?_
   rintro e w6 ⟨x7,y7,hx7,rfl,hb⟩
   have HE6:=Zpe (HEC.out.call hb)
   refine .inl ⟨_,rfl,⟨_,HE6.out⟩,?_⟩
   clear hb HEC
   simp only[Act.put,Zl]
   have HX7:Hid (IsP (zq E (valF t p k)) x7 y7):=by rw[<- Znj];exact hx7
   clear hx7
   refine Zy 88 _ rfl rfl Zf ?_
   have HEC:=HE6
   refine(ZmW HIS.out HX7.out _).mono ?_
   rintro e w7 ⟨x9,y9,n9,rfl,hA9,hb⟩
   have HE7:=Zpe (HEC.out.step hb)
   refine .inl ⟨_,rfl,⟨_,HE7.out⟩,?_⟩
   clear hb HEC
   simp only[Act.put,Zl]
   obtain⟨x6,y6,E6,he1,he2,hvs⟩:=HVS.out.step hlt hA9
   have hdo:=ZgW x9 y9 n9 HE7.out.sm
   rw[he1,he2] at hdo
   have HVS6:=Zpe hvs
   have HDO:=Zpe hdo
   clear hA9 he1 he2 hvs hdo
   iterate 2
    refine Zx _ rfl rfl (fun w' hS=>Ze) ?_
    simp only[Act.put,Zl]
   refine Zy 84 _ rfl rfl Zf ?_
   have HEC:=HE7
   refine(HDO.out).mono ?_
   rintro e w8 ⟨rfl,hb⟩
   have HE8:=Zpe (HEC.out.call hb)
   refine .inl ⟨_,rfl,⟨_,HE8.out⟩,?_⟩
   clear hb HEC
   simp only[Act.put,Zl]
   have HE9:=Zpe (HE8.out.only [1,2,3] _ rfl Zd)
   have r0:=HE9.out.cell 0 0 rfl rfl
   have r1:=HE9.out.cell 0 1 rfl rfl
   have f0:=HE9.out.free 0 0 rfl
   have f1:=HE9.out.free 0 1 rfl
   refine ZB rfl rfl fun K hK=>?_
   go_simp
   have HE10:=Zpe (HE9.out.fill (.string x6) (.string y6))
   refine hK _ _ (.inl rfl) ?_
   clear hK K r0 r1 f0 f1
   refine ZD ?_
   clear HE4 HE5 HE6 HE7 HE8 HE9
   go_wp2
   go_roundw
   case rel=>exact⟨k+1,E6,x6,y6,by go_num,Za,HVS6,HE10⟩
   case measure=>exact Zj
  ·obtain rfl:k=N:=Za
   have HE1:=Zpe (HE.out.only [1,0] _ rfl Zd)
   have c0:=HE1.out.cell 1 0 (v:=.string x) rfl rfl
   have c1:=HE1.out.cell 1 1 (v:=.string y) rfl rfl
   have r0:=HE1.out.cell 0 0 rfl rfl
   have r1:=HE1.out.cell 0 1 rfl rfl
   have f0:=HE1.out.free 0 0 rfl
   have f1:=HE1.out.free 0 1 rfl
   go_wp2
   have HQ9:=Zpe (HE1.out.fill (.string x) (.string y))
   have q0:=HQ9.out.cell 0 0 (v:=.string x) rfl rfl
   have q1:=HQ9.out.cell 0 1 (v:=.string y) rfl rfl
   exact Zor (v:=Zpb x y) (by simp[results,Tryz.f75,go_sem,q0,q1]) rfl ⟨x,y,E,HVS.out,rfl,HQ9.out.done⟩
end Go.Proofs.YtmpaflidennnoaaGreatDoor
