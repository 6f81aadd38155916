/- The parts BelSH, BelSI, BelSM, BelSA, BelBK. -/
import Derived.Test.YtjmckebecpjjfaaGreatDoorK103
import Derived.Laws.EntriesVeiled
set_option maxRecDepth 100000
set_option maxHeartbeats 8000000
set_option linter.unusedVariables false
set_option linter.unusedSimpArgs false
namespace Go.Proofs.YtjmckebecpjjfaaGreatDoor
open Go.RowKit Go.Shelf
attribute [local go_sem ↓] Go.wp_at_zero Go.wp_at_succ
theorem ZjQ {b:BelP} {lv sv nl:Value} {ns:List NoteP} {K S0 KB BB NB NC FC m TB d t:Nat} {p:Pl} {q:Rat} {s u:ByteArray} {w W:World} (h:BelIn b lv sv w) (hb:ZF b=true) (hl:NotesIn ns nl w) (hn:∀ k,k<ns.length->ZH b (ntA ns k)=true) (hK:K<=32)
  (htk:t+d=K) (hp:PlcB b p) (hq:IsP q s u) (hs:SmIn b lv sv nl K S0 KB BB NB NC FC m w W) (hk:KInv b ns K m W) (hT:W.heap[TB]?=some (inO t)) :
  Calls Tryz.prog 63 #[maV p s u,.pointer (some ⟨FC,0,none⟩),.pointer (some ⟨TB,0,none⟩)] W (fun e W'=>Zd0 (ZbT (ZC b ns d t) (p,q)) e/\KInv b ns K m W'/\Keeps (NotM m) W W'):=by
 have HFO:=ZqH (ZkD (S0:=S0) (KB:=KB) (BB:=BB) (NB:=NB) (NC:=NC) (FC:=FC) (m:=m) h hb hl hn hK d t p)
 have HTK:=ZqH htk
 have HPC:=ZqH hp
 have HQ:=ZqH hq
 have HS:=ZqH hs
 have HK:=ZqH hk
 have HH:=ZqH h
 obtain⟨a,x,y⟩:=p
 have HPV:Hid (∀ r,ZC b ns d t (a,x,y)=r->ZbT (ZC b ns d t) ((a,x,y),q)=match r with | .error e=>.error e | .ok r=>mulF q r):=fun r hr=>by
  subst hr
  rfl
 obtain⟨W1,hW1⟩:=ZqJ ((W.alloc (maO (a,x,y) s u)).alloc (pObj ZqD ZqD))
 have HE1:Hid (Env W.heap.size W [(W.heap.size+1,pObj ZqD ZqD),(W.heap.size,maO (a,x,y) s u)] [] W1):=by rw[<- hW1];exact((Env.start W).push _ rfl).push _ Zc
 have HS1:=ZqH (hs.keep (HE1.out.base.keepsS (NotM m)))
 have HK1:=ZqH (hk.step HE1.out.base)
 have HT1:Hid (W1.heap[TB]?=some (inO t)):=(HE1.out.base.block _ (ZqC hT)).trans hT
 have HNE:Hid (W.heap.size≠m/\W.heap.size+1≠m/\TB≠m):=⟨by have:=hk.lt;omega,by have:=hk.lt;omega,fun e=>by
  obtain⟨es,cl,hm⟩:=hk.map
  rw[<- e,hT] at hm
  cases hm⟩
 clear h hb hl hn hK htk hp hq hs hk hT
 go_enter Tryz.func63,Tryz.ntmps63
 go_wp2_with fail
 clear hW1
 refine ZA [(1,0),(1,1),(1,2),(1,3),(1,4),(0,5),(1,6),(0,7),(0,8),(1,9),(1,10),(0,11),(0,12)] (Keeps (NotM m) W1) (fun i=>i==12)
  Zb Zb (fun j hj=>by have h:13<=j:=hj;simp;omega) Zi (Keeps.refl _ W1).drew ?_
 obtain⟨V0,hV0⟩:=ZqJ W1.drew
 have HX0:Hid (Keeps (NotM m) W1 V0):=by rw[<- hV0];exact(Keeps.refl _ W1).drew
 have HI0:Hid (KInv b ns K m V0):=by rw[<- hV0];exact HK1.out.stay rfl
 rw[hV0]
 clear hV0
 have HXX:Hid (∀ X,Keeps (NotM m) W1 X->X.heap[W.heap.size]?=some (maO (a,x,y) s u)/\X.heap[W.heap.size+1]?=some (pObj ZqD ZqD)/\X.heap[TB]?=some (inO t)/\Keeps (NotM m) W X):=fun X hX=>
  ⟨(hX.block _ (HE1.out.lt 1 rfl) HNE.out.1).trans (HE1.out.block 1 rfl),(hX.block _ (HE1.out.lt 0 rfl) HNE.out.2.1).trans (HE1.out.block 0 rfl),(hX.block _ (ZqC HT1.out) HNE.out.2.2).trans HT1.out,(HE1.out.base.keepsS _).trans hX⟩
 iterate 5
  refine Zq _ rfl rfl (fun w' hS=>by obtain⟨ha,_,ht,_⟩:=HXX.out _ hS;have n1:=Zn (HS1.out.keep hS).fc 0 rfl;have t0:=Zn ht 0 (v:=.int .i64 (t:Int)) rfl;have m0:=Zn ha 0 (v:=.int .i64 a) rfl;have m1:=Zn ha 1 (v:=.int .i64 x) rfl;have m2:=Zn ha 2 (v:=.int .i64 y) rfl;have m3:=Zn ha 3 (v:=.string s) rfl;have m4:=Zn ha 4 (v:=.string u) rfl;exact Ze) ?_
  simp only[Act.put,Zl]
 refine Zs 64 _ rfl rfl Zf ?_
 refine(ZbV (a,x,y) s u _).mono ?_
 rintro e V1 ⟨rfl,hb⟩
 have HX1:Hid (Keeps (NotM m) W1 V1):=HX0.out.trans (hb.keepsS _)
 have HI1:Hid (KInv b ns K m V1):=HI0.out.step hb
 refine .inl ⟨_,rfl,HX1.out,?_⟩
 clear hb
 simp only[Act.put,Zl]
 iterate 1
  refine Zq _ rfl rfl (fun w' hS=>Ze) ?_
  simp only[Act.put,Zl]
 refine Zs 59 _ rfl rfl Zf ?_
 refine(HFO.out V1 HTK.out HPC.out (HS1.out.keep HX1.out) HI1.out).mono ?_
 rintro e V2 ⟨hE,hki,hk⟩
 have HX2:Hid (Keeps (NotM m) W1 V2):=HX1.out.trans (ZaL hk)
 have HI2:Hid (KInv b ns K m V2):=hki
 clear hki hk
 rcases hE with ⟨q2,u2,v2,h1,rfl,hi1⟩ | ⟨en,h1,h2,rfl⟩
 case inr=>
  refine .inr ⟨_,rfl,?_⟩
  exact⟨rfl,.inr ⟨en,HPV.out _ h1,h2,rfl⟩,HI2.out,(HXX.out _ HX2.out).2.2.2⟩
 have HPM:Hid (ZbT (ZC b ns d t) ((a,x,y),q)=mulF q q2):=HPV.out _ h1
 have HQ2:=ZqH hi1
 refine .inl ⟨_,rfl,HX2.out,?_⟩
 clear h1 hi1 HPV
 simp only[Act.put,Zl]
 refine Zs 24 _ rfl rfl Zf ?_
 refine(Zco s u u2 v2 _ HQ.out.limit.1 HQ.out.limit.2 HQ2.out.limit.1 HQ2.out.limit.2 (HH.out.tabs.below (HS1.out.keep HX2.out).base ZqI)).mono ?_
 rintro e V3 ⟨x9,y9,en,rfl,hR,hb⟩
 have HX3:Hid (Keeps (NotM m) W1 V3):=HX2.out.trans (hb.keepsS _)
 have HI3:Hid (KInv b ns K m V3):=HI2.out.step hb
 have HA:Hid (Ans (q*q2) x9 y9 en):=by
  have h1:=hR.both HQ.out.ok HQ2.out.ok
  rwa [HQ.out.rat,HQ2.out.rat] at h1
 refine .inl ⟨_,rfl,HX3.out,?_⟩
 clear hb hR
 simp only[Act.put,Zl]
 iterate 2
  refine Zq _ rfl rfl (fun w' hS=>Ze) ?_
  simp only[Act.put,Zl]
 refine Zs 57 _ rfl rfl Zf ?_
 refine(Zat x9 y9 en _).mono ?_
 rintro e V4 ⟨hE,hb⟩
 have HX4:Hid (Keeps (NotM m) W1 V4):=HX3.out.trans (hb.keepsS _)
 have HI4:Hid (KInv b ns K m V4):=HI3.out.step hb
 clear hb
 rcases hE with ⟨hne,rfl⟩ | ⟨hne,rfl⟩
 case inr=>
  have HM:Hid (mulF q q2=.error 4/\en=4):=by
   rcases HA.out with ⟨_,h⟩ | ⟨h,_,_,h2⟩
   ·exact Zqx h hne
   ·exact⟨by unfold mulF;rw[if_neg h],h2⟩
  refine .inr ⟨_,rfl,?_⟩
  exact⟨rfl,.inr ⟨en,by rw[HPM.out,HM.out.2];exact HM.out.1,hne,rfl⟩,HI4.out,(HXX.out _ HX4.out).2.2.2⟩
 have HIZ:=ZqH (HA.out.zero hne)
 have HP3:Hid (ZbT (ZC b ns d t) ((a,x,y),q)=.ok (q*q2)):=by
  show _=_
  rw[HPM.out]
  unfold mulF
  rw[if_pos HIZ.out.fits]
 refine .inl ⟨_,rfl,HX4.out,?_⟩
 simp only[Act.put,Zl]
 obtain⟨_,hr4,_,hk4⟩:=HXX.out _ HX4.out
 have s0:=Zn hr4 0 (v:=.string ZqD) rfl
 have s1:=Zn hr4 1 (v:=.string ZqD) rfl
 have f0:=Zo hr4 0
 have f1:=Zo hr4 1
 obtain⟨V,hV⟩:=ZqJ ((V4.setCell ⟨W.heap.size+1,0,none⟩ (.string x9)).setCell ⟨W.heap.size+1,1,none⟩ (.string y9))
 have hrv:V.heap[W.heap.size+1]?=some (pObj x9 y9):=by rw[<- hV];exact ZQ hr4 _ _
 have hkv:Keeps (fun b=>b≠W.heap.size+1) V4 V:=by rw[<- hV];exact((Keeps.refl _ V4).setCell (p:=⟨W.heap.size+1,0,none⟩) (fun h=>h rfl) _).setCell (p:=⟨W.heap.size+1,1,none⟩) (fun h=>h rfl) _
 have HIV:Hid (KInv b ns K m V):=HI4.out.stay (hkv.block m HI4.out.lt (Ne.symm HNE.out.2.1))
 have HKV:Hid (Keeps (NotM m) W V):=ZaL ((hk4.mono fun z _ hz=>hz.1).trans (hkv.mono fun z _ hz=>Za))
 have q0:=Zn hrv 0 (v:=.string x9) rfl
 have q1:=Zn hrv 1 (v:=.string y9) rfl
 refine ZG rfl rfl fun K' hK'=>?_
 go_simp
 refine hK' _ _ (.inl rfl) ?_
 clear hK' K' hr4 hk4 s0 s1 f0 f1 hne hkv hrv
 refine Zz ?_
 go_wp2
 exact ZpW (v:=pV x9 y9) (by simp[results,Tryz.f63,go_sem,q0,q1]) rfl ⟨.inl ⟨q*q2,x9,y9,HP3.out,rfl,HIZ.out⟩,HIV.out,HKV.out⟩
abbrev smsO (v:Value):Obj:=.cells #[v] 62
theorem ZhV {w w':World} {B m:Nat} {e:TypeId} {size:Nat} {v:Value} {n:Nat} {xs:List Value} (h:w.ownsRow B e size v n xs) (hm:∃ es cl,w.heap[m]?=some (.map es cl)) (hk:Keeps (NotM m) w w'):w'.ownsRow B e size v n xs:=by
 obtain⟨h1,h2⟩:=h
 refine⟨h1,?_⟩
 rcases h2 with h2 | ⟨g,cap,cur,hv,hb,hg,hr⟩
 ·exact .inl h2
 ·refine .inr ⟨g,cap,cur,hv,hb,(hk.block g (ZqC hg) ?_).trans hg,hr⟩
  rintro rfl
  obtain⟨es,cl,hm⟩:=hm
  rw[hg] at hm
  cases hm
theorem ZX.map {w w':World} {B m:Nat} {vs:List Value} {fs:List Fl} (h:ZX w B vs fs) (hm:∃ es cl,w.heap[m]?=some (.map es cl)) (hk:Keeps (NotM m) w w'):ZX w' B vs fs:=⟨h.1,fun i hi=>⟨ZhV (h.2 i hi).1 hm hk,(h.2 i hi).2⟩⟩
def SmoQ (r:Except Int (List Fl)) (L C:Nat) (n:Int) (W:World):Prop:=
 (n=0->∃ fs v vs,r=.ok fs/\W.heap[L]?=some (smsO v)/\ZX W C vs fs/\W.ownsRow C 33 1 v vs.length vs)/\(n≠0->r=.error n/\W.heap[L]?=some (smsO (.slice none 0 0)))
theorem Zi2 {b:BelP} {ns:List NoteP} {K:Nat} {e:Int} (h:Zae b ns K=.error e):Za2 b ns K=.error e:=by unfold Za2;rw[h]
theorem ZlH {b:BelP} {ns:List NoteP} {K:Nat} {all:List Fl} {z:Rat} (h:Zae b ns K=.ok (all,z)):Za2 b ns K=Zt (Zav b ns K all) all.length []:=by unfold Za2;rw[h]
theorem ZkU {b:BelP} {lv sv nl:Value} {ns:List NoteP} {K S0 KB BB NB NC FC m OB C:Nat} {w W:World} (h:BelIn b lv sv w) (hb:ZF b=true) (hl:NotesIn ns nl w) (hn:∀ k,k<ns.length->ZH b (ntA ns k)=true) (hK:K<=32)
  (hs:SmIn b lv sv nl K S0 KB BB NB NC FC m w W) (hk:KInv b ns K m W) (hO:W.heap[OB]?=some (smsO (.slice none 0 0))) (hC:C<=W.heap.size) :
  Calls Tryz.prog 61 #[.pointer (some ⟨BB,0,none⟩),.pointer (some ⟨NB,0,none⟩),.pointer (some ⟨S0,0,none⟩),.pointer (some ⟨FC,0,none⟩),.pointer (some ⟨OB,0,none⟩)] W (Zhe (SmoQ (Za2 b ns K) OB C) (fun x=>x≠m/\x≠OB) W):=by
 obtain⟨i0,hi,hz0,hz1,hz2⟩:=info_parts Zgz
 have HFI:=ZqH (Zhy (h.below hs.base ZqI) hb (hl.below hs.base ZqI) hn hK)
 have HFW:=ZqH (fun fs z hfz=>ZdL (k:=K) (all:=fs) (left:=z) hb hn hfz)
 have HSH:=ZqH (fun(TB d t:Nat) (p:Pl) (q:Rat) (s u:ByteArray) (X:World) htk hp hq hX hkX hT=>ZjQ (S0:=S0) (KB:=KB) (BB:=BB) (NB:=NB) (NC:=NC) (FC:=FC) (m:=m) (TB:=TB) (d:=d) (t:=t) (p:=p) (q:=q) (s:=s) (u:=u) (W:=X) h hb hl hn hK htk hp hq hX hkX hT)
 have HH:=ZqH h
 have HCB:=ZqH hb
 have HS:=ZqH hs
 have HK:=ZqH hk
 have HC:=ZqH hC
 have HO:=ZqH hO
 have HOM:Hid (OB≠m):=fun e=>by
  obtain⟨es,cl,hm⟩:=hk.map
  rw[<- e,hO] at hm
  cases hm
 have hol:=(ZqC hO)
 have HOL:=ZqH hol
 obtain⟨pn,cn,rfl,_,_⟩:=hl.list.shape rfl
 obtain⟨nn,hnn⟩:=ZqJ ns.length
 rw[hnn] at HS HFI HSH hs
 obtain⟨c0,c1,c2,c3,c4⟩:=Zv hs.bb
 have m0:=Zn hs.nb 0 (v:=.slice pn nn cn) rfl
 have k0:=Zn hs.s0 0 (v:=.int .i64 (K:Int)) rfl
 clear h hb hl hn hs hk hO hC hnn hol
 go_enter Tryz.func61,Tryz.ntmps61
 go_wp2_with fail
 refine HFI.out.mono ?_
 rintro e w2 ⟨hE2,hbel⟩
 have HB2:=ZqH hbel
 have HS2:=ZqH (HS.out.keep (hbel.keepsS (NotM m)))
 have HK2:=ZqH (HK.out.step hbel)
 have HO2:Hid (w2.heap[OB]?=some (smsO (.slice none 0 0))):=(hbel.block OB HOL.out).trans HO.out
 clear hbel HFI c0 c1 c2 c3 c4 m0 k0
 rcases hE2 with ⟨fs,z,v,vs,s,t,h1,rfl,h3,h4,hiz⟩ | ⟨n,h1,h2,rfl⟩
 case inr=>
  refine⟨rfl,?_⟩
  exact⟨n,.inr ⟨h2,rfl⟩,⟨fun hn=>Zqx hn h2,fun _=>⟨Zi2 h1,HO2.out⟩⟩,HB2.out.keepsS _⟩
 obtain⟨hln,hfw,_,_⟩:=HFW.out fs z h1
 have HSF:Hid (Za2 b ns K=Zt (Zav b ns K fs) (K+1) []):=by
  show _=_
  rw[ZlH h1,hln]
 have HFO:=ZqH (fun i hi=>(hfw i hi).1)
 obtain⟨hvl,hall⟩:=h3
 obtain⟨g,cap,cur,rfl,hgb,hgr⟩:∃ g cap cur,v=.slice (some ⟨g,0,none⟩) vs.length cap/\W.heap.size<=g/\w2.heap[g]?=some (.cells cur 33 (0,0)):=by
  rcases h4.2 with ⟨_,h⟩ | ⟨g,cap,cur,hv,hb,hg,_⟩
  ·omega
  ·exact⟨g,cap,cur,hv,hb,hg⟩
 have HCE:=ZqH (fun i hi=>World.ownsRow.cellAt h4 i hi)
 have HAL:=ZqH (fun i (hi:i<fs.length)=>hall i hi)
 have HGM:Hid (g≠m/\g<w2.heap.size):=⟨(fun e=>by
  obtain⟨es,cl,hm⟩:=HK2.out.map
  rw[<- e,hgr] at hm
  cases hm),(ZqC hgr)⟩
 have HVL:Hid (vs.length=K+1/\fs.length=K+1):=⟨Za,hln⟩
 obtain⟨nv,hnv⟩:=ZqJ vs.length
 obtain rfl:nv=K+1:=by have:=HVL.out.1;omega
 rw[hnv]
 obtain⟨w3,hw3⟩:=ZqJ (w2.alloc (pObj s t))
 have HB3:ZqB w2 w3:=by show Below _ _ _;rw[<- hw3];exact(ZpV _ w2).alloc ZqI _
 have HK3:=ZqH (HK2.out.step HB3.out)
 have HS3:=ZqH (HS2.out.keep (HB3.out.keepsS (NotM m)))
 obtain⟨B0,hB0⟩:=ZqJ w3.heap.size
 have HB0:Hid (w3.heap.size=B0/\W.heap.size<=B0/\m<B0):=⟨hB0,by have:=HB2.out.size;have:=HB3.out.size;omega,by have:=HK3.out.lt;omega⟩
 have HWK:Hid (∀ X,Keeps (fun x=>x≠m/\x<B0) w3 X->Keeps (NotM m) w2 X):=fun X hX=>ZaL (((HB3.out.keepsS (fun x=>x≠m/\x<w2.heap.size))).trans (hX.mono fun x _ hx=>by have:=HB3.out.size;have:=HB0.out;exact⟨hx.1,Za⟩))
 have HOB:Hid (OB<B0/\OB<w3.heap.size):=by
  have h1:=HOL.out
  have:=HB2.out.size
  have:=HB3.out.size
  exact⟨Za,Za⟩
 have HOX:Hid (∀ X,Keeps (fun x=>x≠m/\x<B0) w3 X->X.heap[OB]?=some (smsO (.slice none 0 0))):=fun X hX=>
  (hX.block _ HOB.out.2 ⟨HOM.out,HOB.out.1⟩).trans ((HB3.out.block _ (ZqC HO2.out)).trans HO2.out)
 have HKF:Hid (∀ X,Keeps (fun x=>x≠m/\x<B0) w3 X->Keeps (fun x=>x≠m/\x≠OB) W X):=fun X hX=>
  ZaL (((HB2.out.keepsS (fun x=>(x≠m/\x≠OB)/\x<W.heap.size)).trans (HB3.out.keepsS _)).trans (hX.mono fun x _ hx=>⟨hx.1.1,by have:=HB0.out;omega⟩))
 clear hvl hall h4 hgr hgb h1 hfw hln hnv hB0
 go_wp2_with fail
 clear hw3
 go_loopw [7,21] (fun uv iv wr=>∃ (t:Nat) (outs:List Fl) (us:List Value),iv=.int .i64 t/\t<=K+1/\Hid (Zt (Zav b ns K fs) t []=.ok outs)/\Hid (ZX wr B0 us outs)/\Hid (wr.ownsRow B0 33 1 uv us.length us)/\Hid (us.length=t)/\Hid (KInv b ns K m wr)/\Hid (Keeps (fun x=>x≠m/\x<B0) w3 wr)) (fun _ iv _=>K+1-(intOf iv).toNat)
 case atStart=>exact⟨0,[],[],rfl,Zp8 _,rfl,ZX.nil _ _,World.ownsRow_nil _ _ _ 1,rfl,HK3,Keeps.refl _ _⟩
 case round=>
  obtain⟨t,outs,us,rfl,htK,HLT,HAO,HAU,HUL,HKR,HKK⟩:=hrel
  obtain⟨pa,na,ca,rfl⟩:∃ p n c,u7=Value.slice p n c:=by
   rcases HAU.out.2 with ⟨h,_⟩ | ⟨_,_,_,h,_⟩
   ·exact⟨_,_,_,h⟩
   ·exact⟨_,_,_,h⟩
  by_cases hlt:t<K+1
  ·have htl:t<fs.length:=by have:=HVL.out;omega
   obtain⟨hO,hG⟩:=HAL.out t htl
   have hcell:=HCE.out t (by have:=HVL.out;omega)
   have hck:w2.cell? ⟨g,t,none⟩=some (vs.getD t undef):=by
    have h5:t<vs.length:=by have:=HVL.out;omega
    rw[Zqg h5] at hcell
    rw[List.getD_eq_getElem?_getD,Zqg h5]
    exact hcell
   have hmk:=HFO.out t Za
   obtain⟨vt,hvt⟩:=ZqJ (vs.getD t undef)
   rw[hvt] at hO hck
   obtain⟨pk,nk,ck,rfl⟩:∃ p n c,vt=Value.slice p n c:=by
    rcases hO.2 with ⟨h,_⟩ | ⟨_,_,_,h,_⟩
    ·exact⟨_,_,_,h⟩
    ·exact⟨_,_,_,h⟩
   have hkw:=HWK.out wr HKK.out
   have hckr:=hkw.cellAt hck HGM.out.1
   obtain⟨ms,hms⟩:=ZqJ (fs.getD t [])
   have HSG:Hid (Zav b ns K fs t outs=match Zai (ZC b ns (K-t) t) ms with | .error e=>.error e | .ok (o,_)=>.ok (outs++[o])):=by show _=_;rw[<- hms];rfl
   rw[hms] at hO hG hmk
   have HMO:=ZqH hmk
   have HOW:=ZqH (Zqy hO hG)
   have i0':(0:Int)<=(t:Int):=Za
   have i1':(t:Int)<((K+1:Nat):Int):=Za
   have i2':(t:Int)<(K:Int)+1:=Za
   obtain⟨W5,hW5⟩:=ZqJ (wr.alloc (inO t))
   obtain⟨TB,hTB⟩:=ZqJ wr.heap.size
   have HK5:Hid (Keeps (fun x=>x≠m/\x<B0) w3 W5):=by show Keeps _ _ _;rw[<- hW5];exact HKK.out.alloc _
   have HB5:ZqB wr W5:=by show Below _ _ _;rw[<- hW5];exact(ZpV _ wr).alloc ZqI _
   have HT5:Hid (W5.heap[TB]?=some (inO t)):=by show _=_;rw[<- hW5,<- hTB];exact ZpY wr _
   have HI5:=ZqH (HKR.out.step HB5.out)
   have HSX:Hid (∀ X,Keeps (NotM m) W5 X->SmIn b lv sv (.slice pn nn cn) K S0 KB BB NB NC FC m w X/\Keeps (NotM m) w2 X):=fun X hX=>by
    have h1:=(HWK.out W5 HK5.out).trans hX
    exact⟨HS2.out.keep h1,h1⟩
   have HTL:Hid (TB<W5.heap.size/\TB≠m/\B0<=TB):=⟨(ZqC HT5.out),by have:=HKR.out.lt;omega,by have:=HKK.out.size;have:=HB0.out;omega⟩
   have hpl:∀ z ∈ ms,PlB z.1:=fun z hz=>ZbC (Zb6 HCB.out) (HMO.out.plc z hz)
   have HSR:=ZqH (Zgo (w:=W5) (v:=.slice pk nk ck) (ms:=ms) (gf:=63) (caps:=#[.pointer (some ⟨FC,0,none⟩),.pointer (some ⟨TB,0,none⟩)]) (g:=ZC b ns (K-t) t) (Sk:=NotM m) (Inv:=KInv b ns K m)
    (enters_of Tryz.func63 Zb rfl) HMO.out.sorted hpl
    (fun X hX=>by
     obtain⟨h1,h2⟩:=HSX.out X (ZaL (hX.mono fun x _ hx=>⟨hx.2,hx.1⟩))
     exact⟨Zcf (ZhV HOW.out.1 HK2.out.map h2) HOW.out.2,HH.out.tabs.below h1.base ZqI,HH.out.vars.below h1.base ZqI⟩)
    (fun x hx=>by have:=HI5.out.lt;show x≠m;omega)
    (fun X X' hX hk=>hX.stay (hk.block m hX.lt HI5.out.lt)) HI5.out
    (fun k s u X hk hiq hI hX=>by
     obtain⟨h1,h2⟩:=HSX.out X (ZaL (hX.mono fun x _ hx=>⟨hx.2,hx.1⟩))
     have hmem:mA ms k ∈ ms:=by rw[<- Z9 hk];exact Zqm hk
     exact HSH.out TB (K-t) t (mA ms k).1 (mA ms k).2 s u X Za (HMO.out.plc _ hmem) hiq h1 hI ((hX.block TB HTL.out.1 ⟨HTL.out.1,HTL.out.2.1⟩).trans HT5.out)))
   clear hO hG hcell hck hmk hvt hms hkw hpl htl
   go_wp2_with fail
   clear hW5 hTB hckr
   refine HSR.out.mono ?_
   rintro e w6 ⟨hE6,hk6,hi6⟩
   have HX6:Hid (Keeps (NotM m) W5 w6):=ZaL (hk6.mono fun x _ hx=>⟨hx.2,hx.1⟩)
   have HK6:Hid (Keeps (fun x=>x≠m/\x<B0) w3 w6):=HK5.out.trans (HX6.out.mono fun x _ hx=>hx.1)
   have HI6:=ZqH hi6
   have HA6:Hid (ZX w6 B0 us outs):=(HAO.out.keep (HB5.out.keepsS (fun _=>True)) fun _ _=>trivial).map HI5.out.map HX6.out
   have HU6:Hid (w6.ownsRow B0 33 1 (.slice pa na ca) us.length us):=ZhV (Zx HAU.out (HB5.out.keepsS (fun _=>True)) fun _ _=>trivial) HI5.out.map HX6.out
   clear hk6 hi6 HSR HAO HAU
   rcases hE6 with ⟨o,z6,v6,s6,t6,h1,rfl,h3,hg,hiz6⟩ | ⟨en,h1,h2,rfl⟩
   case inr=>
    have h4:Zav b ns K fs t outs=.error en:=by rw[HSG.out,h1]
    refine⟨rfl,?_⟩
    exact⟨en,.inr ⟨h2,rfl⟩,⟨fun hn=>Zqx hn h2,fun _=>⟨HSF.out.trans (ZZ HLT.out h4 hlt),HOX.out _ HK6.out⟩⟩,HKF.out _ HK6.out⟩
   obtain⟨p6,n6,c6,rfl⟩:∃ p n c,v6=Value.slice p n c:=by
    rcases h3.2 with ⟨h,_⟩ | ⟨_,_,_,h,_⟩
    ·exact⟨_,_,_,h⟩
    ·exact⟨_,_,_,h⟩
   have HLN:Hid (Zt (Zav b ns K fs) (t+1) []=.ok (outs++[o])):=by
    show _=_
    rw[Zag HLT.out,HSG.out,h1]
   obtain⟨w7,hw7⟩:=ZqJ (w6.alloc (pObj s6 t6))
   have HB7:ZqB w6 w7:=by show Below _ _ _;rw[<- hw7];exact(ZpV _ w6).alloc ZqI _
   have HA7:Hid (ZX w7 B0 us outs):=HA6.out.keep (HB7.out.keepsS (fun _=>True)) fun _ _=>trivial
   have HU7:Hid (w7.ownsRow B0 33 1 (.slice pa na ca) us.length us):=Zx HU6.out (HB7.out.keepsS (fun _=>True)) fun _ _=>trivial
   have HN7:Hid (OwnM w7 B0 (.slice p6 n6 c6) o/\ZaZ o):=⟨Zar (Zx h3 (HB7.out.keepsS (fun _=>True)) fun _ _=>trivial) (by have:=HB5.out.size;have:=HKK.out.size;have:=HB0.out;omega),hg⟩
   have HI7:=ZqH (HI6.out.step HB7.out)
   have HK7:Hid (Keeps (fun x=>x≠m/\x<B0) w3 w7):=HK6.out.trans (HB7.out.keepsS _)
   clear h1 h3 hg hiz6
   have hul:us.length<=34:=by rw[HUL.out];omega
   have hownA:(w7.alloc (.cells #[.slice p6 n6 c6] 33)).ownsRow B0 33 1 (.slice pa na ca) us.length us:=HU7.out.alloc _
   have hm1:us.length+1<=maxLen:=by unfold maxLen;omega
   have hm2:(us.length+1)*24<=140737488355328:=Za
   have hm3:B0<=(w7.alloc (.cells #[.slice p6 n6 c6] 33)).heap.size:=by have:=HK7.out.size;have:=HB0.out;simp;omega
   have hnews:∀ (j:Nat) (z:Value),([.slice p6 n6 c6]:List Value)[j]?=some z->(w7.alloc (.cells #[.slice p6 n6 c6] 33)).cell? ((⟨w7.heap.size,0,none⟩:Addr).add j)=some z:=World.news_of_block (ZpY w7 _)
   go_wp2_with (at_builtin;go_loud (refine Zqq _ rfl (.tmp 32) (.tmp 34) 62 rfl B0 33 i0 (.slice none 0 0) 1 24 Tryz.underlying62 hi hz0 hz1 hz2 rfl Zd _ us.length us rfl hownA ⟨w7.heap.size,0,none⟩ 1 1 [.slice p6 n6 c6] rfl rfl hnews (by simp[Value.oneCell']) hm1 hm2 hm3 ?_);intro v' w4 hown4 hgrow4 _)
   have hka:Keeps (fun _=>True) w7 (w7.alloc (.cells #[.slice p6 n6 c6] 33)):=(Keeps.refl _ w7).alloc _
   have hk4:Keeps (fun b=>(Value.slice pa na ca).ownBlock≠some b) (w7.alloc (.cells #[.slice p6 n6 c6] 33)) w4:=(Keeps.refl _ _).grown hgrow4 (fun r hr h=>h hr)
   have hob:∀ b,b<B0->(Value.slice pa na ca).ownBlock≠some b:=fun b hb he=>by have:=ZbK hownA b he;omega
   have HN8:Hid (OwnM w4 B0 (.slice p6 n6 c6) o/\ZaZ o):=⟨ZhS (Zx HN7.out.1 hka fun _ _=>trivial) hownA hk4,HN7.out.2⟩
   have HA8:Hid (ZX w4 B0 (us++[Value.slice p6 n6 c6]) (outs++[o])):=((HA7.out.keep hka fun _ _=>trivial).row hownA hk4).snoc HN8.out.1 HN8.out.2
   have HB8:Hid (w4.ownsRow B0 33 1 v' (us++[Value.slice p6 n6 c6]).length (us++[Value.slice p6 n6 c6])):=by
    show World.ownsRow _ _ _ _ _ _ _
    rw[Zqc]
    exact hown4
   have HV8:Hid ((us++[Value.slice p6 n6 c6]).length=t+1):=by show _=_;rw[Zqc,HUL.out];rfl
   have HI8:Hid (KInv b ns K m w4):=by
    have h1:=HI7.out.stay ((hka.block m HI7.out.lt trivial))
    exact h1.stay (hk4.block m h1.lt (hob m HB0.out.2.2))
   have HK8:Hid (Keeps (fun x=>x≠m/\x<B0) w3 w4):=HK7.out.trans ((hka.mono fun _ _ _=>trivial).trans (hk4.mono fun b _ hb=>hob b hb.2))
   clear hown4 hgrow4 hownA hnews hm1 hm2 hm3 hka hk4 hob hw7
   go_roundw
   case rel=>exact⟨t+1,outs++[o],us++[Value.slice p6 n6 c6],by go_num,Za,HLN,HA8,HB8,HV8,HI8,HK8⟩
   case measure=>exact Zj
  ·obtain rfl:t=K+1:=Za
   have HRR:Hid (Za2 b ns K=.ok outs):=HSF.out.trans HLT.out
   have hor:=HOX.out _ HKK.out
   have o0:=Zn hor 0 (v:=.slice none 0 0) rfl
   have o1:=Zo hor 0
   obtain⟨W9,hW9⟩:=ZqJ (wr.setCell ⟨OB,0,none⟩ (.slice pa na ca))
   have HO9:Hid (W9.heap[OB]?=some (smsO (.slice pa na ca))):=by show _=_;rw[<- hW9];exact Zp0 hor _
   have hk9:Keeps (fun x=>x≠OB) wr W9:=by rw[<- hW9];exact(Keeps.refl _ wr).setCell (p:=⟨OB,0,none⟩) (fun h=>h rfl) _
   have hsl:∀ x,B0<=x->x≠OB:=fun x hx=>by have:=HOB.out;omega
   have HA9:Hid (ZX W9 C us outs):=⟨HAO.out.1,fun i hi=>⟨Zar (Zx (HAO.out.2 i hi).1 hk9 hsl) (by have:=HB0.out;have:=HC.out;omega),(HAO.out.2 i hi).2⟩⟩
   have HU9:Hid (W9.ownsRow C 33 1 (.slice pa na ca) us.length us):=Zar (Zx HAU.out hk9 hsl) (by have:=HB0.out;have:=HC.out;omega)
   have HK9:Hid (Keeps (fun x=>x≠m/\x≠OB) W W9):=ZaL (((HKF.out _ HKK.out).mono fun x _ hx=>hx.1).trans (hk9.mono fun x _ hx=>hx.1.2))
   clear hor hk9 hsl
   go_wp2
   go_end0
   exact⟨0,.inl ⟨rfl,rfl⟩,⟨fun _=>⟨outs,_,us,HRR.out,HO9.out,HA9.out,HU9.out⟩,fun hn=>Zqx rfl hn⟩,HK9.out⟩
theorem SmoQ.stay {r:Except Int (List Fl)} {L C p:Nat} {n:Int} {W W':World} (h:SmoQ r L C n W) (hk:Keeps (fun b=>b≠p) W W') (h1:L<p) (h3:p<C):SmoQ r L C n W':=by
 have hb:∀ {o:Obj},W.heap[L]?=some o->W'.heap[L]?=some o:=fun ho=>(hk.block _ (ZqC ho) Za).trans ho
 refine⟨fun hn=>?_,fun hn=>⟨(h.2 hn).1,hb (h.2 hn).2⟩⟩
 obtain⟨fs,v,vs,e1,e2,e3,e4⟩:=h.1 hn
 exact⟨fs,v,vs,e1,hb e2,e3.keep hk fun g hg=>Za,Zx e4 hk fun g hg=>Za⟩
def SmoA (r:Except Int (List Fl)) (w:World) (e:Ending) (w':World):Prop:=
 ((∃ fs v,r=.ok fs/\e=.returned (.tuple #[v,.int .i64 0])/\ZhE w' v fs)\/∃ k,r=.error k/\k≠0/\e=.returned (.tuple #[.slice none 0 0,.int .i64 k]))/\Below w.heap.size w w'
theorem Zf4 {b:BelP} {lv sv nl:Value} {ns:List NoteP} {steps:Int} {w:World} (h:BelIn b lv sv w) (hz:LimB b) (hl:NotesIn ns nl w):Calls Tryz.prog 22 #[belV b lv sv,nl,.int .i64 steps] w (SmoA (Zb5 b ns steps) w):=by
 obtain⟨pn,cn,rfl,_,_⟩:=hl.list.shape rfl
 obtain⟨nn,hnn⟩:=ZqJ ns.length
 rw[hnn] at hl ⊢
 have HE1:Hid (Env w.heap.size w [(w.heap.size+1+1+1,smsO (.slice none 0 0)),(w.heap.size+1+1,inO steps),(w.heap.size+1,nsO (.slice pn nn cn)),(w.heap.size,belO b lv sv)] [] ((((w.alloc (belO b lv sv)).alloc (nsO (.slice pn nn cn))).alloc (inO steps)).alloc (smsO (.slice none 0 0)))):=((((Env.start w).push _ rfl).push _ Zc).push _ Zc).push _ Zc
 obtain⟨w1,hw1⟩:=ZqJ (((((w.alloc (belO b lv sv)).alloc (nsO (.slice pn nn cn))).alloc (inO steps)).alloc (smsO (.slice none 0 0))))
 rw[hw1] at HE1
 have HH:=ZqH h
 have HNI:=ZqH hl
 have HC:=ZqH (ZdO (steps:=steps) (h.below HE1.out.base ZqI) hz (hl.below HE1.out.base ZqI))
 obtain⟨c0,c1,c2,c3,c4⟩:=Zv (HE1.out.block 3 rfl)
 have m0:=HE1.out.cell 2 0 (v:=.slice pn nn cn) rfl rfl
 have k0:=HE1.out.cell 1 0 (v:=.int .i64 steps) rfl rfl
 clear h hz hl hnn
 go_enter Tryz.func22,Tryz.ntmps22
 go_wp2_with fail
 refine HC.out.mono ?_
 rintro e w2 ⟨rfl,hb⟩
 have HE2:=ZqH (HE1.out.step hb)
 clear hb HC c0 c1 c2 c3 c4 hw1 m0 k0 HE1
 obtain⟨ne,hne⟩:=ZqJ (Z3 b ns steps)
 have HNE:=ZqH hne
 rw[hne]
 clear hne
 by_cases h0:ne=0
 ·subst h0
  obtain⟨hcb,hnb,⟨hs0,hs1⟩,_⟩:=ZeK HNE.out
  obtain⟨K,hK⟩:∃ K:Nat,steps=K:=⟨steps.toNat,Za⟩
  subst hK
  have HR:Hid (Zb5 b ns (K:Int)=Za2 b ns K):=by
   show _=_
   unfold Zb5
   rw[HNE.out,if_pos rfl,Int.toNat_natCast]
  have hmk:∀ (t:TypeId) (w:World),(Instr.makeMap t none).run Tryz.prog w=.ok (.map (some w.heap.size)) (w.alloc (.map #[] 0)):=fun _ _=>rfl
  obtain⟨NC,hNC⟩:=ZqJ w2.heap.size
  obtain⟨x3,hx3⟩:=ZqJ (w2.alloc (fnO .nilFunc))
  have hF3:=HE2.out.push (fnO .nilFunc) hNC.symm
  rw[hx3] at hF3
  have a0:=hF3.cell 0 0 (v:=.nilFunc) rfl rfl
  have a1:=hF3.free 0 0 rfl
  have hE3:=hF3.store 0 0 (.func (.func 56) #[] #[.pointer (some ⟨w.heap.size+1,0,none⟩)]) rfl
  obtain⟨w3,hw3⟩:=ZqJ (x3.setCell ⟨NC,0,none⟩ (.func (.func 56) #[] #[.pointer (some ⟨w.heap.size+1,0,none⟩)]))
  rw[hw3] at hE3
  obtain⟨m,hm⟩:=ZqJ w3.heap.size
  obtain⟨w4,hw4⟩:=ZqJ (w3.alloc (.map #[] 0))
  have hE4:=hE3.push (.map #[] 0) hm.symm
  have HM4:Hid (Zcr w4 m []):=by rw[<- hw4,<- hm];exact ZoQ w3
  rw[hw4] at hE4
  obtain⟨KB,hKB⟩:=ZqJ w4.heap.size
  obtain⟨x5,hx5⟩:=ZqJ (w4.alloc (.cells #[.map none] 124))
  have hF5:=hE4.push (.cells #[.map none] 124 (0,0)) hKB.symm
  rw[hx5] at hF5
  have b0':=hF5.cell 0 0 (v:=.map none) rfl rfl
  have b1':=hF5.free 0 0 rfl
  have hE5:=hF5.store 0 0 (.map (some m)) rfl
  obtain⟨w5,hw5⟩:=ZqJ (x5.setCell ⟨KB,0,none⟩ (.map (some m)))
  rw[hw5] at hE5
  have hb5:Below w4.heap.size w4 w5:=by rw[<- hw5,<- hx5];exact((ZpV _ w4).alloc ZqI _).setCell (p:=⟨KB,0,none⟩) (by show w4.heap.size<=KB;exact Nat.le_of_eq hKB) _
  obtain⟨FC,hFC⟩:=ZqJ w5.heap.size
  obtain⟨w6,hw6⟩:=ZqJ (w5.alloc (fnO .nilFunc))
  have hE6:=hE5.push (fnO .nilFunc) hFC.symm
  have hb6:Below w5.heap.size w5 w6:=by rw[<- hw6];exact(ZpV _ w5).alloc ZqI _
  rw[hw6] at hE6
  have HSZ:Hid (w2.heap.size=NC/\m=NC+1/\KB=NC+2/\FC=NC+3/\w.heap.size+1+1+1<NC):=by
   have h1:=HE2.out.lt 0 rfl
   refine⟨hNC,?_,?_,?_,Za⟩
   ·rw[<- hm,<- hw3,<- hx3];simp;exact hNC
   ·rw[<- hKB,<- hw4,Zqk,<- hw3,<- hx3];simp;exact hNC
   ·rw[<- hFC,<- hw5,<- hx5];simp;rw[<- hw4,Zqk,<- hw3,<- hx3];simp;exact hNC
  have r0:=hE6.cell 0 0 (v:=.nilFunc) rfl rfl
  have f0:=hE6.free 0 0 rfl
  have HE7:=ZqH (hE6.store 0 0 (.func (.func 59) #[] #[.pointer (some ⟨w.heap.size+1+1,0,none⟩),.pointer (some ⟨KB,0,none⟩),.pointer (some ⟨w.heap.size,0,none⟩),.pointer (some ⟨NC,0,none⟩),.pointer (some ⟨FC,0,none⟩)]) rfl)
  obtain⟨w7,hw7⟩:=ZqJ (w6.setCell ⟨FC,0,none⟩ (.func (.func 59) #[] #[.pointer (some ⟨w.heap.size+1+1,0,none⟩),.pointer (some ⟨KB,0,none⟩),.pointer (some ⟨w.heap.size,0,none⟩),.pointer (some ⟨NC,0,none⟩),.pointer (some ⟨FC,0,none⟩)]))
  have hk7:Keeps (fun x=>x≠FC) w6 w7:=by rw[<- hw7];exact(Keeps.refl _ w6).setCell (p:=⟨FC,0,none⟩) (fun h=>h rfl) _
  rw[hw7] at HE7
  have HM7:Hid (Zcr w7 m []):=Zh4 (Zem (Zem HM4.out hb5) hb6) (hk7.block m (Zja (Zem (Zem HM4.out hb5) hb6)) (by have:=HSZ.out;omega))
  have hal:=(ZpV w7.heap.size w7).alloc ZqI (brO 0)
  have hE8:=HE7.out.step hal
  have hsm:SmIn b lv sv (.slice pn nn cn) K (w.heap.size+1+1) KB w.heap.size (w.heap.size+1) NC FC m w (w7.alloc (brO 0)):=by
   have h5:=HSZ.out
   exact⟨hE8.base,hE8.block 5 rfl,hE8.block 1 rfl,hE8.block 7 rfl,hE8.block 6 rfl,hE8.block 3 rfl,hE8.block 0 rfl,Za,⟨Za,Za,Za⟩,Za,Za,Za⟩
  have hdo:=ZkU (OB:=w.heap.size+1+1+1) (C:=w7.heap.size+1) HH.out hcb HNI.out hnb Za hsm ⟨[],Zem HM7.out hal,fun z hz=>Zqx hz Zc⟩ (hE8.block 4 rfl) Zc
  have hlt:=HE7.out.lt 4 rfl
  have hml:=Zja HM7.out
  have HT:=ZqH (Zdr (enters_of Tryz.func61 Zb rfl) (w:=w7) (S:=fun x=>x≠m/\x≠w.heap.size+1+1+1) (fun x hx=>⟨Za,Za⟩) (fun n W W' hQ hk=>hQ.stay hk hlt Za) hdo)
  clear hdo hal hcb hnb hs0 hs1 hsm hE8 hE3 hE4 hE5 hE6 hb5 hb6 hk7 HM4 HM7 hF3 hF5
  go_wp2_with fail
  clear hw3 hw4 hw5 hw6 hw7 hNC hm hKB hFC hmk r0 f0 a0 a1 b0' b1' hx3 hx5
  refine HT.out.mono ?_
  rintro e w8 ⟨n,rfl,hQ,hk⟩
  have HB8:ZqB w w8:=HE7.out.base.trans ((hk.mono (S':=fun x=>x<w.heap.size) fun x _ hx=>by have:=HSZ.out;exact⟨Za,Za⟩).toBelow HE7.out.base.size)
  have HQ:=ZqH hQ
  have HLT:=ZqH hlt
  clear hQ hk HT hlt hml
  by_cases hn:n=0
  ·obtain⟨fs,v,vs,e1,e2,e3,e4⟩:=HQ.out.1 hn
   subst hn
   obtain⟨p9,n9,c9,rfl⟩:∃ p n c,v=Value.slice p n c:=by
    rcases e4.2 with ⟨h,_⟩ | ⟨_,_,_,h,_⟩
    ·exact⟨_,_,_,h⟩
    ·exact⟨_,_,_,h⟩
   have l0:=Zn e2 0 (v:=.slice p9 n9 c9) rfl
   have l1:=Zo e2 0
   obtain⟨W9,hW9⟩:=ZqJ (w8.setCell ⟨w.heap.size+1+1+1,0,none⟩ (.slice p9 n9 c9))
   have ho9:W9.heap[w.heap.size+1+1+1]?=some (smsO (.slice p9 n9 c9)):=by rw[<- hW9];exact Zp0 e2 _
   have hk9:Keeps (fun x=>x≠w.heap.size+1+1+1) w8 W9:=by rw[<- hW9];exact(Keeps.refl _ w8).setCell (p:=⟨w.heap.size+1+1+1,0,none⟩) (fun h=>h rfl) _
   have HML:Hid (ZhE W9 (.slice p9 n9 c9) fs):=Zl3 (e3.keep hk9 fun g hg=>by have:=HLT.out;omega) (Zx e4 hk9 fun g hg=>by have:=HLT.out;omega)
   have HRR:=ZqH (HR.out.trans e1)
   have HB9:ZqB w W9:=by show Below _ _ _;rw[<- hW9];exact HB8.out.setCell (p:=⟨w.heap.size+1+1+1,0,none⟩) (by show w.heap.size<=w.heap.size+1+1+1;omega) _
   have q0:=Zn ho9 0 (v:=.slice p9 n9 c9) rfl
   clear e1 e2 e3 e4 HQ hk9 ho9
   go_wp2
   exact ZpW (v:=.tuple #[.slice p9 n9 c9,.int .i64 0]) (by simp[results,Tryz.f22,go_sem,q0]) rfl ⟨.inl ⟨fs,_,HRR.out,rfl,HML.out⟩,HB9.out⟩
  ·obtain⟨e1,e2⟩:=HQ.out.2 hn
   have HN:=ZqH hn
   have l0:=Zn e2 0 (v:=.slice none 0 0) rfl
   have l1:=Zo e2 0
   obtain⟨W9,hW9⟩:=ZqJ (w8.setCell ⟨w.heap.size+1+1+1,0,none⟩ (.slice none 0 0))
   have ho9:W9.heap[w.heap.size+1+1+1]?=some (smsO (.slice none 0 0)):=by rw[<- hW9];exact Zp0 e2 _
   have HRR:=ZqH (HR.out.trans e1)
   have HB9:ZqB w W9:=by show Below _ _ _;rw[<- hW9];exact HB8.out.setCell (p:=⟨w.heap.size+1+1+1,0,none⟩) (by show w.heap.size<=w.heap.size+1+1+1;omega) _
   have q0:=Zn ho9 0 (v:=.slice none 0 0) rfl
   clear e1 e2 HQ hn ho9
   go_wp2
   exact ZpW (v:=.tuple #[.slice none 0 0,.int .i64 n]) (by simp[results,Tryz.f22,go_sem,q0]) rfl ⟨.inr ⟨n,HRR.out,HN.out,rfl⟩,HB9.out⟩
 ·have HR:Hid (Zb5 b ns steps=.error ne):=by
   show _=_
   unfold Zb5
   rw[HNE.out,if_neg h0]
  have H0:=ZqH h0
  have hne0:(ne !=0)=true:=by rw[bne_iff_ne];exact h0
  clear h0
  have l0:=HE2.out.cell 0 0 (v:=.slice none 0 0) rfl rfl
  have f2:=HE2.out.free 0 0 rfl
  have HE3:=ZqH (HE2.out.store 0 0 (.slice none 0 0) rfl)
  have r0:=HE3.out.cell 0 0 (v:=.slice none 0 0) rfl rfl
  go_wp2
  exact ZpW (v:=.tuple #[.slice none 0 0,.int .i64 ne]) (by simp[results,Tryz.f22,go_sem,r0]) rfl ⟨.inr ⟨ne,HR.out,H0.out,rfl⟩,HE3.out.base⟩
theorem Zhd {v u:Value} {ms:Fl} {w:World} (h1:ZK w v ms) (h2:ZK w u ms):Calls Tryz.prog 26 #[v,u] w (ZaE (.bool true) w):=by
 obtain⟨n,hn⟩:=ZqJ ms.length
 obtain⟨pa,ca,rfl,ha1,ha2⟩:=h1.shape hn
 obtain⟨pb,cb,rfl,hb1,hb2⟩:=h2.shape hn
 have HA:=ZqH (fun h0=>ZK.at h1 hn h0)
 have HB:=ZqH (fun h0=>ZK.at h2 hn h0)
 clear h1 h2 hn
 go_enter Tryz.func26,Tryz.ntmps26
 go_wp2_with fail
 go_loopw [5] (fun iv wr=>∃ k:Nat,iv=.int .i64 k/\k<=n/\ZqB w wr) (fun iv _=>n-(intOf iv).toNat)
 case atStart=>exact⟨0,rfl,Zp8 _,ZpV _ _⟩
 case round=>
  obtain⟨k,rfl,hk,HBR⟩:=hrel
  by_cases hlt:k<n
  ·obtain⟨ba,oa,rfl,hata⟩:=HA.out Za
   obtain⟨bb,ob,rfl,hatb⟩:=HB.out Za
   obtain⟨s,t,hi1,_,_,_,hca⟩:=hata k hlt
   obtain⟨s',t',hi2,_,_,_,hcb⟩:=hatb k hlt
   obtain⟨rfl,rfl⟩:=hi1.one hi2
   obtain⟨⟨⟨x0,x1,x2⟩,q⟩,hx⟩:∃ z,mA ms k=z:=⟨_,rfl⟩
   rw[hx] at hca hcb
   dsimp only at hca hcb
   have HCA:=ZqH hca
   have HCB:=ZqH hcb
   have HLT:=ZqH hlt
   have i0':(0:Int)<=(k:Int):=Za
   have i1':(k:Int)<(n:Int):=Za
   clear hca hcb hata hatb hi1 hi2 hx
   go_upto_region 6 with (fail)
   refine ZA [(1,0),(1,1),(1,2),(1,3),(1,4),(1,5),(1,6),(1,7),(1,8)] (Below wr.heap.size wr) (fun _=>false)
    Zb Zb (fun _ _=>rfl) Zi (ZpV _ wr).drew ?_
   have HB9:Hid (Below w.heap.size w wr.drew):=HBR.out.drew
   iterate 9
    first
     | refine Zac rfl rfl ?_
     | refine Zq _ rfl rfl (fun w' hS=>by obtain⟨e0,e1,e2,e3,e4⟩:=HCA.out w' (HBR.out.trans (hS.mono HBR.out.size));obtain⟨d0,d1,d2,d3,d4⟩:=HCB.out w' (HBR.out.trans (hS.mono HBR.out.size));go_simp;first | done | rfl | (rw[if_pos Za])) ?_
    simp only[Act.put,Zl]
   refine Zz ?_
   go_wp2
   go_roundw
   case rel=>exact⟨k+1,by go_num,by have:=HLT.out;omega,HB9⟩
   case measure=>simp[intOf];have:=HLT.out;omega
  ·obtain rfl:k=n:=Za
   go_wp2
   exact ZpW (by simp[results,Tryz.f26,go_sem]) rfl ⟨rfl,HBR.out⟩
abbrev NoV:=NoteP×Value
def ZaT:List NoV->List Value
 | []=>[]
 | x::r=>.int .i64 x.1.time::.int .i64 x.1.mask::x.2::.string x.1.inn.1::.string x.1.inn.2::.string x.1.out.1::.string x.1.out.2::ZaT r
theorem Zi1 (a b:List NoV):ZaT (a++b)=ZaT a++ZaT b:=by
 induction a with
 | nil=>rfl
 | cons x a ih=>simp[ZaT,ih]
theorem ZhB:∀ (zs:List NoV) (k:Nat) (h:k<zs.length),(ZaT zs)[k*7]?=some (.int .i64 zs[k].1.time)/\(ZaT zs)[k*7+1]?=some (.int .i64 zs[k].1.mask)/\(ZaT zs)[k*7+2]?=some zs[k].2/\(ZaT zs)[k*7+3]?=some (.string zs[k].1.inn.1)/\(ZaT zs)[k*7+4]?=some (.string zs[k].1.inn.2)/\
  (ZaT zs)[k*7+5]?=some (.string zs[k].1.out.1)/\(ZaT zs)[k*7+6]?=some (.string zs[k].1.out.2)
 | [],_,h=>Zqx h Zc
 | x::zs,0,_=>⟨rfl,rfl,rfl,rfl,rfl,rfl,rfl⟩
 | x::zs,k+1,h=>by
  have h1:=ZhB zs k (by simpa using h)
  have e:(k+1)*7=k*7+7:=Za
  rw[e]
  exact h1
theorem Zku:(Tryz.prog.info? 49).map (fun i=>(i.zero,i.size,i.bytes))=some (some (.agg #[.int .i64 0,.int .i64 0,.slice none 0 0,.string ZqD,.string ZqD,.string ZqD,.string ZqD]),7,104):=Zb
theorem ZnM {w:World} {B:Nat} {v:Value} {zs:List NoV} (h:w.ownsRow B 49 7 v zs.length (ZaT zs)) (hz:∀ z ∈ zs,RunL w z.2 z.1.cells/\I64 z.1.time/\I64 z.1.mask):Zbm w v (zs.map Prod.fst):=by
 have h0:=h
 rcases h.2 with ⟨rfl,hn⟩ | ⟨g,cap,cur,rfl,hb,hrow,h1,h2,_⟩
 ·obtain rfl:=Zp7 hn
  exact LL.nil w
 ·refine⟨_,_,by rw[List.length_map],by rw[List.length_map];exact h1,h2,fun _=>⟨g,0,rfl,(ZqC hrow),fun k hk=>?_⟩⟩
  have hk':k<zs.length:=by simpa using hk
  obtain⟨c0,c1,c2,c3,c4,c5,c6⟩:=ZhB zs k hk'
  obtain⟨p1,p2,p3⟩:=hz _ (Zqm hk')
  have a:∀ {c:Nat} {u:Value},c<7->(ZaT zs)[k*7+c]?=some u->w.cell? ⟨g,k*7+c,none⟩=some u:=fun hc he=>(World.ownsRow.cellAt h0 _ Za).trans he
  rw[Nat.zero_add,List.getElem_map]
  exact⟨⟨a (c:=0) Za c0,p2⟩,⟨a Za c1,p3⟩,⟨_,a Za c2,p1⟩,⟨a Za c3,a Za c4⟩,a Za c5,a Za c6⟩
def Zjb (r:Except Int (Fl×Rat)) (ms:Fl) (s t:ByteArray) (k:Int):Prop:=(k=0/\∃ z,r=.ok (ms,z)/\IsP z s t)\/(k≠0/\r=.error k/\ms=[]/\s=ZqD/\t=ZqD)
theorem Zlj {r:Except Int (Fl×Rat)} {w w':World} {e:Ending} (h:FilA r w e w'):∃ (ms:Fl) (p:Option Addr) (n c:Nat) (s t:ByteArray) (k:Int),e=.returned (.tuple #[.slice p n c,pV s t,.int .i64 k])/\ZK w' (.slice p n c) ms/\Zjb r ms s t k/\Below w.heap.size w w':=by
 obtain⟨h,hb⟩:=h
 rcases h with ⟨ms,z,v,s,t,h1,h2,h3,_,h4⟩ | ⟨k,h1,h2,h3⟩
 ·obtain⟨p,c,rfl,_,_⟩:=h3.shape rfl
  exact⟨ms,p,_,c,s,t,0,h2,h3,.inl ⟨rfl,z,h1,h4⟩,hb⟩
 ·exact⟨[],none,0,0,_,_,k,h3,LL.nil w',.inr ⟨h2,h1,rfl,rfl,rfl⟩,hb⟩
theorem Zot {r r':Except Int (Fl×Rat)} {ms ms':Fl} {s t s' t':ByteArray} {k k':Int} (h:Zjb r ms s t k) (h':Zjb r' ms' s' t' k') (hr:r=r'\/r=.error 4\/r'=.error 4) (h4:k≠4) (h4':k'≠4):k=k'/\ms=ms'/\s=s'/\t=t':=by
 have key:∀ {r:Except Int (Fl×Rat)} {ms:Fl} {s t:ByteArray} {k:Int},Zjb r ms s t k->k≠4->r≠.error 4:=by
  rintro r ms s t k (⟨rfl,z,rfl,_⟩ | ⟨_,rfl,_⟩) hk he
  ·cases he
  ·cases he;exact hk rfl
 rcases hr with hr | hr | hr
 ·subst hr
  rcases h with ⟨rfl,z,h1,hi⟩ | ⟨hk,h1,rfl,rfl,rfl⟩
  ·rcases h' with ⟨rfl,z',h1',hi'⟩ | ⟨_,h1',_⟩
   ·rw[h1] at h1'
    cases h1'
    obtain⟨e1,e2⟩:=hi.one hi'
    exact⟨rfl,rfl,e1,e2⟩
   ·rw[h1] at h1';cases h1'
  ·rcases h' with ⟨rfl,z',h1',hi'⟩ | ⟨_,h1',rfl,rfl,rfl⟩
   ·rw[h1] at h1';cases h1'
   ·rw[h1] at h1';cases h1';exact⟨rfl,rfl,rfl,rfl⟩
 ·exact Zqx hr (key h h4)
 ·exact Zqx hr (key h' h4')
def Zi5 (r:Except Int (List Fl)) (fs:List Fl) (k:Int):Prop:=(k=0/\r=.ok fs)\/(k≠0/\r=.error k/\fs=[])
theorem Zld {r:Except Int (List Fl)} {w w':World} {e:Ending} (h:SmoA r w e w'):∃ (fs:List Fl) (p:Option Addr) (n c:Nat) (k:Int),e=.returned (.tuple #[.slice p n c,.int .i64 k])/\ZhE w' (.slice p n c) fs/\Zi5 r fs k/\Below w.heap.size w w':=by
 obtain⟨h,hb⟩:=h
 rcases h with ⟨fs,v,h1,h2,h3⟩ | ⟨k,h1,h2,h3⟩
 ·obtain⟨p,c,rfl,_,_⟩:=h3.shape rfl
  exact⟨fs,p,_,c,0,h2,h3,.inl ⟨rfl,h1⟩,hb⟩
 ·exact⟨[],none,0,0,k,h3,LL.nil w',.inr ⟨h2,h1,rfl⟩,hb⟩
theorem Zoo {r r':Except Int (List Fl)} {fs fs':List Fl} {k k':Int} (h:Zi5 r fs k) (h':Zi5 r' fs' k') (hr:r=r'\/r=.error 4\/r'=.error 4) (h4:k≠4) (h4':k'≠4):k=k'/\fs=fs':=by
 have key:∀ {r:Except Int (List Fl)} {fs:List Fl} {k:Int},Zi5 r fs k->k≠4->r≠.error 4:=by
  rintro r fs k (⟨rfl,rfl⟩ | ⟨_,rfl,_⟩) hk he
  ·cases he
  ·cases he;exact hk rfl
 rcases hr with hr | hr | hr
 ·subst hr
  rcases h with ⟨rfl,h1⟩ | ⟨hk,h1,rfl⟩
  ·rcases h' with ⟨rfl,h1'⟩ | ⟨_,h1',_⟩
   ·rw[h1] at h1';cases h1';exact⟨rfl,rfl⟩
   ·rw[h1] at h1';cases h1'
  ·rcases h' with ⟨rfl,h1'⟩ | ⟨_,h1',rfl⟩
   ·rw[h1] at h1';cases h1'
   ·rw[h1] at h1';cases h1';exact⟨rfl,rfl⟩
 ·exact Zqx hr (key h h4)
 ·exact Zqx hr (key h' h4')
theorem Zcb:Zde (InR ZK):=fun w w' b o x B h hb hw hB=>InR.stays ZK.stay w w' b o x B h hb hw hB
end Go.Proofs.YtjmckebecpjjfaaGreatDoor
