/- The parts BelFB, LawOf, Curve, Bends, Missed, Halv. -/
import Derived.Test.YtjmckebecpjjfaaGreatDoorH24
set_option maxRecDepth 100000
set_option maxHeartbeats 4000000
set_option linter.unusedVariables false
set_option linter.unusedSimpArgs false
namespace Go.Proofs.YtjmckebecpjjfaaGreatDoor
open Go.RowKit Go.Shelf
attribute [local go_sem ↓] Go.wp_at_zero Go.wp_at_succ
abbrev nsO (v:Value):Obj:=.cells #[v] 28
def FilQ (r:Except Int (Fl×Rat)) (L P C:Nat) (n:Int) (W:World):Prop:=
 (n=0->∃ m z v s t,r=.ok (m,z)/\W.heap[L]?=some (msO v)/\W.heap[P]?=some (pObj s t)/\OwnM W C v m/\ZaZ m/\IsP z s t)/\(n≠0->r=.error n/\W.heap[L]?=some (msO (.slice none 0 0))/\W.heap[P]?=some (pObj ZqD ZqD))
theorem FilQ.stay {r:Except Int (Fl×Rat)} {L P C p:Nat} {n:Int} {W W':World} (h:FilQ r L P C n W) (hk:Keeps (fun b=>b≠p) W W') (h1:L<p) (h2:P<p) (h3:p<C):FilQ r L P C n W':=by
 have hb:∀ {b:Nat} {o:Obj},b<p->W.heap[b]?=some o->W'.heap[b]?=some o:=fun hb ho=>(hk.block _ (ZqC ho) Za).trans ho
 refine⟨fun hn=>?_,fun hn=>⟨(h.2 hn).1,hb h1 (h.2 hn).2.1,hb h2 (h.2 hn).2.2⟩⟩
 obtain⟨m,z,v,s,t,e1,e2,e3,e4,e5,e6⟩:=h.1 hn
 exact⟨m,z,v,s,t,e1,hb h1 e2,hb h2 e3,Zx e4 hk fun g hg=>Za,e5,e6⟩
def ZdS (b:BelP) (ns:List NoteP) (K:Nat):Except Int (Fl×Rat):=
 match Zae b ns K with
 | .error e=>.error e
 | .ok (fs,z)=>.ok (fs.getD K [],z)
theorem ZkQ {b:BelP} {lv sv nl:Value} {ns:List NoteP} {K B M E L P C:Nat} {w:World} (h:BelIn b lv sv w) (hb:ZF b=true) (hl:NotesIn ns nl w) (hn:∀ k,k<ns.length->ZH b (ntA ns k)=true) (hK:K<=32)
  (hB:w.heap[B]?=some (belO b lv sv)) (hM:w.heap[M]?=some (nsO nl)) (hE:w.heap[E]?=some (inO K)) (hL:w.heap[L]?=some (msO (.slice none 0 0))) (hP:w.heap[P]?=some (pObj ZqD ZqD)) (hC:C<=w.heap.size) (hLP:L≠P) (hEL:E≠L) :
  Calls Tryz.prog 41 #[.pointer (some ⟨B,0,none⟩),.pointer (some ⟨M,0,none⟩),.pointer (some ⟨E,0,none⟩),.pointer (some ⟨L,0,none⟩),.pointer (some ⟨P,0,none⟩)] w (Zhe (FilQ (ZdS b ns K) L P C) (fun x=>x≠L/\x≠P) w):=by
 obtain⟨pn,cn,rfl,_,_⟩:=hl.list.shape rfl
 obtain⟨nn,hnn⟩:=ZqJ ns.length
 rw[hnn] at hl hM
 have HFI:=ZqH (Zhy h hb hl hn hK)
 have HFW:=ZqH (fun fs z hfz=>ZdL (k:=K) (all:=fs) (left:=z) hb hn hfz)
 have HC:=ZqH hC
 have HL:=ZqH hL
 have HP:=ZqH hP
 have hE':=hE
 have HEE:=ZqH hE'
 have hll:=(ZqC hL)
 have hpl:=(ZqC hP)
 obtain⟨c0,c1,c2,c3,c4⟩:=Zv hB
 have m0:=Zn hM 0 (v:=.slice pn nn cn) rfl
 have k0:=Zn hE 0 (v:=.int .i64 (K:Int)) rfl
 clear h hb hl hn hB hM hE hE' hL hP hC hnn
 go_enter Tryz.func41,Tryz.ntmps41
 go_wp2_with fail
 refine HFI.out.mono ?_
 rintro e w2 ⟨hE2,hbel⟩
 have HB:=ZqH hbel
 have HL2:Hid (w2.heap[L]?=some (msO (.slice none 0 0))):=(hbel.block L hll).trans HL.out
 have HP2:Hid (w2.heap[P]?=some (pObj ZqD ZqD)):=(hbel.block P hpl).trans HP.out
 clear hbel HFI c0 c1 c2 c3 c4 m0 k0
 rcases hE2 with ⟨fs,z,v,vs,s,t,h1,rfl,h3,h4,hi⟩ | ⟨n,h1,h2,rfl⟩
 ·obtain⟨hln,_,_,_⟩:=HFW.out fs z h1
  obtain⟨hvl,hall⟩:=h3
  obtain⟨hO,hG⟩:=hall K Za
  obtain⟨g,cap,cur,rfl,hgb,hgr⟩:∃ g cap cur,v=.slice (some ⟨g,0,none⟩) vs.length cap/\w.heap.size<=g/\w2.heap[g]?=some (.cells cur 33 (0,0)):=by
   rcases h4.2 with ⟨_,h⟩ | ⟨g,cap,cur,hv,hb,hg,_⟩
   ·omega
   ·exact⟨g,cap,cur,hv,hb,hg⟩
  have hcell:=World.ownsRow.cellAt h4 K Za
  have hck:w2.cell? ⟨g,K,none⟩=some (vs.getD K undef):=by
   have h5:K<vs.length:=Za
   rw[Zqg h5] at hcell
   rw[List.getD_eq_getElem?_getD,Zqg h5]
   exact hcell
  obtain⟨vK,hvK⟩:=ZqJ (vs.getD K undef)
  rw[hvK] at hO hck
  obtain⟨pk,nk,ck,rfl⟩:∃ p n c,vK=Value.slice p n c:=by
   rcases hO.2 with ⟨h,_⟩ | ⟨_,_,_,h,_⟩
   ·exact⟨_,_,_,h⟩
   ·exact⟨_,_,_,h⟩
  have HR:Hid (ZdS b ns K=.ok (fs.getD K [],z)):=by show _=_;unfold ZdS;rw[h1]
  have HO:=ZqH hO
  have HGF:=ZqH hG
  have HI:=ZqH hi
  have hkn:(K:Int)<(vs.length:Int):=Za
  have hk0:(0:Int)<=(K:Int):=Za
  obtain⟨W6,hW6⟩:=ZqJ (w2.alloc (pObj s t))
  obtain⟨q6,hq6⟩:=ZqJ w2.heap.size
  have hk6:Keeps (fun _=>True) w2 W6:=by rw[<- hW6];exact(Keeps.refl _ w2).alloc _
  have HQ6:Hid (W6.heap[q6]?=some (pObj s t)):=by show _=_;rw[<- hW6,<- hq6];exact ZpY w2 _
  have HC6:Hid (W6.cell? ⟨g,K,none⟩=some (.slice pk nk ck)):=hk6.cellAt hck trivial
  have HE6:Hid (W6.heap[E]?=some (inO K)):=(hk6.block _ (Zp2 (ZqC HEE.out) HB.out.size) trivial).trans ((HB.out.block _ (ZqC HEE.out)).trans HEE.out)
  have HL6:Hid (W6.heap[L]?=some (msO (.slice none 0 0))):=(hk6.block _ (ZqC HL2.out) trivial).trans HL2.out
  have HP6:Hid (W6.heap[P]?=some (pObj ZqD ZqD)):=(hk6.block _ (ZqC HP2.out) trivial).trans HP2.out
  have HO6:Hid (OwnM W6 w.heap.size (.slice pk nk ck) (fs.getD K [])):=Zx HO.out hk6 fun _ _=>trivial
  have HK6:Hid (Keeps (fun _=>True) w W6):=(HB.out.keepsS _).trans hk6
  have HGL:Hid (g≠L/\q6≠L):=⟨Za,by have:=HB.out.size;omega⟩
  clear h1 h4 hln hvl hall hO hG hcell hck hvK hi hgb hgr hk6
  go_wp2_with fail
  clear hW6 hq6
  refine ZA [(1,0),(1,1),(1,2),(1,3),(1,4),(0,5),(0,6)] (Keeps (fun x=>x≠L) W6) (fun i=>i==6)
   Zb Zb (fun j hj=>by have h:7<=j:=hj;simp;omega) Zi (Keeps.refl _ W6).drew ?_
  iterate 5
   refine Zq _ rfl rfl (fun w' hS=>by have he:=(hS.block _ (ZqC HE6.out) hEL).trans HE6.out;have e0:=Zn he 0 (v:=.int .i64 (K:Int)) rfl;have hc:=hS.cellAt HC6.out HGL.out.1;have hq:=(hS.block _ (ZqC HQ6.out) HGL.out.2).trans HQ6.out;have q0:=Zn hq 0 (v:=.string s) rfl;have q1:=Zn hq 1 (v:=.string t) rfl;exact Ze) ?_
   simp only[Act.put,Zl]
  obtain⟨V,hV⟩:=ZqJ W6.drew
  have HLV:Hid (V.heap[L]?=some (msO (.slice none 0 0))):=by show _=_;rw[<- hV];exact HL6.out
  have HPV:Hid (V.heap[P]?=some (pObj ZqD ZqD)):=by show _=_;rw[<- hV];exact HP6.out
  have HKV:Hid (Keeps (fun _=>True) W6 V):=by show Keeps _ _ _;rw[<- hV];exact(Keeps.refl _ W6).drew
  rw[hV]
  clear hV
  have l0:=Zn HLV.out 0 (v:=.slice none 0 0) rfl
  have l1:=Zo HLV.out 0
  obtain⟨W7,hW7⟩:=ZqJ (V.setCell ⟨L,0,none⟩ (.slice pk nk ck))
  have HL7:Hid (W7.heap[L]?=some (msO (.slice pk nk ck))):=by show _=_;rw[<- hW7];exact Zp0 HLV.out _
  have HK7:Hid (Keeps (fun x=>x≠L) V W7):=by show Keeps _ _ _;rw[<- hW7];exact(Keeps.refl _ V).setCell (p:=⟨L,0,none⟩) (fun h=>h rfl) _
  have HP7:Hid (W7.heap[P]?=some (pObj ZqD ZqD)):=(HK7.out.block _ (ZqC HPV.out) (Ne.symm hLP)).trans HPV.out
  refine ZG rfl rfl fun K' hK'=>?_
  go_simp
  refine hK' _ _ (.inr (HKV.out.mono (fun _ _ _=>trivial) |>.trans HK7.out)) ?_
  clear hK' K' hW7 l0 l1
  have s0:=Zn HP7.out 0 (v:=.string ZqD) rfl
  have s1:=Zn HP7.out 1 (v:=.string ZqD) rfl
  have f0:=Zo HP7.out 0
  have f1:=Zo HP7.out 1
  obtain⟨W8,hW8⟩:=ZqJ ((W7.setCell ⟨P,0,none⟩ (.string s)).setCell ⟨P,1,none⟩ (.string t))
  have HP8:Hid (W8.heap[P]?=some (pObj s t)):=by show _=_;rw[<- hW8];exact ZQ HP7.out _ _
  have HK8:Hid (Keeps (fun x=>x≠P) W7 W8):=by show Keeps _ _ _;rw[<- hW8];exact((Keeps.refl _ W7).setCell (p:=⟨P,0,none⟩) (fun h=>h rfl) _).setCell (p:=⟨P,1,none⟩) (fun h=>h rfl) _
  have HL8:Hid (W8.heap[L]?=some (msO (.slice pk nk ck))):=(HK8.out.block _ (ZqC HL7.out) hLP).trans HL7.out
  refine ZG rfl rfl fun K' hK'=>?_
  go_simp
  refine hK' _ _ (.inl rfl) ?_
  clear hK' K' hW8 s0 s1 f0 f1
  refine Zz ?_
  have hO8:OwnM W8 w.heap.size (.slice pk nk ck) (fs.getD K []):=Zx (Zx (Zx HO6.out HKV.out fun _ _=>trivial) HK7.out fun x hx=>by show x≠L;omega) HK8.out fun x hx=>by show x≠P;omega
  have HO8:Hid (OwnM W8 C (.slice pk nk ck) (fs.getD K [])):=Zar hO8 HC.out
  have HKK:Hid (Keeps (fun x=>x≠L/\x≠P) w W8):=(HK6.out.mono fun _ _ _=>trivial).trans ((HKV.out.mono fun _ _ _=>trivial).trans ((HK7.out.mono fun _ _ h=>h.1).trans (HK8.out.mono fun _ _ h=>h.2)))
  clear hO8
  go_wp2
  go_end0
  exact⟨0,.inl ⟨rfl,rfl⟩,⟨fun _=>⟨_,z,_,s,t,HR.out,HL8.out,HP8.out,HO8.out,HGF.out,HI.out⟩,fun hn=>Zqx rfl hn⟩,HKK.out⟩
 ·have HR:Hid (ZdS b ns K=.error n):=by show _=_;unfold ZdS;rw[h1]
  refine⟨rfl,?_⟩
  exact⟨n,.inr ⟨h2,rfl⟩,⟨fun hn=>Zqx hn h2,fun _=>⟨HR.out,HL2.out,HP2.out⟩⟩,HB.out.keepsS _⟩
def ZbF (b:BelP) (ns:List NoteP) (steps:Int):Except Int (Fl×Rat):=if Z3 b ns steps=0 then ZdS b ns steps.toNat else .error (Z3 b ns steps)
def FilA (r:Except Int (Fl×Rat)) (w:World) (e:Ending) (w':World):Prop:=
 ((∃ m z v s t,r=.ok (m,z)/\e=.returned (.tuple #[v,pV s t,.int .i64 0])/\ZK w' v m/\ZaZ m/\IsP z s t)\/(∃ n,r=.error n/\n≠0/\e=.returned (.tuple #[.slice none 0 0,pV ZqD ZqD,.int .i64 n])))/\Below w.heap.size w w'
theorem ZeK {b:BelP} {ns:List NoteP} {steps:Int} (h:Z3 b ns steps=0):ZF b=true/\(∀ k,k<ns.length->ZH b (ntA ns k)=true)/\(0<=steps/\steps<=32)/\ns.length<=64:=by
 unfold Z3 at h
 by_cases h1:(!ZF b || ZV (fun k=>!ZH b (ntA ns k)) ns.length)=true
 ·rw[if_pos h1] at h;cases h
 rw[if_neg h1] at h
 by_cases h2:64<ns.length
 ·rw[if_pos h2] at h;cases h
 rw[if_neg h2] at h
 by_cases h3:(!inG 0 steps 32 || ZV (fun k=>decide (steps<(ntA ns k).time)) ns.length)=true
 ·rw[if_pos h3] at h;cases h
 rw[Bool.not_eq_true,Bool.or_eq_false_iff] at h1 h3
 refine⟨by simpa using h1.1,fun k hk=>by simpa using ZcQ h1.2 hk,Zcp.1 (by simpa using h3.1),Za⟩
theorem Zeb {b:BelP} {lv sv nl:Value} {ns:List NoteP} {steps:Int} {w:World} (h:BelIn b lv sv w) (hz:LimB b) (hl:NotesIn ns nl w):Calls Tryz.prog 14 #[belV b lv sv,nl,.int .i64 steps] w (FilA (ZbF b ns steps) w):=by
 obtain⟨pn,cn,rfl,_,_⟩:=hl.list.shape rfl
 obtain⟨nn,hnn⟩:=ZqJ ns.length
 rw[hnn] at hl ⊢
 have HE1:Hid (Env w.heap.size w [(w.heap.size+1+1+1+1,pObj ZqD ZqD),(w.heap.size+1+1+1,msO (.slice none 0 0)),(w.heap.size+1+1,inO steps),(w.heap.size+1,nsO (.slice pn nn cn)),(w.heap.size,belO b lv sv)] [] (((((w.alloc (belO b lv sv)).alloc (nsO (.slice pn nn cn))).alloc (inO steps)).alloc (msO (.slice none 0 0))).alloc (pObj ZqD ZqD))):=(((((Env.start w).push _ rfl).push _ Zc).push _ Zc).push _ Zc).push _ Zc
 obtain⟨w1,hw1⟩:=ZqJ ((((((w.alloc (belO b lv sv)).alloc (nsO (.slice pn nn cn))).alloc (inO steps)).alloc (msO (.slice none 0 0))).alloc (pObj ZqD ZqD)))
 rw[hw1] at HE1
 have HH:=ZqH h
 have HZ:=ZqH hz
 have HNI:=ZqH hl
 have HC:=ZqH (ZdO (steps:=steps) (h.below HE1.out.base ZqI) hz (hl.below HE1.out.base ZqI))
 obtain⟨c0,c1,c2,c3,c4⟩:=Zv (HE1.out.block 4 rfl)
 have m0:=HE1.out.cell 3 0 (v:=.slice pn nn cn) rfl rfl
 have k0:=HE1.out.cell 2 0 (v:=.int .i64 steps) rfl rfl
 clear h hz hl hnn
 go_enter Tryz.func14,Tryz.ntmps14
 go_wp2_with fail
 refine HC.out.mono ?_
 rintro e w2 ⟨rfl,hb⟩
 have HE2:=ZqH (HE1.out.step hb)
 clear hb HC c0 c1 c2 c3 c4 hw1 m0 k0 HE1
 obtain⟨ne,hne⟩:=ZqJ (Z3 b ns steps)
 have HNE:=ZqH hne
 rw[hne]
 clear hne
 by_cases h0:ne=0
 ·subst h0
  obtain⟨hcb,hnb,⟨hs0,hs1⟩,_⟩:=ZeK HNE.out
  obtain⟨K,hK⟩:∃ K:Nat,steps=K:=⟨steps.toNat,Za⟩
  subst hK
  have HR:Hid (ZbF b ns (K:Int)=ZdS b ns K):=by
   show _=_
   unfold ZbF
   rw[HNE.out,if_pos rfl,Int.toNat_natCast]
  have hal:=(ZpV w2.heap.size w2).alloc ZqI (brO 0)
  have hbw:=HE2.out.base.trans (hal.mono HE2.out.own)
  have hlt:=HE2.out.lt 0 rfl
  have hdo:=ZkQ (w:=w2.alloc (brO 0)) (K:=K) (B:=w.heap.size) (M:=w.heap.size+1) (E:=w.heap.size+1+1) (L:=w.heap.size+1+1+1) (P:=w.heap.size+1+1+1+1) (C:=w2.heap.size+1) (HH.out.below hbw ZqI) hcb (HNI.out.below hbw ZqI) hnb Za
   ((hal.block _ (HE2.out.lt 4 rfl)).trans (HE2.out.block 4 rfl)) ((hal.block _ (HE2.out.lt 3 rfl)).trans (HE2.out.block 3 rfl)) ((hal.block _ (HE2.out.lt 2 rfl)).trans (HE2.out.block 2 rfl)) ((hal.block _ (HE2.out.lt 1 rfl)).trans (HE2.out.block 1 rfl)) ((hal.block _ hlt).trans (HE2.out.block 0 rfl)) Zc Za Za
  have HT:=ZqH (Zdr (enters_of Tryz.func41 Zb rfl) (w:=w2) (S:=fun x=>x≠w.heap.size+1+1+1/\x≠w.heap.size+1+1+1+1) (fun x hx=>⟨Za,Za⟩) (fun n W W' hQ hk=>hQ.stay hk Za hlt Za) hdo)
  clear hdo hal hbw hcb hnb hs0 hs1
  go_wp2_with fail
  refine HT.out.mono ?_
  rintro e w3 ⟨n,rfl,hQ,hk⟩
  have HB3:ZqB w w3:=HE2.out.base.trans ((hk.mono (S':=fun x=>x<w.heap.size) fun x _ hx=>⟨Za,Za⟩).toBelow HE2.out.base.size)
  have HQ:=ZqH hQ
  clear hQ hk HT hlt
  by_cases hn:n=0
  ·obtain⟨m,z,v,s,t,e1,e2,e3,e4,e5,e6⟩:=HQ.out.1 hn
   subst hn
   obtain⟨p9,n9,c9,rfl⟩:∃ p n c,v=Value.slice p n c:=by
    rcases e4.2 with ⟨h,_⟩ | ⟨_,_,_,h,_⟩
    ·exact⟨_,_,_,h⟩
    ·exact⟨_,_,_,h⟩
   have HL3:=ZqH e2
   have HP3:=ZqH e3
   have HRR:=ZqH (HR.out.trans e1)
   have HML:Hid (∀ X,Keeps (fun x=>x≠w.heap.size+1+1+1/\x≠w.heap.size+1+1+1+1) w3 X->ZK X (.slice p9 n9 c9) m):=fun X hX=>Zcf (Zx e4 hX fun g hg=>by have:=HE2.out.lt 0 rfl;exact⟨Za,Za⟩) e5
   have HGF:=ZqH (Zqy e5 e6)
   clear e1 e2 e3 e4 e5 e6 HQ
   go_wp2_with fail
   have HKL:Hid (∀ X,(X.heap[w.heap.size+1+1+1]?=some (msO (.slice p9 n9 c9))/\X.heap[w.heap.size+1+1+1+1]?=some (pObj s t)/\Keeps (fun x=>x≠w.heap.size+1+1+1/\x≠w.heap.size+1+1+1+1) w3 X)->Below w.heap.size w X):=fun X hX=>HB3.out.trans ((hX.2.2.mono (S':=fun x=>x<w.heap.size) fun x _ hx=>Za).toBelow HB3.out.size)
   refine ZA [(1,0),(1,1),(1,2),(0,3),(0,4),(1,5)] (fun X=>X.heap[w.heap.size+1+1+1]?=some (msO (.slice p9 n9 c9))/\X.heap[w.heap.size+1+1+1+1]?=some (pObj s t)/\Keeps (fun x=>x≠w.heap.size+1+1+1/\x≠w.heap.size+1+1+1+1) w3 X) (fun _=>false)
    Zb Zb (fun _ _=>rfl) Zi ⟨HL3.out,HP3.out,(Keeps.refl _ w3).drew⟩ ?_
   iterate 3
    refine Zq _ rfl rfl (fun w' hS=>by have l0:=Zn hS.1 0 (v:=.slice p9 n9 c9) rfl;have p0:=Zn hS.2.1 0 (v:=.string s) rfl;have p1:=Zn hS.2.1 1 (v:=.string t) rfl;exact Ze) ?_
    simp only[Act.put,Zl]
   obtain⟨V,hV⟩:=ZqJ w3.drew
   have HLV:Hid (V.heap[w.heap.size+1+1+1]?=some (msO (.slice p9 n9 c9))):=by show _=_;rw[<- hV];exact HL3.out
   have HPV:Hid (V.heap[w.heap.size+1+1+1+1]?=some (pObj s t)):=by show _=_;rw[<- hV];exact HP3.out
   have HKV:Hid (Keeps (fun _=>True) w3 V):=by show Keeps _ _ _;rw[<- hV];exact(Keeps.refl _ w3).drew
   rw[hV]
   clear hV
   have l0:=Zn HLV.out 0 (v:=.slice p9 n9 c9) rfl
   have l1:=Zo HLV.out 0
   obtain⟨W7,hW7⟩:=ZqJ (V.setCell ⟨w.heap.size+1+1+1,0,none⟩ (.slice p9 n9 c9))
   have HL7:Hid (W7.heap[w.heap.size+1+1+1]?=some (msO (.slice p9 n9 c9))):=by show _=_;rw[<- hW7];exact Zp0 HLV.out _
   have HK7:Hid (Keeps (fun x=>x≠w.heap.size+1+1+1) V W7):=by show Keeps _ _ _;rw[<- hW7];exact(Keeps.refl _ V).setCell (p:=⟨w.heap.size+1+1+1,0,none⟩) (fun h=>h rfl) _
   have HP7:Hid (W7.heap[w.heap.size+1+1+1+1]?=some (pObj s t)):=(HK7.out.block _ (ZqC HPV.out) (by show w.heap.size+1+1+1+1≠w.heap.size+1+1+1;omega)).trans HPV.out
   have HKK7:Hid (Keeps (fun x=>x≠w.heap.size+1+1+1/\x≠w.heap.size+1+1+1+1) w3 W7):=(HKV.out.mono fun _ _ _=>trivial).trans (HK7.out.mono fun _ _ h=>h.1)
   refine ZG rfl rfl fun K' hK'=>?_
   go_simp
   refine hK' _ _ (.inr ⟨HL7.out,HP7.out,HKK7.out⟩) ?_
   clear hK' K' hW7 l0 l1
   have s0:=Zn HP7.out 0 (v:=.string s) rfl
   have s1:=Zn HP7.out 1 (v:=.string t) rfl
   have f0:=Zo HP7.out 0
   have f1:=Zo HP7.out 1
   obtain⟨W8,hW8⟩:=ZqJ ((W7.setCell ⟨w.heap.size+1+1+1+1,0,none⟩ (.string s)).setCell ⟨w.heap.size+1+1+1+1,1,none⟩ (.string t))
   have hp8:W8.heap[w.heap.size+1+1+1+1]?=some (pObj s t):=by rw[<- hW8];exact ZQ HP7.out _ _
   have hk8:Keeps (fun x=>x≠w.heap.size+1+1+1+1) W7 W8:=by rw[<- hW8];exact((Keeps.refl _ W7).setCell (p:=⟨w.heap.size+1+1+1+1,0,none⟩) (fun h=>h rfl) _).setCell (p:=⟨w.heap.size+1+1+1+1,1,none⟩) (fun h=>h rfl) _
   have hl8:W8.heap[w.heap.size+1+1+1]?=some (msO (.slice p9 n9 c9)):=(hk8.block _ (ZqC HL7.out) (by show w.heap.size+1+1+1≠w.heap.size+1+1+1+1;omega)).trans HL7.out
   have HKK8:Hid (Keeps (fun x=>x≠w.heap.size+1+1+1/\x≠w.heap.size+1+1+1+1) w3 W8):=HKK7.out.trans (hk8.mono fun _ _ h=>h.2)
   have q0:=Zn hp8 0 (v:=.string s) rfl
   have q1:=Zn hp8 1 (v:=.string t) rfl
   have r0:=Zn hl8 0 (v:=.slice p9 n9 c9) rfl
   have HS8:=ZqH (Zqy hl8 (Zqy hp8 HKK8.out))
   clear hp8 hk8 hl8
   refine ZG rfl rfl fun K' hK'=>?_
   go_simp
   refine hK' _ _ (.inr HS8.out) ?_
   clear hK' K' hW8 s0 s1 f0 f1
   iterate 1
    refine Zq _ rfl rfl (fun w' hS=>Ze) ?_
    simp only[Act.put,Zl]
   refine Zz ?_
   go_wp2
   exact ZpW (v:=.tuple #[.slice p9 n9 c9,pV s t,.int .i64 0]) (by simp[results,Tryz.f14,go_sem,q0,q1,r0]) rfl ⟨.inl ⟨m,z,_,s,t,HRR.out,rfl,HML.out _ HS8.out.2.2,HGF.out.1,HGF.out.2⟩,HKL.out _ HS8.out⟩
  ·obtain⟨e1,e2,e3⟩:=HQ.out.2 hn
   have HN:=ZqH hn
   have HL3:=ZqH e2
   have HP3:=ZqH e3
   have HRR:=ZqH (HR.out.trans e1)
   clear e1 e2 e3 HQ hn
   go_wp2_with fail
   have HKL:Hid (∀ X,(X.heap[w.heap.size+1+1+1]?=some (msO (.slice none 0 0))/\X.heap[w.heap.size+1+1+1+1]?=some (pObj ZqD ZqD)/\Keeps (fun x=>x≠w.heap.size+1+1+1/\x≠w.heap.size+1+1+1+1) w3 X)->Below w.heap.size w X):=fun X hX=>HB3.out.trans ((hX.2.2.mono (S':=fun x=>x<w.heap.size) fun x _ hx=>Za).toBelow HB3.out.size)
   refine ZA [(1,0),(1,1),(1,2),(0,3),(0,4),(1,5)] (fun X=>X.heap[w.heap.size+1+1+1]?=some (msO (.slice none 0 0))/\X.heap[w.heap.size+1+1+1+1]?=some (pObj ZqD ZqD)/\Keeps (fun x=>x≠w.heap.size+1+1+1/\x≠w.heap.size+1+1+1+1) w3 X) (fun _=>false)
    Zb Zb (fun _ _=>rfl) Zi ⟨HL3.out,HP3.out,(Keeps.refl _ w3).drew⟩ ?_
   iterate 3
    refine Zq _ rfl rfl (fun w' hS=>by have l0:=Zn hS.1 0 (v:=.slice none 0 0) rfl;have p0:=Zn hS.2.1 0 (v:=.string ZqD) rfl;have p1:=Zn hS.2.1 1 (v:=.string ZqD) rfl;exact Ze) ?_
    simp only[Act.put,Zl]
   obtain⟨V,hV⟩:=ZqJ w3.drew
   have HLV:Hid (V.heap[w.heap.size+1+1+1]?=some (msO (.slice none 0 0))):=by show _=_;rw[<- hV];exact HL3.out
   have HPV:Hid (V.heap[w.heap.size+1+1+1+1]?=some (pObj ZqD ZqD)):=by show _=_;rw[<- hV];exact HP3.out
   have HKV:Hid (Keeps (fun _=>True) w3 V):=by show Keeps _ _ _;rw[<- hV];exact(Keeps.refl _ w3).drew
   rw[hV]
   clear hV
   have l0:=Zn HLV.out 0 (v:=.slice none 0 0) rfl
   have l1:=Zo HLV.out 0
   obtain⟨W7,hW7⟩:=ZqJ (V.setCell ⟨w.heap.size+1+1+1,0,none⟩ (.slice none 0 0))
   have HL7:Hid (W7.heap[w.heap.size+1+1+1]?=some (msO (.slice none 0 0))):=by show _=_;rw[<- hW7];exact Zp0 HLV.out _
   have HK7:Hid (Keeps (fun x=>x≠w.heap.size+1+1+1) V W7):=by show Keeps _ _ _;rw[<- hW7];exact(Keeps.refl _ V).setCell (p:=⟨w.heap.size+1+1+1,0,none⟩) (fun h=>h rfl) _
   have HP7:Hid (W7.heap[w.heap.size+1+1+1+1]?=some (pObj ZqD ZqD)):=(HK7.out.block _ (ZqC HPV.out) (by show w.heap.size+1+1+1+1≠w.heap.size+1+1+1;omega)).trans HPV.out
   have HKK7:Hid (Keeps (fun x=>x≠w.heap.size+1+1+1/\x≠w.heap.size+1+1+1+1) w3 W7):=(HKV.out.mono fun _ _ _=>trivial).trans (HK7.out.mono fun _ _ h=>h.1)
   refine ZG rfl rfl fun K' hK'=>?_
   go_simp
   refine hK' _ _ (.inr ⟨HL7.out,HP7.out,HKK7.out⟩) ?_
   clear hK' K' hW7 l0 l1
   have s0:=Zn HP7.out 0 (v:=.string ZqD) rfl
   have s1:=Zn HP7.out 1 (v:=.string ZqD) rfl
   have f0:=Zo HP7.out 0
   have f1:=Zo HP7.out 1
   obtain⟨W8,hW8⟩:=ZqJ ((W7.setCell ⟨w.heap.size+1+1+1+1,0,none⟩ (.string ZqD)).setCell ⟨w.heap.size+1+1+1+1,1,none⟩ (.string ZqD))
   have hp8:W8.heap[w.heap.size+1+1+1+1]?=some (pObj ZqD ZqD):=by rw[<- hW8];exact ZQ HP7.out _ _
   have hk8:Keeps (fun x=>x≠w.heap.size+1+1+1+1) W7 W8:=by rw[<- hW8];exact((Keeps.refl _ W7).setCell (p:=⟨w.heap.size+1+1+1+1,0,none⟩) (fun h=>h rfl) _).setCell (p:=⟨w.heap.size+1+1+1+1,1,none⟩) (fun h=>h rfl) _
   have hl8:W8.heap[w.heap.size+1+1+1]?=some (msO (.slice none 0 0)):=(hk8.block _ (ZqC HL7.out) (by show w.heap.size+1+1+1≠w.heap.size+1+1+1+1;omega)).trans HL7.out
   have HKK8:Hid (Keeps (fun x=>x≠w.heap.size+1+1+1/\x≠w.heap.size+1+1+1+1) w3 W8):=HKK7.out.trans (hk8.mono fun _ _ h=>h.2)
   have q0:=Zn hp8 0 (v:=.string ZqD) rfl
   have q1:=Zn hp8 1 (v:=.string ZqD) rfl
   have r0:=Zn hl8 0 (v:=.slice none 0 0) rfl
   have HS8:=ZqH (Zqy hl8 (Zqy hp8 HKK8.out))
   clear hp8 hk8 hl8
   refine ZG rfl rfl fun K' hK'=>?_
   go_simp
   refine hK' _ _ (.inr HS8.out) ?_
   clear hK' K' hW8 s0 s1 f0 f1
   iterate 1
    refine Zq _ rfl rfl (fun w' hS=>Ze) ?_
    simp only[Act.put,Zl]
   refine Zz ?_
   go_wp2
   exact ZpW (v:=.tuple #[.slice none 0 0,pV ZqD ZqD,.int .i64 n]) (by simp[results,Tryz.f14,go_sem,q0,q1,r0]) rfl ⟨.inr ⟨n,HRR.out,HN.out,rfl⟩,HKL.out _ HS8.out⟩
 ·have HR:Hid (ZbF b ns steps=.error ne):=by
   show _=_
   unfold ZbF
   rw[HNE.out,if_neg h0]
  have H0:=ZqH h0
  have hne0:(ne !=0)=true:=by rw[bne_iff_ne];exact h0
  clear h0
  have s0:=HE2.out.cell 0 0 (v:=.string ZqD) rfl rfl
  have s1:=HE2.out.cell 0 1 (v:=.string ZqD) rfl rfl
  have l0:=HE2.out.cell 1 0 (v:=.slice none 0 0) rfl rfl
  have f0:=HE2.out.free 0 0 rfl
  have f1:=HE2.out.free 0 1 rfl
  have f2:=HE2.out.free 1 0 rfl
  go_wp2_with fail
  have HE3:=ZqH ((HE2.out.store 1 0 (.slice none 0 0) rfl).fill (.string ZqD) (.string ZqD))
  have q0:=HE3.out.cell 0 0 (v:=.string ZqD) rfl rfl
  have q1:=HE3.out.cell 0 1 (v:=.string ZqD) rfl rfl
  have r0:=HE3.out.cell 1 0 (v:=.slice none 0 0) rfl rfl
  exact ZpW (v:=.tuple #[.slice none 0 0,pV ZqD ZqD,.int .i64 ne]) (by simp[results,Tryz.f14,go_sem,q0,q1,r0]) rfl ⟨.inr ⟨ne,HR.out,H0.out,rfl⟩,HE3.out.base⟩
def ZpP (q:Rat) (w:World) (e:Ending) (w':World):Prop:=∃ x y,e=.returned (ZqE x y)/\IsP q x y/\Below w.heap.size w w'
theorem ZpM (a b:Nat) (hb:0<b) (ha1:a<1000) (hb1:b<1000) (w:World) (hT:Tabs w) :
  Calls Tryz.prog 17 #[.int .i64 a,.int .i64 b] w (ZpP (mkRat (a:Nat) b) w):=by
 have HT:=ZqH hT
 have HF:Hid (Fits (mkRat (a:Nat) b)):=Zl0 (k:=3) hb Za Za Za Za
 have HA:Hid (0<b/\a<1000/\b<1000):=⟨hb,ha1,hb1⟩
 clear hT hb ha1 hb1
 go_enter Tryz.func17,Tryz.ntmps17
 go_wp2_with fail
 obtain⟨w1,hw1⟩:=ZqJ (w.alloc (ZqF ZqD ZqD))
 rw[hw1]
 have HX1:Hid (Zu w.heap.size [ZqF ZqD ZqD] w1):=by rw[<- hw1];exact Zu.one w _
 have HB1:ZqB w w1:=by rw[<- hw1];exact(ZpV _ w).alloc ZqI _
 clear hw1
 refine(Zm4 a b Za (by have:=HA.out;omega) Za (by have:=HA.out;omega) _ (HT.out.below HB1.out ZqI)).mono ?_
 rintro e w2 ⟨x,y,n,rfl,hR,hb2⟩
 have HQ:Hid (IsP (mkRat (a:Nat) b) x y):=by
  have h3:=HA.out
  rcases hR with ⟨h,_⟩ | ⟨_,h,_⟩ | ⟨_,_,h⟩
  ·omega
  ·omega
  ·exact(h.fit HF.out).1
 have HX2:=ZqH (HX1.out.below hb2 HX1.out.lt)
 have HB2:=ZqH (HB1.out.trans (hb2.mono HB1.out.size))
 clear hb2 hR
 have HX3:=ZqH (HX2.out.alloc (ZqF x y))
 have HB3:=ZqH (HB2.out.alloc HB2.out.size (ZqF x y))
 have r0:=HX3.out.cell 0 0 (b:=w.heap.size) rfl rfl rfl
 have r1:=HX3.out.cell 0 1 (b:=w.heap.size) rfl rfl rfl
 have f0:=HX3.out.free 0 0 (b:=w.heap.size) rfl rfl
 have f1:=HX3.out.free 0 1 (b:=w.heap.size) rfl rfl
 go_wp2
 have q:=ZD (HX3.out.block 0 (b:=w.heap.size) rfl rfl) (.string x) (.string y)
 have HBQ:=ZqH (Zy HB3.out (b:=w.heap.size) ZqI (.string x) (.string y))
 obtain⟨w9,hw9⟩:=ZqJ (((w2.alloc (ZqF x y)).setCell ⟨w.heap.size,0,none⟩ (.string x)).setCell ⟨w.heap.size,1,none⟩ (.string y))
 rw[hw9] at q HBQ
 obtain⟨q0,q1⟩:=q
 rw[hw9]
 clear r0 r1 f0 f1 hw9
 refine ZpW (v:=ZqE x y) (by simp[results,Tryz.f17,go_sem,q0,q1]) rfl ⟨_,_,rfl,HQ.out,HBQ.out⟩
def slp (C H:Nat->Rat) (i:Nat):Rat:=(H (i+1)-H i)/(C (i+1)-C i)
structure Conc (n:Nat) (C H:Nat->Rat):Prop where
 two:2<=n
 c0:C 0=0
 h0:H 0=0
 top:∀ i,i<n->H i<=1
 up:∀ i,i+1<n->C i<C (i+1)/\H i<=H (i+1)
 conc:∀ i,i+2<n->slp C H (i+1)<=slp C H i
def slo (n:Nat) (C H:Nat->Rat) (i:Nat):Rat:=if i+1<n then slp C H i else 0
def lin (n:Nat) (C H:Nat->Rat) (i:Nat) (q:Rat):Rat:=H i+slo n C H i*(q-C i)
def ZfR (n:Nat) (C:Nat->Rat) (q:Rat) (i:Nat):Prop:=i<n/\(∀ j,j<i->C (j+1)<=q)/\(i+1<n->q<C (i+1))
theorem ZfR.unique {n:Nat} {C:Nat->Rat} {q:Rat} {i k:Nat} (h:ZfR n C q i) (g:ZfR n C q k):i=k:=by
 obtain⟨h1,h2,h3⟩:=h
 obtain⟨g1,g2,g3⟩:=g
 rcases Nat.lt_trichotomy i k with hl | hl | hl
 ·have a:=h3 Za
  have b:=g2 i hl
  grind
 ·exact hl
 ·have a:=g3 Za
  have b:=h2 k hl
  grind
theorem ZoS {C H:Nat->Rat} {i:Nat} (h:C i<C (i+1)):slp C H i*(C (i+1)-C i)=H (i+1)-H i:=by
 unfold slp
 have:C (i+1)-C i≠0:=Zk
 exact Rat.div_mul_cancel this
theorem ZpC {C H:Nat->Rat} {i:Nat} (h:C i<C (i+1)) (h2:H i<=H (i+1)):0<=slp C H i:=Zl1 Zk Zk
theorem Conc.slo_nn {n:Nat} {C H:Nat->Rat} (h:Conc n C H) (i:Nat):0<=slo n C H i:=by
 unfold slo
 split
 ·rename_i hi
  exact ZpC (h.up i hi).1 (h.up i hi).2
 ·exact Rat.le_refl
theorem Conc.slo_down {n:Nat} {C H:Nat->Rat} (h:Conc n C H) {i:Nat} (hi:i+1<n):slo n C H (i+1)<=slo n C H i:=by
 by_cases h2:i+2<n
 ·unfold slo
  rw[if_pos Za,if_pos hi]
  exact h.conc i h2
 ·have e:slo n C H (i+1)=0:=by unfold slo;rw[if_neg Za]
  rw[e]
  exact h.slo_nn i
theorem Conc.meet {n:Nat} {C H:Nat->Rat} (h:Conc n C H) {i:Nat} (hi:i+1<n) (q:Rat):lin n C H i q=H (i+1)+slo n C H i*(q-C (i+1)):=by
 have e:slo n C H i=slp C H i:=by unfold slo;rw[if_pos hi]
 unfold lin
 rw[e]
 have:=ZoS (C:=C) (H:=H) (h.up i hi).1
 grind
theorem ZjT {s t d:Rat} (h:s<=t) (hd:0<=d):s*d<=t*d:=Rat.mul_le_mul_of_nonneg_right h hd
theorem Conc.lin_up {n:Nat} {C H:Nat->Rat} (h:Conc n C H) {i:Nat} (hi:i+1<n) {q:Rat} (hq:q<=C (i+1)):lin n C H i q<=lin n C H (i+1) q:=by
 rw[h.meet hi]
 unfold lin
 have:=ZjT (h.slo_down hi) (d:=C (i+1)-q) Zk
 grind
theorem Conc.lin_down {n:Nat} {C H:Nat->Rat} (h:Conc n C H) {i:Nat} (hi:i+1<n) {q:Rat} (hq:C (i+1)<=q):lin n C H (i+1) q<=lin n C H i q:=by
 rw[h.meet hi]
 unfold lin
 have:=ZjT (h.slo_down hi) (d:=q-C (i+1)) Zk
 grind
theorem Conc.c_mono {n:Nat} {C H:Nat->Rat} (h:Conc n C H) {i:Nat} : ∀ d,i+d<n->C i<=C (i+d)
 | 0,_=>Rat.le_refl
 | d+1,hd=>Rat.le_trans (h.c_mono d Za) (Rat.le_of_lt (h.up (i+d) Za).1)
theorem Conc.least {n:Nat} {C H:Nat->Rat} (h:Conc n C H) {q:Rat} {k:Nat} (hk:ZfR n C q k) {i:Nat} (hi:i<n):lin n C H k q<=lin n C H i q:=by
 obtain⟨h1,h2,h3⟩:=hk
 by_cases hl:k<=i
 ·have up:∀ d,k+d<n->lin n C H k q<=lin n C H (k+d) q:=fun d=>by
   induction d with
   | zero=>intro _;exact Rat.le_refl
   | succ d ih=>
    intro hd
    have a:=h3 Za
    have b:=h.c_mono (i:=k+1) d Za
    have e:k+1+d=k+d+1:=Za
    rw[e] at b
    exact Rat.le_trans (ih Za) (h.lin_up (i:=k+d) hd Zk)
  have:=up (i-k) Za
  rwa [Nat.add_sub_cancel' hl] at this
 ·have down:∀ d,i+d<=k->lin n C H (i+d) q<=lin n C H i q:=fun d=>by
   induction d with
   | zero=>intro _;exact Rat.le_refl
   | succ d ih=>
    intro hd
    exact Rat.le_trans (h.lin_down (i:=i+d) Za (h2 (i+d) Za)) (ih Za)
  have:=down (k-i) Za
  rwa [Nat.add_sub_cancel' Za] at this
theorem ZfR.low {n:Nat} {C H:Nat->Rat} {q:Rat} {k:Nat} (h:Conc n C H) (hk:ZfR n C q k) (hq:0<=q):C k<=q:=by
 match k,hk with
 | 0,_=>rw[h.c0];exact hq
 | k+1,hk=>exact hk.2.1 k Za
abbrev BB:=PP×PP
def nob:BB:=((ZqD,ZqD),(ZqD,ZqD))
def bAt (bs:List BB) (i:Nat):BB:=bs.getD i nob
def Zdj (k:Nat) (p:PP):Bool:=decide (p.1.size<=k) && decide (p.2.size<=k) && okP p.1 p.2
def cR (bs:List BB) (i:Nat):Rat:=ratP (bAt bs i).1.1 (bAt bs i).1.2
def hR (bs:List BB) (i:Nat):Rat:=ratP (bAt bs i).2.1 (bAt bs i).2.2
abbrev ZlN:BB:=((⟨#[48]⟩,⟨#[49]⟩),(⟨#[48]⟩,⟨#[49]⟩))
structure CurveP (bs:List BB):Prop where
 len:2<=bs.length/\bs.length<=64
 first:bAt bs 0=ZlN
 small:∀ i,i<bs.length->Zdj 18 (bAt bs i).1=true/\Zdj 18 (bAt bs i).2=true
 top:∀ i,i<bs.length->hR bs i<=1
 up:∀ i,i+1<bs.length->cR bs i<cR bs (i+1)/\hR bs i<=hR bs (i+1)
 conc:∀ i,i+2<bs.length->slp (cR bs) (hR bs) (i+1)<=slp (cR bs) (hR bs) i
def isPB (q:Rat) (s t:ByteArray):Bool:=decide (0<=q) && decide (s=str (numD q)) && decide (t=str (denD q)) && decide (Fits q)
theorem ZfW {q:Rat} {s t:ByteArray} (h:isPB q s t=true):IsP q s t:=by
 unfold isPB at h
 simp only[Zqt,Zqu] at h
 exact⟨h.1.1.1,h.1.1.2,h.1.2,h.2⟩
end Go.Proofs.YtjmckebecpjjfaaGreatDoor
