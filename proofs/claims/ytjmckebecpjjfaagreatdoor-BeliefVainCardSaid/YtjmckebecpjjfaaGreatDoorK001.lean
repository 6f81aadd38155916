/- The parts BelPV, BelVA, BelVS, BelVH. -/
import Derived.Test.YtjmckebecpjjfaaGreatDoorH25
set_option maxRecDepth 100000
set_option maxHeartbeats 8000000
set_option linter.unusedVariables false
set_option linter.unusedSimpArgs false
namespace Go.Proofs.YtjmckebecpjjfaaGreatDoor
open Go.RowKit Go.Shelf
attribute [local go_sem ↓] Go.wp_at_zero Go.wp_at_succ
theorem Zfc {f:Fl} (hs:ZI f):ZI (nzF f):=List.Pairwise.filter _ hs
theorem Zid {f:Fl} (hs:ZI f) {z:Pl×Rat} (h:z ∈ f):fget (nzF f) z.1=z.2:=by
 by_cases h0:z.2=0
 ·rw[h0]
  refine Zbt fun y hy e=>?_
  have hy2:y ∈ f/\decide (y.2≠0)=true:=List.mem_filter.1 hy
  have h1:=Z0 hs hy2.1
  rw[e,Z0 hs h,h0] at h1
  exact(of_decide_eq_true hy2.2) h1.symm
 ·exact Z0 (Zfc hs) (List.mem_filter.2 ⟨h,decide_eq_true h0⟩)
theorem ZeR {b:BelP} {ms out:Fl} {n:NoteP} {z:Rat} (hn:ZH b n=true) (hm:MassOk b ms) (h:ZaF ms n=.ok (out,z)) {i:Nat} (hi:i<ms.length) :
  fget out (mA ms i).1=(mA ms i).2*ZE n (mA ms i).1/z:=by
 have h1:=Zd1 h
 obtain⟨h2,h3,h4⟩:=ZcM hm.sorted h1
 have hw:=Zby hn hm h
 have hok:=ZeG hm hw.2.2.1 (ZeW hn hm.pos)
 rw[ZdJ h4]
 have hmem:((mA ms i).1,(Za8 n ms).getD i 0/z) ∈ Zb3 z (Za8 n ms) ms:=List.mem_map.2 ⟨i,List.mem_range.2 hi,rfl⟩
 have h5:=Zid hok.sorted hmem
 rw[Ziv hi] at h5
 exact h5
def Zdv (ws:List RunP) (p:PP):NoteP:=⟨0,255,ws,p,(⟨#[49]⟩,⟨#[49]⟩)⟩
theorem Zib {k:Int} (h0:0<=k) (h8:k<8):bitF 255 k=true:=by
 obtain⟨n,rfl⟩:∃ n:Nat,k=n:=⟨k.toNat,Za⟩
 have hn:n<8:=Za
 match n,hn with
 | 0,_=>decide
 | 1,_=>decide
 | 2,_=>decide
 | 3,_=>decide
 | 4,_=>decide
 | 5,_=>decide
 | 6,_=>decide
 | 7,_=>decide
theorem ZgB {ws:List RunP} {p:PP} {x:Pl} (h0:0<=x.1) (h8:x.1<8):ZE (Zdv ws p) x=if hasR ws x.2.1 x.2.2 then qP p else 1:=by
 unfold ZE
 have h:bitF (Zdv ws p).mask x.1=true:=Zib h0 h8
 rw[if_pos h]
 show (if hasR ws x.2.1 x.2.2=true then qP p else qP (⟨#[49]⟩,⟨#[49]⟩))=_
 have h1:qP (⟨#[49]⟩,⟨#[49]⟩)=1:=ZbD.rat
 rw[h1]
theorem Zfo {q f z:Rat} (hq:0<q) (hf0:0<=f) (hf1:f<=1) (hz0:0<z) (hz1:z<=1):q*f/z<=q/z/\(f=1->q*f/z=q/z/\q<=q*f/z)/\(f=0->q*f/z=0):=by
 have hinv:0<z⁻¹:=Rat.inv_pos.2 hz0
 have e:z*z⁻¹=1:=Rat.mul_inv_cancel z (fun h=>by rw[h] at hz0;exact Zqx hz0 Zd)
 have h1:(1:Rat)<=z⁻¹:=by
  have:=Rat.mul_le_mul_of_nonneg_right hz1 (Rat.le_of_lt hinv)
  rw[e,Rat.one_mul] at this
  exact this
 refine⟨?_,fun h=>?_,fun h=>?_⟩
 ·rw[Rat.div_def,Rat.div_def]
  refine Rat.mul_le_mul_of_nonneg_right ?_ (Rat.le_of_lt hinv)
  have:=Rat.mul_le_mul_of_nonneg_left hf1 (Rat.le_of_lt hq)
  rwa [Rat.mul_one] at this
 ·subst h
  rw[Rat.mul_one]
  refine⟨rfl,?_⟩
  rw[Rat.div_def]
  have:=Rat.mul_le_mul_of_nonneg_left h1 (Rat.le_of_lt hq)
  rwa [Rat.mul_one] at this
 ·subst h
  rw[Rat.mul_zero,Rat.div_def,Rat.zero_mul]
theorem Zkr {b:BelP} {n:NoteP} {nv v:Value} {ms:Fl} {M E L P C:Nat} {w:World} (hb:ZF b=true) (hn:ZH b n=true) (hl:RunL w nv n.cells) (hm:ZK w v ms) (hms:MassOk b ms) (hT:Tabs w) (hZ:BelZ w)
  (hM:w.heap[M]?=some (msO v)) (hE:w.heap[E]?=some (ntO n nv)) (hL:w.heap[L]?=some (msO (.slice none 0 0))) (hP:w.heap[P]?=some (pObj ZqD ZqD)) (hC:C<=w.heap.size) (hLP:L≠P) :
  Calls Tryz.prog 51 #[.pointer (some ⟨M,0,none⟩),.pointer (some ⟨E,0,none⟩),.pointer (some ⟨L,0,none⟩),.pointer (some ⟨P,0,none⟩)] w (Zhe (FilQ (ZaF ms n) L P C) (fun x=>x≠L/\x≠P) w):=by
 have HLE:=ZqH (Zin hb hn hl hm hms hT hZ)
 obtain⟨pm,cm,rfl,_,_⟩:=hm.shape rfl
 obtain⟨pn,cn,rfl,_,_⟩:=hl.shape rfl
 obtain⟨nm,hnm⟩:=ZqJ ms.length
 obtain⟨nn,hnn⟩:=ZqJ n.cells.length
 rw[hnm] at hM HLE
 rw[hnn] at hE HLE
 have HC:=ZqH hC
 have HL:=ZqH hL
 have HP:=ZqH hP
 have hll:=(ZqC hL)
 have hpl:=(ZqC hP)
 have m0:=Zn hM 0 (v:=.slice pm nm cm) rfl
 have n0:=Zn hE 0 (v:=.int .i64 n.time) rfl
 have n1:=Zn hE 1 (v:=.int .i64 n.mask) rfl
 have n2:=Zn hE 2 (v:=.slice pn nn cn) rfl
 have n3:=Zn hE 3 (v:=.string n.inn.1) rfl
 have n4:=Zn hE 4 (v:=.string n.inn.2) rfl
 have n5:=Zn hE 5 (v:=.string n.out.1) rfl
 have n6:=Zn hE 6 (v:=.string n.out.2) rfl
 clear hb hn hl hm hms hT hZ hM hE hL hP hC hnm hnn
 go_enter Tryz.func51,Tryz.ntmps51
 go_wp2_with fail
 refine HLE.out.mono ?_
 rintro e w2 ⟨hE2,hk⟩
 have hbel:Below w.heap.size w w2:=(hk.mono (S':=fun x=>x<w.heap.size) fun x _ hx=>⟨hx,trivial⟩).toBelow ZqI
 have HB:=ZqH hbel
 have HL2:Hid (w2.heap[L]?=some (msO (.slice none 0 0))):=(hbel.block L hll).trans HL.out
 have HP2:Hid (w2.heap[P]?=some (pObj ZqD ZqD)):=(hbel.block P hpl).trans HP.out
 clear hk hbel HLE m0 n0 n1 n2 n3 n4 n5 n6
 rcases hE2 with ⟨o,z,v,s,t,h1,rfl,h3,h4,hi⟩ | ⟨k,h1,h2,rfl⟩
 ·obtain⟨p9,n9,c9,rfl⟩:∃ p n c,v=Value.slice p n c:=by
   rcases h3.2 with ⟨h,_⟩ | ⟨_,_,_,h,_⟩
   ·exact⟨_,_,_,h⟩
   ·exact⟨_,_,_,h⟩
  have HR:=ZqH h1
  have HO:=ZqH h3
  have HGF:=ZqH h4
  have HI:=ZqH hi
  have l0:=Zn HL2.out 0 (v:=.slice none 0 0) rfl
  have l1:=Zo HL2.out 0
  have s0:=Zn HP2.out 0 (v:=.string ZqD) rfl
  have s1:=Zn HP2.out 1 (v:=.string ZqD) rfl
  have f0:=Zo HP2.out 0
  have f1:=Zo HP2.out 1
  obtain⟨W7,hW7⟩:=ZqJ (w2.setCell ⟨L,0,none⟩ (.slice p9 n9 c9))
  have HL7:Hid (W7.heap[L]?=some (msO (.slice p9 n9 c9))):=by show _=_;rw[<- hW7];exact Zp0 HL2.out _
  have HK7:Hid (Keeps (fun x=>x≠L) w2 W7):=by show Keeps _ _ _;rw[<- hW7];exact(Keeps.refl _ w2).setCell (p:=⟨L,0,none⟩) (fun h=>h rfl) _
  have HP7:Hid (W7.heap[P]?=some (pObj ZqD ZqD)):=(HK7.out.block _ (ZqC HP2.out) (Ne.symm hLP)).trans HP2.out
  obtain⟨W8,hW8⟩:=ZqJ ((W7.setCell ⟨P,0,none⟩ (.string s)).setCell ⟨P,1,none⟩ (.string t))
  have HP8:Hid (W8.heap[P]?=some (pObj s t)):=by show _=_;rw[<- hW8];exact ZQ HP7.out _ _
  have HK8:Hid (Keeps (fun x=>x≠P) W7 W8):=by show Keeps _ _ _;rw[<- hW8];exact((Keeps.refl _ W7).setCell (p:=⟨P,0,none⟩) (fun h=>h rfl) _).setCell (p:=⟨P,1,none⟩) (fun h=>h rfl) _
  have HL8:Hid (W8.heap[L]?=some (msO (.slice p9 n9 c9))):=(HK8.out.block _ (ZqC HL7.out) hLP).trans HL7.out
  have hO8:OwnM W8 w.heap.size (.slice p9 n9 c9) o:=Zx (Zx HO.out HK7.out fun x hx=>by show x≠L;omega) HK8.out fun x hx=>by show x≠P;omega
  have HO8:Hid (OwnM W8 C (.slice p9 n9 c9) o):=Zar hO8 HC.out
  have HKK:Hid (Keeps (fun x=>x≠L/\x≠P) w W8):=(HB.out.keepsS _).trans ((HK7.out.mono fun _ _ h=>h.1).trans (HK8.out.mono fun _ _ h=>h.2))
  have t0:=Zn HP7.out 0 (v:=.string ZqD) rfl
  have t1:=Zn HP7.out 1 (v:=.string ZqD) rfl
  have u0:=Zo HP7.out 0
  have u1:=Zo HP7.out 1
  clear h1 h3 h4 hi hO8
  go_wp2
  go_end0
  exact⟨0,.inl ⟨rfl,rfl⟩,⟨fun _=>⟨_,z,_,s,t,HR.out,HL8.out,HP8.out,HO8.out,HGF.out,HI.out⟩,fun hn=>Zqx rfl hn⟩,HKK.out⟩
 ·refine⟨rfl,?_⟩
  exact⟨k,.inr ⟨h2,rfl⟩,⟨fun hn=>Zqx hn h2,fun _=>⟨h1,HL2.out,HP2.out⟩⟩,HB.out.keepsS _⟩
def Zcu (b:BelP) (ms:Fl) (n:NoteP):Except Int (Fl×Rat):=if (ZF b && ZN b ms) && ZH b n then ZaF ms n else .error 2
theorem Zlt {b:BelP} {lv sv v nv:Value} {ms:Fl} {n:NoteP} {w:World} (h:BelIn b lv sv w) (hz:LimB b) (hm:ZK w v ms) (hl:RunL w nv n.cells) (hs:Sz2 n) :
  Calls Tryz.prog 19 #[belV b lv sv,v,ntV n nv] w (FilA (Zcu b ms n) w):=by
 obtain⟨pm,cm,rfl,_,_⟩:=hm.shape rfl
 obtain⟨pn,cn,rfl,_,_⟩:=hl.shape rfl
 obtain⟨ps,cs,rfl,_,_⟩:=h.scenes.shape rfl
 obtain⟨nm,hnm⟩:=ZqJ ms.length
 obtain⟨nn,hnn⟩:=ZqJ n.cells.length
 obtain⟨ns,hns⟩:=ZqJ b.scenes.length
 rw[hnm] at hm ⊢
 rw[hnn] at hl ⊢
 rw[hns] at h ⊢
 have HNN:=ZqH (Zox hm)
 have HE1:Hid (Env w.heap.size w [(w.heap.size+1+1+1+1,pObj ZqD ZqD),(w.heap.size+1+1+1,msO (.slice none 0 0)),(w.heap.size+1+1,ntO n (.slice pn nn cn)),(w.heap.size+1,msO (.slice pm nm cm)),(w.heap.size,belO b lv (.slice ps ns cs))] [] (((((w.alloc (belO b lv (.slice ps ns cs))).alloc (msO (.slice pm nm cm))).alloc (ntO n (.slice pn nn cn))).alloc (msO (.slice none 0 0))).alloc (pObj ZqD ZqD))):=(((((Env.start w).push _ rfl).push _ Zc).push _ Zc).push _ Zc).push _ Zc
 obtain⟨w1,hw1⟩:=ZqJ ((((((w.alloc (belO b lv (.slice ps ns cs))).alloc (msO (.slice pm nm cm))).alloc (ntO n (.slice pn nn cn))).alloc (msO (.slice none 0 0))).alloc (pObj ZqD ZqD)))
 rw[hw1] at HE1
 have HH:=ZqH h
 have HZ:=ZqH hz
 have HM:=ZqH hm
 have HL:=ZqH hl
 have HS:=ZqH hs
 have HC:=ZqH (ZkA (h.below HE1.out.base ZqI) hz (hm.after ZaQ.stays HE1.out.base ZqI))
 obtain⟨c0,c1,c2,c3,c4⟩:=Zv (HE1.out.block 4 rfl)
 have m0:=HE1.out.cell 3 0 (v:=.slice pm nm cm) rfl rfl
 clear h hz hm hl hs hnm hnn hns
 go_enter Tryz.func19,Tryz.ntmps19
 go_wp2_with fail
 refine HC.out.mono ?_
 rintro e w2 ⟨rfl,hb⟩
 have HE2:=ZqH (HE1.out.step hb)
 clear hb HC c0 c1 c2 c3 c4 hw1 m0 HE1
 cases h1:ZF b && ZN b ms
 ·simp only[Bool.false_eq_true,if_false]
  have HR:Hid (Zcu b ms n=.error 2):=by show _=_;unfold Zcu;rw[h1];rfl
  clear h1
  have s0:=HE2.out.cell 0 0 (v:=.string ZqD) rfl rfl
  have s1:=HE2.out.cell 0 1 (v:=.string ZqD) rfl rfl
  have l0:=HE2.out.cell 1 0 (v:=.slice none 0 0) rfl rfl
  have f0:=HE2.out.free 0 0 rfl
  have f1:=HE2.out.free 0 1 rfl
  have f2:=HE2.out.free 1 0 rfl
  go_wp2_with fail
  have HE9:=ZqH ((HE2.out.store 1 0 (.slice none 0 0) rfl).fill (.string ZqD) (.string ZqD))
  have q0:=HE9.out.cell 0 0 (v:=.string ZqD) rfl rfl
  have q1:=HE9.out.cell 0 1 (v:=.string ZqD) rfl rfl
  have r0:=HE9.out.cell 1 0 (v:=.slice none 0 0) rfl rfl
  exact ZpW (v:=.tuple #[.slice none 0 0,pV ZqD ZqD,.int .i64 2]) (by simp[results,Tryz.f19,go_sem,q0,q1,r0]) rfl ⟨.inr ⟨2,HR.out,Zd,rfl⟩,HE9.out.base⟩
 ·simp only[if_true]
  have H1:=ZqH h1
  clear h1
  obtain⟨c0,c1,c2,c3,c4⟩:=Zv (HE2.out.block 4 rfl)
  have n0:=HE2.out.cell 2 0 (v:=.int .i64 n.time) rfl rfl
  have n1:=HE2.out.cell 2 1 (v:=.int .i64 n.mask) rfl rfl
  have n2:=HE2.out.cell 2 2 (v:=.slice pn nn cn) rfl rfl
  have n3:=HE2.out.cell 2 3 (v:=.string n.inn.1) rfl rfl
  have n4:=HE2.out.cell 2 4 (v:=.string n.inn.2) rfl rfl
  have n5:=HE2.out.cell 2 5 (v:=.string n.out.1) rfl rfl
  have n6:=HE2.out.cell 2 6 (v:=.string n.out.2) rfl rfl
  have hh:=HH.out.below HE2.out.base ZqI
  have HN:=ZqH (ZdY hh.sea.land (rfl:Value.slice ps ns cs=_) (HL.out.after RunR.stays HE2.out.base ZqI) HS.out hh.vars)
  clear hh
  go_wp2_with fail
  refine HN.out.mono ?_
  rintro e wn ⟨rfl,hb⟩
  have HEN:=ZqH (HE2.out.step hb)
  clear hb HN c0 c1 c2 c3 c4 n0 n1 n2 n3 n4 n5 n6 HE2
  cases h2:ZH b n
  ·have HR:Hid (Zcu b ms n=.error 2):=by show _=_;unfold Zcu;rw[H1.out,h2];rfl
   clear h2
   have s0:=HEN.out.cell 0 0 (v:=.string ZqD) rfl rfl
   have s1:=HEN.out.cell 0 1 (v:=.string ZqD) rfl rfl
   have l0:=HEN.out.cell 1 0 (v:=.slice none 0 0) rfl rfl
   have f0:=HEN.out.free 0 0 rfl
   have f1:=HEN.out.free 0 1 rfl
   have f2:=HEN.out.free 1 0 rfl
   go_wp2_with fail
   have HE9:=ZqH ((HEN.out.store 1 0 (.slice none 0 0) rfl).fill (.string ZqD) (.string ZqD))
   have q0:=HE9.out.cell 0 0 (v:=.string ZqD) rfl rfl
   have q1:=HE9.out.cell 0 1 (v:=.string ZqD) rfl rfl
   have r0:=HE9.out.cell 1 0 (v:=.slice none 0 0) rfl rfl
   exact ZpW (v:=.tuple #[.slice none 0 0,pV ZqD ZqD,.int .i64 2]) (by simp[results,Tryz.f19,go_sem,q0,q1,r0]) rfl ⟨.inr ⟨2,HR.out,Zd,rfl⟩,HE9.out.base⟩
  ·have HR:Hid (Zcu b ms n=ZaF ms n):=by show _=_;unfold Zcu;rw[H1.out,h2];rfl
   have h1:=H1.out
   rw[Zqt] at h1
   have hal:=(ZpV wn.heap.size wn).alloc ZqI (brO 0)
   have hbw:=HEN.out.base.trans (hal.mono HEN.out.own)
   have hlt:=HEN.out.lt 0 rfl
   have hh:=HH.out.below hbw ZqI
   have hdo:=Zkr (w:=wn.alloc (brO 0)) (M:=w.heap.size+1) (E:=w.heap.size+1+1) (L:=w.heap.size+1+1+1) (P:=w.heap.size+1+1+1+1) (C:=wn.heap.size+1) h1.1 h2 (HL.out.after RunR.stays hbw ZqI) (HM.out.after ZaQ.stays hbw ZqI) (ZnB h1.2 HNN.out) hh.tabs hh.vars
    ((hal.block _ (HEN.out.lt 3 rfl)).trans (HEN.out.block 3 rfl)) ((hal.block _ (HEN.out.lt 2 rfl)).trans (HEN.out.block 2 rfl)) ((hal.block _ (HEN.out.lt 1 rfl)).trans (HEN.out.block 1 rfl)) ((hal.block _ hlt).trans (HEN.out.block 0 rfl)) Zc Za
   have HT:=ZqH (Zdr (enters_of Tryz.func51 Zb rfl) (w:=wn) (S:=fun x=>x≠w.heap.size+1+1+1/\x≠w.heap.size+1+1+1+1) (fun x hx=>⟨Za,Za⟩) (fun n W W' hQ hk=>hQ.stay hk Za hlt Za) hdo)
   clear hdo hal hbw hh h1 h2
   go_wp2_with fail
   refine HT.out.mono ?_
   rintro e w3 ⟨k,rfl,hQ,hk⟩
   have HB3:ZqB w w3:=HEN.out.base.trans ((hk.mono (S':=fun x=>x<w.heap.size) fun x _ hx=>⟨Za,Za⟩).toBelow HEN.out.base.size)
   have HQ:=ZqH hQ
   clear hQ hk HT hlt
   by_cases hn:k=0
   ·obtain⟨m,z,v,s,t,e1,e2,e3,e4,e5,e6⟩:=HQ.out.1 hn
    subst hn
    obtain⟨p9,n9,c9,rfl⟩:∃ p n c,v=Value.slice p n c:=by
     rcases e4.2 with ⟨h,_⟩ | ⟨_,_,_,h,_⟩
     ·exact⟨_,_,_,h⟩
     ·exact⟨_,_,_,h⟩
    have HL3:=ZqH e2
    have HP3:=ZqH e3
    have HRR:=ZqH (HR.out.trans e1)
    have HML:Hid (∀ X,Keeps (fun x=>x≠w.heap.size+1+1+1/\x≠w.heap.size+1+1+1+1) w3 X->ZK X (.slice p9 n9 c9) m):=fun X hX=>Zcf (Zx e4 hX fun g hg=>by have:=HEN.out.lt 0 rfl;exact⟨Za,Za⟩) e5
    have HGF:=ZqH (Zqy e5 e6)
    clear e1 e2 e3 e4 e5 e6 HQ
    go_wp2_with fail
    have HKL:Hid (∀ X,(X.heap[w.heap.size+1+1+1]?=some (msO (.slice p9 n9 c9))/\X.heap[w.heap.size+1+1+1+1]?=some (pObj s t)/\Keeps (fun x=>x≠w.heap.size+1+1+1/\x≠w.heap.size+1+1+1+1) w3 X)->Below w.heap.size w X):=fun X hX=>HB3.out.trans ((hX.2.2.mono (S':=fun x=>x<w.heap.size) fun x _ hx=>Za).toBelow HB3.out.size)
    refine ZA [(1,0),(1,1),(1,2),(0,3),(0,4),(1,5)] (fun X=>X.heap[w.heap.size+1+1+1]?=some (msO (.slice p9 n9 c9))/\X.heap[w.heap.size+1+1+1+1]?=some (pObj s t)/\Keeps (fun x=>x≠w.heap.size+1+1+1/\x≠w.heap.size+1+1+1+1) w3 X) (fun _=>false)
     Zb Zb (fun _ _=>rfl) Zi ⟨HL3.out,HP3.out,(Keeps.refl _ w3).drew⟩ ?_
    iterate 3
     refine Zq _ rfl rfl (fun w' hS=>by have l0:=Zn hS.1 0 (v:=.slice p9 n9 c9) rfl;have p0:=Zn hS.2.1 0 (v:=.string s) rfl;have p1:=Zn hS.2.1 1 (v:=.string t) rfl;exact Ze) ?_
     simp only[Act.put,Zl]
    obtain⟨V,hV⟩:=ZqJ w3.drew
    have HLV:Hid (V.heap[w.heap.size+1+1+1]?=some (msO (.slice p9 n9 c9))):=by show _=_;rw[<- hV];exact HL3.out
    have HPV:Hid (V.heap[w.heap.size+1+1+1+1]?=some (pObj s t)):=by show _=_;rw[<- hV];exact HP3.out
    have HKV:Hid (Keeps (fun _=>True) w3 V):=by show Keeps _ _ _;rw[<- hV];exact(Keeps.refl _ w3).drew
    rw[hV]
    clear hV
    have l0:=Zn HLV.out 0 (v:=.slice p9 n9 c9) rfl
    have l1:=Zo HLV.out 0
    obtain⟨W7,hW7⟩:=ZqJ (V.setCell ⟨w.heap.size+1+1+1,0,none⟩ (.slice p9 n9 c9))
    have HL7:Hid (W7.heap[w.heap.size+1+1+1]?=some (msO (.slice p9 n9 c9))):=by show _=_;rw[<- hW7];exact Zp0 HLV.out _
    have HK7:Hid (Keeps (fun x=>x≠w.heap.size+1+1+1) V W7):=by show Keeps _ _ _;rw[<- hW7];exact(Keeps.refl _ V).setCell (p:=⟨w.heap.size+1+1+1,0,none⟩) (fun h=>h rfl) _
    have HP7:Hid (W7.heap[w.heap.size+1+1+1+1]?=some (pObj s t)):=(HK7.out.block _ (ZqC HPV.out) (by show w.heap.size+1+1+1+1≠w.heap.size+1+1+1;omega)).trans HPV.out
    have HKK7:Hid (Keeps (fun x=>x≠w.heap.size+1+1+1/\x≠w.heap.size+1+1+1+1) w3 W7):=(HKV.out.mono fun _ _ _=>trivial).trans (HK7.out.mono fun _ _ h=>h.1)
    refine ZG rfl rfl fun K' hK'=>?_
    go_simp
    refine hK' _ _ (.inr ⟨HL7.out,HP7.out,HKK7.out⟩) ?_
    clear hK' K' hW7 l0 l1
    have s0:=Zn HP7.out 0 (v:=.string s) rfl
    have s1:=Zn HP7.out 1 (v:=.string t) rfl
    have f0:=Zo HP7.out 0
    have f1:=Zo HP7.out 1
    obtain⟨W8,hW8⟩:=ZqJ ((W7.setCell ⟨w.heap.size+1+1+1+1,0,none⟩ (.string s)).setCell ⟨w.heap.size+1+1+1+1,1,none⟩ (.string t))
    have hp8:W8.heap[w.heap.size+1+1+1+1]?=some (pObj s t):=by rw[<- hW8];exact ZQ HP7.out _ _
    have hk8:Keeps (fun x=>x≠w.heap.size+1+1+1+1) W7 W8:=by rw[<- hW8];exact((Keeps.refl _ W7).setCell (p:=⟨w.heap.size+1+1+1+1,0,none⟩) (fun h=>h rfl) _).setCell (p:=⟨w.heap.size+1+1+1+1,1,none⟩) (fun h=>h rfl) _
    have hl8:W8.heap[w.heap.size+1+1+1]?=some (msO (.slice p9 n9 c9)):=(hk8.block _ (ZqC HL7.out) (by show w.heap.size+1+1+1≠w.heap.size+1+1+1+1;omega)).trans HL7.out
    have HKK8:Hid (Keeps (fun x=>x≠w.heap.size+1+1+1/\x≠w.heap.size+1+1+1+1) w3 W8):=HKK7.out.trans (hk8.mono fun _ _ h=>h.2)
    have q0:=Zn hp8 0 (v:=.string s) rfl
    have q1:=Zn hp8 1 (v:=.string t) rfl
    have r0:=Zn hl8 0 (v:=.slice p9 n9 c9) rfl
    have HS8:=ZqH (Zqy hl8 (Zqy hp8 HKK8.out))
    clear hp8 hk8 hl8
    refine ZG rfl rfl fun K' hK'=>?_
    go_simp
    refine hK' _ _ (.inr HS8.out) ?_
    clear hK' K' hW8 s0 s1 f0 f1
    iterate 1
     refine Zq _ rfl rfl (fun w' hS=>Ze) ?_
     simp only[Act.put,Zl]
    refine Zz ?_
    go_wp2
    exact ZpW (v:=.tuple #[.slice p9 n9 c9,pV s t,.int .i64 0]) (by simp[results,Tryz.f19,go_sem,q0,q1,r0]) rfl ⟨.inl ⟨m,z,_,s,t,HRR.out,rfl,HML.out _ HS8.out.2.2,HGF.out.1,HGF.out.2⟩,HKL.out _ HS8.out⟩
   ·obtain⟨e1,e2,e3⟩:=HQ.out.2 hn
    have HN:=ZqH hn
    have HL3:=ZqH e2
    have HP3:=ZqH e3
    have HRR:=ZqH (HR.out.trans e1)
    clear e1 e2 e3 HQ hn
    go_wp2_with fail
    have HKL:Hid (∀ X,(X.heap[w.heap.size+1+1+1]?=some (msO (.slice none 0 0))/\X.heap[w.heap.size+1+1+1+1]?=some (pObj ZqD ZqD)/\Keeps (fun x=>x≠w.heap.size+1+1+1/\x≠w.heap.size+1+1+1+1) w3 X)->Below w.heap.size w X):=fun X hX=>HB3.out.trans ((hX.2.2.mono (S':=fun x=>x<w.heap.size) fun x _ hx=>Za).toBelow HB3.out.size)
    refine ZA [(1,0),(1,1),(1,2),(0,3),(0,4),(1,5)] (fun X=>X.heap[w.heap.size+1+1+1]?=some (msO (.slice none 0 0))/\X.heap[w.heap.size+1+1+1+1]?=some (pObj ZqD ZqD)/\Keeps (fun x=>x≠w.heap.size+1+1+1/\x≠w.heap.size+1+1+1+1) w3 X) (fun _=>false)
     Zb Zb (fun _ _=>rfl) Zi ⟨HL3.out,HP3.out,(Keeps.refl _ w3).drew⟩ ?_
    iterate 3
     refine Zq _ rfl rfl (fun w' hS=>by have l0:=Zn hS.1 0 (v:=.slice none 0 0) rfl;have p0:=Zn hS.2.1 0 (v:=.string ZqD) rfl;have p1:=Zn hS.2.1 1 (v:=.string ZqD) rfl;exact Ze) ?_
     simp only[Act.put,Zl]
    obtain⟨V,hV⟩:=ZqJ w3.drew
    have HLV:Hid (V.heap[w.heap.size+1+1+1]?=some (msO (.slice none 0 0))):=by show _=_;rw[<- hV];exact HL3.out
    have HPV:Hid (V.heap[w.heap.size+1+1+1+1]?=some (pObj ZqD ZqD)):=by show _=_;rw[<- hV];exact HP3.out
    have HKV:Hid (Keeps (fun _=>True) w3 V):=by show Keeps _ _ _;rw[<- hV];exact(Keeps.refl _ w3).drew
    rw[hV]
    clear hV
    have l0:=Zn HLV.out 0 (v:=.slice none 0 0) rfl
    have l1:=Zo HLV.out 0
    obtain⟨W7,hW7⟩:=ZqJ (V.setCell ⟨w.heap.size+1+1+1,0,none⟩ (.slice none 0 0))
    have HL7:Hid (W7.heap[w.heap.size+1+1+1]?=some (msO (.slice none 0 0))):=by show _=_;rw[<- hW7];exact Zp0 HLV.out _
    have HK7:Hid (Keeps (fun x=>x≠w.heap.size+1+1+1) V W7):=by show Keeps _ _ _;rw[<- hW7];exact(Keeps.refl _ V).setCell (p:=⟨w.heap.size+1+1+1,0,none⟩) (fun h=>h rfl) _
    have HP7:Hid (W7.heap[w.heap.size+1+1+1+1]?=some (pObj ZqD ZqD)):=(HK7.out.block _ (ZqC HPV.out) (by show w.heap.size+1+1+1+1≠w.heap.size+1+1+1;omega)).trans HPV.out
    have HKK7:Hid (Keeps (fun x=>x≠w.heap.size+1+1+1/\x≠w.heap.size+1+1+1+1) w3 W7):=(HKV.out.mono fun _ _ _=>trivial).trans (HK7.out.mono fun _ _ h=>h.1)
    refine ZG rfl rfl fun K' hK'=>?_
    go_simp
    refine hK' _ _ (.inr ⟨HL7.out,HP7.out,HKK7.out⟩) ?_
    clear hK' K' hW7 l0 l1
    have s0:=Zn HP7.out 0 (v:=.string ZqD) rfl
    have s1:=Zn HP7.out 1 (v:=.string ZqD) rfl
    have f0:=Zo HP7.out 0
    have f1:=Zo HP7.out 1
    obtain⟨W8,hW8⟩:=ZqJ ((W7.setCell ⟨w.heap.size+1+1+1+1,0,none⟩ (.string ZqD)).setCell ⟨w.heap.size+1+1+1+1,1,none⟩ (.string ZqD))
    have hp8:W8.heap[w.heap.size+1+1+1+1]?=some (pObj ZqD ZqD):=by rw[<- hW8];exact ZQ HP7.out _ _
    have hk8:Keeps (fun x=>x≠w.heap.size+1+1+1+1) W7 W8:=by rw[<- hW8];exact((Keeps.refl _ W7).setCell (p:=⟨w.heap.size+1+1+1+1,0,none⟩) (fun h=>h rfl) _).setCell (p:=⟨w.heap.size+1+1+1+1,1,none⟩) (fun h=>h rfl) _
    have hl8:W8.heap[w.heap.size+1+1+1]?=some (msO (.slice none 0 0)):=(hk8.block _ (ZqC HL7.out) (by show w.heap.size+1+1+1≠w.heap.size+1+1+1+1;omega)).trans HL7.out
    have HKK8:Hid (Keeps (fun x=>x≠w.heap.size+1+1+1/\x≠w.heap.size+1+1+1+1) w3 W8):=HKK7.out.trans (hk8.mono fun _ _ h=>h.2)
    have q0:=Zn hp8 0 (v:=.string ZqD) rfl
    have q1:=Zn hp8 1 (v:=.string ZqD) rfl
    have r0:=Zn hl8 0 (v:=.slice none 0 0) rfl
    have HS8:=ZqH (Zqy hl8 (Zqy hp8 HKK8.out))
    clear hp8 hk8 hl8
    refine ZG rfl rfl fun K' hK'=>?_
    go_simp
    refine hK' _ _ (.inr HS8.out) ?_
    clear hK' K' hW8 s0 s1 f0 f1
    iterate 1
     refine Zq _ rfl rfl (fun w' hS=>Ze) ?_
     simp only[Act.put,Zl]
    refine Zz ?_
    go_wp2
    exact ZpW (v:=.tuple #[.slice none 0 0,pV ZqD ZqD,.int .i64 k]) (by simp[results,Tryz.f19,go_sem,q0,q1,r0]) rfl ⟨.inr ⟨k,HRR.out,HN.out,rfl⟩,HKL.out _ HS8.out⟩
def ZmJ (l:List NoteP) (w:World) (e:Ending) (w':World):Prop:=∃ r:Bool,e=.returned (.bool r)/\(r=true->LimN l)/\Below w.heap.size w w'
def Zpk (s t:ByteArray) (w:World) (e:Ending) (w':World):Prop:=∃ r:Bool,e=.returned (.bool r)/\(r=true->Sz1 (s,t))/\Below w.heap.size w w'
theorem Zcw (k B:Nat) (hk:k<=1000000) (s t:ByteArray) (w:World) (hB:w.cell? ⟨B,0,none⟩=some (.int .i64 k)):Calls Tryz.prog 35 #[pV s t,.pointer (some ⟨B,0,none⟩)] w (Zpk s t w):=by
 have HAL:=ZqH ((ZpV w.heap.size w).alloc ZqI (pObj s t))
 have hBl:=Zqf _ _ hB
 have hBc:(w.alloc (pObj s t)).cell? ⟨B,0,none⟩=some (.int .i64 k):=(Z8 _ _ _ hBl).trans hB
 clear hBl hB
 by_cases h1:(s.size:Int)<=(k:Int)
 ·have g1:s.size<=k:=Za
  by_cases h2:(t.size:Int)<=(k:Int)
  ·have g2:t.size<=k:=Za
   have HS:Hid (Sz1 (s,t)):=⟨by show s.size<=1000000;omega,by show t.size<=1000000;omega⟩
   go_enter Tryz.func35,Tryz.ntmps35
   go_wp2
   exact ZpW (by simp[results,Tryz.f35,go_sem]) rfl ⟨true,rfl,fun _=>HS.out,HAL.out⟩
  ·have g2:¬ t.size<=k:=Za
   go_enter Tryz.func35,Tryz.ntmps35
   go_wp2
   exact ZpW (by simp[results,Tryz.f35,go_sem]) rfl ⟨false,rfl,(fun h=>by cases h),HAL.out⟩
 ·have g1:¬ s.size<=k:=Za
  go_enter Tryz.func35,Tryz.ntmps35
  go_wp2
  exact ZpW (by simp[results,Tryz.f35,go_sem]) rfl ⟨false,rfl,(fun h=>by cases h),HAL.out⟩
theorem ZjG {b:BelP} {lv sv nl:Value} {l:List NoteP} {t m1 m2:Nat} {w:World} (h:BelIn b lv sv w) (hl:Zbm w nl l) (ht:t<=1000000):Calls Tryz.prog 12 #[belV b lv sv,nl,.int .i64 t,.int .i64 m1,.int .i64 m2] w (ZmJ l w):=by
 obtain⟨ng,hng⟩:=ZqJ b.sea.land.length
 obtain⟨pg,cg,rfl,_,_⟩:=h.sea.land.shape hng
 obtain⟨ns,hns⟩:=ZqJ b.scenes.length
 obtain⟨ps,cs,rfl,hc1,hc2⟩:=h.scenes.shape hns
 obtain⟨nl',hnl⟩:=ZqJ l.length
 obtain⟨pn,cn,rfl,hc3,hc4⟩:=hl.shape hnl
 have HNL:=ZqH hnl
 have HAT:=ZqH (fun h0=>Zb7.at h.scenes hns h0)
 have HNT:=ZqH (fun h0=>Zbm.at hl hnl h0)
 have HE1:Hid (Env w.heap.size w [(w.heap.size+1,inO t),(w.heap.size,belO b (.slice pg ng cg) (.slice ps ns cs))] [] ((w.alloc (belO b (.slice pg ng cg) (.slice ps ns cs))).alloc (inO t))):=((Env.start w).push _ rfl).push _ Zc
 obtain⟨w1,hw1⟩:=ZqJ ((w.alloc (belO b (.slice pg ng cg) (.slice ps ns cs))).alloc (inO t))
 rw[hw1] at HE1
 obtain⟨c0,c1,c2,c3,c4⟩:=Zv (HE1.out.block 1 rfl)
 clear h hng hns hl hnl
 go_enter Tryz.func12,Tryz.ntmps12
 go_wp2_with fail
 clear c0 c1 c2 c3 c4 hw1
 go_loopw [24] (fun iv wr=>∃ k:Nat,iv=.int .i64 k/\k<=ns/\Hid (Env w.heap.size w [(w.heap.size+1,inO t),(w.heap.size,belO b (.slice pg ng cg) (.slice ps ns cs))] [] wr)) (fun iv _=>ns-(intOf iv).toNat)
 case atStart=>exact⟨0,rfl,Zp8 _,HE1⟩
 case round=>
  obtain⟨k,rfl,hk,HER⟩:=hrel
  by_cases hlt:k<ns
  ·obtain⟨sb,so,rfl,p0,n0,d0,p1,n1,d1,hat⟩:=HAT.out Za
   obtain⟨hcell,hsh,hst⟩:=hat k hlt
   obtain⟨e0,e1,e2,e3⟩:=hcell wr HER.out.base
   obtain⟨pa,hpa⟩:=ZqJ (p0 k)
   obtain⟨na,hna⟩:=ZqJ (n0 k)
   obtain⟨ca,hca⟩:=ZqJ (d0 k)
   obtain⟨pb,hpb⟩:=ZqJ (p1 k)
   obtain⟨nb,hnb⟩:=ZqJ (n1 k)
   obtain⟨cb,hcb⟩:=ZqJ (d1 k)
   rw[hpa,hna,hca] at e2 hsh
   rw[hpb,hnb,hcb] at e3 hst
   obtain⟨sc,hsc⟩:=ZqJ (scA b.scenes k)
   rw[hsc] at e0 e1 hsh hst
   obtain⟨⟨s1,s2⟩,hsw⟩:∃ z,sc.weight=z:=⟨_,rfl⟩
   rw[hsw] at e0 e1
   dsimp only at e0 e1
   have hal:sc.start.length=na:=hsh.len
   have hbl:sc.strides.length=nb:=hst.len
   have hba:na<=9223372036854775807:=by obtain⟨p,c,e,h1,h2⟩:=hsh.shape hal;cases e;omega
   have hbb:nb<=9223372036854775807:=by obtain⟨p,c,e,h1,h2⟩:=hst.shape hbl;cases e;omega
   have HSH:=ZqH hsh
   have HST:=ZqH hst
   have HAL:=ZqH hal
   have HBL:=ZqH hbl
   obtain⟨W,hW⟩:=ZqJ (wr.alloc (scO s1 s2 (.slice pa na ca) (.slice pb nb cb)))
   obtain⟨q,hq⟩:=ZqJ wr.heap.size
   have HEW:Hid (Env w.heap.size w [(q,scO s1 s2 (.slice pa na ca) (.slice pb nb cb)),(w.heap.size+1,inO t),(w.heap.size,belO b (.slice pg ng cg) (.slice (some ⟨sb,so,none⟩) ns cs))] [] W):=by rw[<- hW,<- hq];exact HER.out.push _ rfl
   have a0:=HEW.out.cell 0 0 (v:=.string s1) rfl rfl
   have a1:=HEW.out.cell 0 1 (v:=.string s2) rfl rfl
   have a2:=HEW.out.cell 0 2 (v:=.slice pa na ca) rfl rfl
   have a3:=HEW.out.cell 0 3 (v:=.slice pb nb cb) rfl rfl
   have i0':(0:Int)<=(k:Int):=Za
   have i1':(k:Int)<(ns:Int):=Za
   clear hat hcell hsh hst hpa hna hca hpb hnb hcb hsc hsw hal hbl
   go_wp2_with fail
   refine(Zcw t (w.heap.size+1) ht s1 s2 W (HEW.out.cell 1 0 rfl rfl)).mono ?_
   rintro e w2 ⟨r,rfl,hr,hb⟩
   have HE2:=ZqH (HEW.out.step hb)
   clear hr hb a0 a1 a2 a3 e0 e1 e2 e3 hW hq HEW
   have a2:=HE2.out.cell 0 2 (v:=.slice pa na ca) rfl rfl
   have a3:=HE2.out.cell 0 3 (v:=.slice pb nb cb) rfl rfl
   cases r with
   | false=>
    go_wp2
    exact ZpW (by simp[results,Tryz.f12,go_sem]) rfl ⟨false,rfl,(fun h=>by cases h),HE2.out.base⟩
   | true=>
    by_cases hA:(m1:Int)<(na:Int)
    ·have hA1:m1<na:=Za
     go_wp2
     exact ZpW (by simp[results,Tryz.f12,go_sem]) rfl ⟨false,rfl,(fun h=>by cases h),HE2.out.base⟩
    have hA1:¬ m1<na:=Za
    by_cases hB:(m2:Int)<(nb:Int)
    ·have hB1:m2<nb:=Za
     go_wp2
     exact ZpW (by simp[results,Tryz.f12,go_sem]) rfl ⟨false,rfl,(fun h=>by cases h),HE2.out.base⟩
    have hB1:¬ m2<nb:=Za
    go_wp2_with fail
    clear a2 a3
    go_loopw [50] (fun iv wv=>∃ i:Nat,iv=.int .i64 i/\i<=na/\Hid (Env w.heap.size w [(q,scO s1 s2 (.slice pa na ca) (.slice pb nb cb)),(w.heap.size+1,inO t),(w.heap.size,belO b (.slice pg ng cg) (.slice (some ⟨sb,so,none⟩) ns cs))] [] wv)) (fun iv _=>na-(intOf iv).toNat)
    case atStart=>exact⟨0,rfl,Zp8 _,HE2⟩
    case round=>
     obtain⟨i,rfl,hi,HEI⟩:=hrel
     by_cases hin:i<na
     ·obtain⟨tb,tz,rfl,hat⟩:=Zay.at HSH.out HAL.out Za
      obtain⟨t0,t1,t2,t3⟩:=hat wr HEI.out.base i hin
      obtain⟨⟨x,y,⟨u,v⟩⟩,hxy⟩:∃ z,shA sc.start i=z:=⟨_,rfl⟩
      rw[hxy] at t0 t1 t2 t3
      dsimp only at t0 t1 t2 t3
      have j0:(0:Int)<=(i:Int):=Za
      have j1:(i:Int)<(na:Int):=Za
      obtain⟨W,hW⟩:=ZqJ (wr.alloc (shO x y u v))
      obtain⟨q2,hq⟩:=ZqJ wr.heap.size
      have HEV:Hid (Env w.heap.size w [(q2,shO x y u v),(q,scO s1 s2 (.slice (some ⟨tb,tz,none⟩) na ca) (.slice pb nb cb)),(w.heap.size+1,inO t),(w.heap.size,belO b (.slice pg ng cg) (.slice (some ⟨sb,so,none⟩) ns cs))] [] W):=by rw[<- hW,<- hq];exact HEI.out.push _ rfl
      have a0:=HEV.out.cell 0 0 (v:=.int .i64 x) rfl rfl
      have a1:=HEV.out.cell 0 1 (v:=.int .i64 y) rfl rfl
      have a2:=HEV.out.cell 0 2 (v:=.string u) rfl rfl
      have a3:=HEV.out.cell 0 3 (v:=.string v) rfl rfl
      clear hat hxy
      go_wp2_with fail
      refine(Zcw t (w.heap.size+1) ht u v W (HEV.out.cell 2 0 rfl rfl)).mono ?_
      rintro e w3 ⟨r,rfl,hr,hb⟩
      have HE3:=ZqH (HEV.out.step hb)
      clear hr hb a0 a1 a2 a3 t0 t1 t2 t3 hW hq HEV
      cases r with
      | false=>
       go_wp2
       exact ZpW (by simp[results,Tryz.f12,go_sem]) rfl ⟨false,rfl,(fun h=>by cases h),HE3.out.base⟩
      | true=>
       have HE4:=ZqH HE3.out.tail
       go_wp2
       go_roundw
       case rel=>exact⟨i+1,by go_num,(by first | omega | exact hin),HE4⟩
       case measure=>simp[intOf];first | omega | exact Nat.sub_lt_sub_left hin (Nat.lt_succ_self _)
     ·obtain rfl:i=na:=Za
      have a2:=HEI.out.cell 0 2 (v:=.slice pa i ca) rfl rfl
      have a3:=HEI.out.cell 0 3 (v:=.slice pb nb cb) rfl rfl
      go_wp2_with fail
      clear a2 a3
      go_loopw [63] (fun iv wv=>∃ j:Nat,iv=.int .i64 j/\j<=nb/\Hid (Env w.heap.size w [(q,scO s1 s2 (.slice pa i ca) (.slice pb nb cb)),(w.heap.size+1,inO t),(w.heap.size,belO b (.slice pg ng cg) (.slice (some ⟨sb,so,none⟩) ns cs))] [] wv)) (fun iv _=>nb-(intOf iv).toNat)
      case atStart=>exact⟨0,rfl,Zp8 _,HEI⟩
      case round=>
       obtain⟨j,rfl,hj,HEJ⟩:=hrel
       by_cases hjn:j<nb
       ·obtain⟨tb,tz,rfl,hat⟩:=Zad.at HST.out HBL.out Za
        obtain⟨t0,t1,t2,t3⟩:=hat wr HEJ.out.base j hjn
        obtain⟨⟨x,y,⟨u,v⟩⟩,hxy⟩:∃ z,stA sc.strides j=z:=⟨_,rfl⟩
        rw[hxy] at t0 t1 t2 t3
        dsimp only at t0 t1 t2 t3
        have j0:(0:Int)<=(j:Int):=Za
        have j1:(j:Int)<(nb:Int):=Za
        obtain⟨W,hW⟩:=ZqJ (wr.alloc (stO x y u v))
        obtain⟨q2,hq⟩:=ZqJ wr.heap.size
        have HEV:Hid (Env w.heap.size w [(q2,stO x y u v),(q,scO s1 s2 (.slice pa i ca) (.slice (some ⟨tb,tz,none⟩) nb cb)),(w.heap.size+1,inO t),(w.heap.size,belO b (.slice pg ng cg) (.slice (some ⟨sb,so,none⟩) ns cs))] [] W):=by rw[<- hW,<- hq];exact HEJ.out.push _ rfl
        have a0:=HEV.out.cell 0 0 (v:=.int .i64 x) rfl rfl
        have a1:=HEV.out.cell 0 1 (v:=.int .i64 y) rfl rfl
        have a2:=HEV.out.cell 0 2 (v:=.string u) rfl rfl
        have a3:=HEV.out.cell 0 3 (v:=.string v) rfl rfl
        clear hat hxy
        go_wp2_with fail
        refine(Zcw t (w.heap.size+1) ht u v W (HEV.out.cell 2 0 rfl rfl)).mono ?_
        rintro e w3 ⟨r,rfl,hr,hb⟩
        have HE3:=ZqH (HEV.out.step hb)
        clear hr hb a0 a1 a2 a3 t0 t1 t2 t3 hW hq HEV
        cases r with
        | false=>
         go_wp2
         exact ZpW (by simp[results,Tryz.f12,go_sem]) rfl ⟨false,rfl,(fun h=>by cases h),HE3.out.base⟩
        | true=>
         have HE4:=ZqH HE3.out.tail
         go_wp2
         go_roundw
         case rel=>exact⟨j+1,by go_num,(by first | omega | exact hjn),HE4⟩
         case measure=>simp[intOf];first | omega | exact Nat.sub_lt_sub_left hjn (Nat.lt_succ_self _)
       ·obtain rfl:j=nb:=Za
        have HE9:=ZqH HEJ.out.tail
        go_wp2
        go_roundw
        case rel=>exact⟨k+1,by go_num,(by first | omega | exact hlt),HE9⟩
        case measure=>simp[intOf];first | omega | exact Nat.sub_lt_sub_left hlt (Nat.lt_succ_self _)
  ·obtain rfl:k=ns:=Za
   go_wp2_with fail
   go_loopw [76] (fun iv wv=>∃ i:Nat,iv=.int .i64 i/\i<=nl'/\Hid (∀ x,x<i->Sz2 (ntA l x))/\Hid (Env w.heap.size w [(w.heap.size+1,inO t),(w.heap.size,belO b (.slice pg ng cg) (.slice ps k cs))] [] wv)) (fun iv _=>nl'-(intOf iv).toNat)
   case atStart=>exact⟨0,rfl,Zp8 _,fun x h=>Zqx h (Zql _),HER⟩
   case round=>
    obtain⟨i,rfl,hi,HD,HEI⟩:=hrel
    by_cases hin:i<nl'
    ·obtain⟨nb,no,rfl,p0,n0,d0,hat⟩:=HNT.out Za
     obtain⟨e0,e1,e2,e3,e4,e5,e6⟩:=(hat i hin).1 wr HEI.out.base
     obtain⟨pa,hpa⟩:=ZqJ (p0 i)
     obtain⟨na,hna⟩:=ZqJ (n0 i)
     obtain⟨ca,hca⟩:=ZqJ (d0 i)
     rw[hpa,hna,hca] at e2
     obtain⟨⟨tm,mk,cl,⟨s1,s2⟩,⟨s3,s4⟩⟩,hnt⟩:∃ z,ntA l i=z:=⟨_,rfl⟩
     have HNT2:=ZqH hnt
     rw[hnt] at e0 e1 e3 e4 e5 e6
     dsimp only at e0 e1 e3 e4 e5 e6
     have j0:(0:Int)<=(i:Int):=Za
     have j1:(i:Int)<(nl':Int):=Za
     obtain⟨W,hW⟩:=ZqJ (wr.alloc (ntO ⟨tm,mk,cl,⟨s1,s2⟩,⟨s3,s4⟩⟩ (.slice pa na ca)))
     obtain⟨q2,hq⟩:=ZqJ wr.heap.size
     have HEV:Hid (Env w.heap.size w [(q2,ntO ⟨tm,mk,cl,⟨s1,s2⟩,⟨s3,s4⟩⟩ (.slice pa na ca)),(w.heap.size+1,inO t),(w.heap.size,belO b (.slice pg ng cg) (.slice ps k cs))] [] W):=by rw[<- hW,<- hq];exact HEI.out.push _ rfl
     have a3:=HEV.out.cell 0 3 (v:=.string s1) rfl rfl
     have a4:=HEV.out.cell 0 4 (v:=.string s2) rfl rfl
     clear hat hnt hpa hna hca
     go_wp2_with fail
     refine(Zcw t (w.heap.size+1) ht s1 s2 W (HEV.out.cell 1 0 rfl rfl)).mono ?_
     rintro e w3 ⟨r,rfl,hr,hb⟩
     have HE3:=ZqH (HEV.out.step hb)
     have HR1:=ZqH hr
     clear hr hb a3 a4 e0 e1 e2 e3 e4 e5 e6 hW hq HEV
     cases r with
     | false=>
      go_wp2
      exact ZpW (by simp[results,Tryz.f12,go_sem]) rfl ⟨false,rfl,(fun h=>by cases h),HE3.out.base⟩
     | true=>
      have a5:=HE3.out.cell 0 5 (v:=.string s3) rfl rfl
      have a6:=HE3.out.cell 0 6 (v:=.string s4) rfl rfl
      go_wp2_with fail
      refine(Zcw t (w.heap.size+1) ht s3 s4 w3 (HE3.out.cell 1 0 rfl rfl)).mono ?_
      rintro e w4 ⟨r,rfl,hr,hb⟩
      have HE4:=ZqH (HE3.out.step hb)
      have HR2:=ZqH hr
      clear hr hb a5 a6 HE3
      cases r with
      | false=>
       go_wp2
       exact ZpW (by simp[results,Tryz.f12,go_sem]) rfl ⟨false,rfl,(fun h=>by cases h),HE4.out.base⟩
      | true=>
       have HE9:=ZqH HE4.out.tail
       have HD2:Hid (∀ x,x<i+1->Sz2 (ntA l x)):=fun x hx=>by
        rcases Zp1 x i with h | h
        ·exact HD.out x h
        ·obtain rfl:x=i:=Za
         rw[HNT2.out]
         exact⟨HR1.out (by trivial),HR2.out (by trivial)⟩
       go_wp2
       go_roundw
       case rel=>exact⟨i+1,by go_num,(by first | omega | exact hin),HD2,HE9⟩
       case measure=>simp[intOf];first | omega | exact Nat.sub_lt_sub_left hin (Nat.lt_succ_self _)
    ·obtain rfl:i=nl':=Za
     have HLN:Hid (LimN l):=fun x hx=>by
      obtain⟨j,hj,rfl⟩:=List.getElem_of_mem hx
      rw[Zbn hj]
      exact HD.out j (by rw[<- HNL.out];exact hj)
     go_wp2
     exact ZpW (by simp[results,Tryz.f12,go_sem]) rfl ⟨true,rfl,(fun _=>HLN.out),HEI.out.base⟩
abbrev ceO (x y:Int):Obj:=.cells #[.int .i64 x,.int .i64 y] 53
def ZdH (r:RunP) (x y:Int):Bool:=decide (r.y=y) && (decide (r.a<=x) && decide (x<r.b))
theorem Znq {l:List RunP} {x y:Int} (h:∀ i,i<l.length->ZdH (rnA l i) x y=false):hasR l x y=false:=by
 unfold hasR
 rw[List.any_eq_false]
 intro r hr
 obtain⟨i,hi,rfl⟩:=List.getElem_of_mem hr
 have:=h i hi
 unfold ZdH at this
 rw[Zee hi,this]
 exact Bool.false_ne_true
theorem Zn4 {l:List RunP} {x y:Int} {i:Nat} (hi:i<l.length) (h:ZdH (rnA l i) x y=true):hasR l x y=true:=by
 unfold hasR
 rw[List.any_eq_true]
 exact⟨l[i],Zqm hi,by rw[Zee hi];exact h⟩
theorem Ziw {wl:Value} {l:List RunP} {x y:Int} {w:World} (hl:RunL w wl l):Calls Tryz.prog 21 #[wl,.agg #[.int .i64 x,.int .i64 y]] w (ZB w (hasR l x y)):=by
 obtain⟨n,hn⟩:=ZqJ l.length
 obtain⟨pl,cl,rfl,hb1,hb2⟩:=hl.shape hn
 have HN:=ZqH hn
 have HAT:=ZqH (fun h0=>RunL.at hl hn h0)
 have HE1:Hid (Env w.heap.size w [(w.heap.size,ceO x y)] [] (w.alloc (ceO x y))):=(Env.start w).push _ rfl
 obtain⟨w1,hw1⟩:=ZqJ (w.alloc (ceO x y))
 rw[hw1] at HE1
 obtain⟨R,hR⟩:=ZqJ (hasR l x y)
 have HR:=ZqH hR
 rw[hR]
 clear hl hn hR
 go_enter Tryz.func21,Tryz.ntmps21
 go_wp2_with fail
 clear hw1
 go_loopw [5] (fun iv wr=>∃ k:Nat,iv=.int .i64 k/\k<=n/\Hid (∀ i,i<k->ZdH (rnA l i) x y=false)/\Hid (Env w.heap.size w [(w.heap.size,ceO x y)] [] wr)) (fun iv _=>n-(intOf iv).toNat)
 case atStart=>exact⟨0,rfl,Zp8 _,fun i h=>Zqx h (Zql _),HE1⟩
 case round=>
  obtain⟨k,rfl,hk,HD,HER⟩:=hrel
  by_cases hlt:k<n
  ·obtain⟨tb,tz,rfl,hat⟩:=HAT.out Za
   obtain⟨⟨ry,ra,rb⟩,hr⟩:∃ z,rnA l k=z:=⟨_,rfl⟩
   have HC:Hid (∀ X,Below wr.heap.size wr X->(X.cell? ⟨tb,tz+k*3,none⟩=some (.int .i64 ry)/\X.cell? ⟨tb,tz+k*3+1,none⟩=some (.int .i64 ra)/\X.cell? ⟨tb,tz+k*3+2,none⟩=some (.int .i64 rb))/\X.cell? ⟨w.heap.size,0,none⟩=some (.int .i64 x)/\X.cell? ⟨w.heap.size,1,none⟩=some (.int .i64 y)):=fun X hX=>by
    have h1:=hat X (HER.out.base.trans (hX.mono HER.out.base.size)) k hlt
    rw[hr] at h1
    exact⟨h1,(HER.out.step hX).cell 0 0 rfl rfl,(HER.out.step hX).cell 0 1 rfl rfl⟩
   have i0':(0:Int)<=(k:Int):=Za
   have i1':(k:Int)<(n:Int):=Za
   have HRR:=ZqH hr
   clear hat hr
   go_upto_region 4 with (fail)
   refine ZA [(1,0),(1,1),(1,2),(1,3),(1,4),(1,5),(1,6),(1,7),(1,8),(1,9),(1,10),(1,11),(1,12),(1,13),(1,14),(1,15),(1,16),(1,17),(1,18),(1,19),(1,20),(1,21),(1,22),(1,23),(1,24),(1,25),(1,26),(1,27)] (Below wr.heap.size wr) (fun _=>false)
    Zb Zb (fun _ _=>rfl) Zi (ZpV _ wr).drew ?_
   have HE9:=ZqH HER.out.drew
   obtain⟨b1,h1⟩:∃ e,decide (ry=y)=e:=⟨_,rfl⟩
   obtain⟨d1,g1⟩:∃ e,(ry==y)=e:=⟨_,rfl⟩
   obtain⟨b2,h2⟩:=ZqJ (decide (ra<=x))
   obtain⟨b3,h3⟩:=ZqJ (decide (x<rb))
   obtain rfl:d1=b1:=by
    rw[<- g1,<- h1]
    by_cases h:ry=y
    ·rw[decide_eq_true h,h];exact beq_self_eq_true y
    ·rw[decide_eq_false h];exact beq_false_of_ne h
   have HV:Hid (ZdH (rnA l k) x y=(d1 && (b2 && b3))):=by
    show _=_
    rw[HRR.out]
    unfold ZdH
    rw[h1,h2,h3]
   obtain⟨V,hV⟩:=ZqJ wr.drew
   rw[hV] at HE9 ⊢
   clear hV
   cases d1<;>cases b2<;>cases b3
   all_goals
    iterate 8
     first
      | refine Zac rfl rfl ?_
      | refine Zq _ rfl rfl (fun w' hS=>by obtain⟨⟨q0,q1,q2⟩,q3,q4⟩:=HC.out _ hS;go_simp;first | done | rfl | (rw[if_pos Za])) ?_
     simp only[Act.put,Zl]
    try rw[h1]
    try rw[g1]
    iterate 9
     first
      | refine Zac rfl rfl ?_
      | refine Zq _ rfl rfl (fun w' hS=>by obtain⟨⟨q0,q1,q2⟩,q3,q4⟩:=HC.out _ hS;go_simp;first | done | rfl | (rw[if_pos Za])) ?_
     simp only[Act.put,Zl]
    try rw[h2]
    iterate 10
     first
      | refine Zac rfl rfl ?_
      | refine Zq _ rfl rfl (fun w' hS=>by obtain⟨⟨q0,q1,q2⟩,q3,q4⟩:=HC.out _ hS;go_simp;first | done | rfl | (rw[if_pos Za])) ?_
     simp only[Act.put,Zl]
    try rw[h3]
    iterate 1
     first
      | refine Zac rfl rfl ?_
      | refine Zq _ rfl rfl (fun w' hS=>by obtain⟨⟨q0,q1,q2⟩,q3,q4⟩:=HC.out _ hS;go_simp;first | done | rfl | (rw[if_pos Za])) ?_
     simp only[Act.put,Zl]
    refine Zz ?_
    clear h1 g1 h2 h3
    first
     | (have HT:Hid (R=true):=by
         rw[<- HR.out]
         exact Zn4 (by rw[HN.out];exact hlt) HV.out
        go_wp2
        exact ZpW (v:=.bool true) (by simp[results,Tryz.f21,go_sem]) rfl ⟨by rw[HT.out],HE9.out.base⟩)
     | (have HD2:Hid (∀ i,i<k+1->ZdH (rnA l i) x y=false):=fun z hz=>by
         rcases Zp1 z k with h | h
         ·exact HD.out z h
         ·obtain rfl:z=k:=Za
          exact HV.out
        go_wp2
        go_roundw
        case rel=>exact⟨k+1,by go_num,Za,HD2,HE9⟩
        case measure=>exact Zj)
  ·obtain rfl:k=n:=Za
   have HF:Hid (R=false):=by rw[<- HR.out];exact Znq fun i hi=>HD.out i (by rw[<- HN.out];exact hi)
   go_wp2
   exact ZpW (v:=.bool false) (by simp[results,Tryz.f21,go_sem]) rfl ⟨by rw[HF.out],HER.out.base⟩
end Go.Proofs.YtjmckebecpjjfaaGreatDoor
