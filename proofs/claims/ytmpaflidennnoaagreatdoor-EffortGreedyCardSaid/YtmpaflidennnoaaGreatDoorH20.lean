/- The parts RTwo2, Not, DMiss, DSlope, ChanceTo of a proof, put together by program (merge7.py). -/
import Derived.Test.YtmpaflidennnoaaGreatDoorH19
import Derived.Test.YtmpaflidennnoaaGreatDoorH16
set_option maxRecDepth 100000
set_option maxHeartbeats 4000000
set_option linter.unusedVariables false
set_option linter.unusedSimpArgs false
namespace Go.Proofs.YtmpaflidennnoaaGreatDoor
open Go.RowKit Go.Shelf
attribute [local go_sem ↓] Go.wp_at_zero Go.wp_at_succ
theorem Znv (s t u v:ByteArray) (w:World) (hs:s.size≤1000000) (ht:t.size≤1000000) (hu:u.size≤1000000) (hv:v.size≤1000000) :
  Calls Tryz.prog 105 #[.agg #[.string s,.string t],.agg #[.string u,.string v]] w (Zx (Bi s t u v (SubR (Zd s.data.toList) (Zd t.data.toList) (Zd u.data.toList) (Zd v.data.toList))) w):=by
 cases hq:(okP s t && okP u v)
 ·skip
  have HQ:Hid (Za6 s t u v=2):=Zdi hq
  have HK:=ZnV hq
  clear hq
  go_enter Tryz.func105,Tryz.ntmps105
  go_wp2_with fail
  obtain⟨w1,hw1⟩:=ZnX (((w.alloc (.cells #[.string s,.string t] 41)).alloc (.cells #[.string u,.string v] 41)).alloc (.cells #[.string ⟨#[]⟩,.string ⟨#[]⟩] 41))
  rw[hw1]
  have HX1:Hid (Zj w.heap.size [.cells #[.string s,.string t] 41,.cells #[.string u,.string v] 41,.cells #[.string ⟨#[]⟩,.string ⟨#[]⟩] 41] w1):=by rw[← hw1];exact Zj.three w _ _ _
  have HB1:Hid (Below w.heap.size w w1):=by rw[← hw1];exact(((Below.refl _ w).alloc ZnW _).alloc (by simp) _).alloc (by simp<;>omega) _
  clear hw1
  refine(ZaE s t u v _ hs ht hu hv).mono ?_
  rintro e w2 ⟨rfl,hb2⟩
  rw[HQ.out]
  have HX2:=ZnV (HX1.out.below hb2 HX1.out.lt)
  have HB2:=ZnV (HB1.out.trans (hb2.mono HB1.out.size))
  clear hb2
  have r0:=HX2.out.cell 2 0 (b:=w.heap.size+1+1) rfl rfl rfl
  have r1:=HX2.out.cell 2 1 (b:=w.heap.size+1+1) rfl rfl rfl
  have f0:=HX2.out.free 2 0 (b:=w.heap.size+1+1) rfl rfl
  have f1:=HX2.out.free 2 1 (b:=w.heap.size+1+1) rfl rfl
  go_wp2
  have q:=Zi (HX2.out.block 2 (b:=w.heap.size+1+1) rfl rfl) (.string ⟨#[]⟩) (.string ⟨#[]⟩)
  have HBQ:=ZnV (Zf HB2.out (b:=w.heap.size+1+1) (by omega) (.string ⟨#[]⟩) (.string ⟨#[]⟩))
  refine bodyPost_ret (v:=.tuple #[.agg #[.string ⟨#[]⟩,.string ⟨#[]⟩],.int .i64 2]) (by simp[results,Tryz.f105,go_sem,q.1,q.2]) rfl ⟨_,_,_,rfl,.inl ⟨HK.out,rfl,rfl,rfl⟩,HBQ.out⟩
 ·skip
  have HQ:Hid (Za6 s t u v=0):=ZcE hq
  have HK:=ZnV hq
  have hq2:=hq
  rw[Bool.and_eq_true] at hq2
  have g1:=rok hq2.1
  have g2:=rok hq2.2
  obtain⟨n1,hn1⟩:=ZnX (Zd s.data.toList)
  obtain⟨d1,hd1⟩:=ZnX (Zd t.data.toList)
  obtain⟨n2,hn2⟩:=ZnX (Zd u.data.toList)
  obtain⟨d2,hd2⟩:=ZnX (Zd v.data.toList)
  rw[hn1,hd1] at g1
  rw[hn2,hd2] at g2
  have HPS:Hid (∀ W,Calls Tryz.prog 118 #[.string s] W (Zad W n1)):=fun W=>by rw[← hn1];exact ZJ s hs g1.ds W
  have HPT:Hid (∀ W,Calls Tryz.prog 118 #[.string t] W (Zad W d1)):=fun W=>by rw[← hd1];exact ZJ t ht g1.dt W
  have HPU:Hid (∀ W,Calls Tryz.prog 118 #[.string u] W (Zad W n2)):=fun W=>by rw[← hn2];exact ZJ u hu g2.ds W
  have HPV:Hid (∀ W,Calls Tryz.prog 118 #[.string v] W (Zad W d2)):=fun W=>by rw[← hd2];exact ZJ v hv g2.dt W
  have l1:=g1.ls
  have l2:=g1.lt
  have l3:=g2.ls
  have l4:=g2.lt
  have z1:=g1.pos
  have z2:=g2.pos
  rw[hn1,hd1,hn2,hd2]
  have HN:=ZnV (And.intro hn1 (And.intro hd1 (And.intro hn2 hd2)))
  clear hq hq2 g1 g2 hn1 hd1 hn2 hd2
  have M1:Hid ((Zb 10000 (n1*d2)).length≤300):=Nat.le_trans (Zar l1 l4) (by omega)
  have M2:Hid ((Zb 10000 (n2*d1)).length≤300):=Nat.le_trans (Zar l3 l2) (by omega)
  have HL2:Hid ((Zb 10000 (d1*d2)).length≤100000):=Nat.le_trans (Zar l2 l4) (by omega)
  have HD0:Hid (0<d1*d2):=Nat.mul_pos z1 z2
  have HL1:Hid ((Zb 10000 (n1*d2-n2*d1)).length≤100000):=Nat.le_trans (Zz (by omega) (Nat.sub_le _ _)) (by have:=M1.out;omega)
  go_enter Tryz.func105,Tryz.ntmps105
  go_wp2_with fail
  obtain⟨w1,hw1⟩:=ZnX (((w.alloc (.cells #[.string s,.string t] 41)).alloc (.cells #[.string u,.string v] 41)).alloc (.cells #[.string ⟨#[]⟩,.string ⟨#[]⟩] 41))
  rw[hw1]
  have HX1:Hid (Zj w.heap.size [.cells #[.string s,.string t] 41,.cells #[.string u,.string v] 41,.cells #[.string ⟨#[]⟩,.string ⟨#[]⟩] 41] w1):=by rw[← hw1];exact Zj.three w _ _ _
  have HB1:Hid (Below w.heap.size w w1):=by rw[← hw1];exact(((Below.refl _ w).alloc ZnW _).alloc (by simp) _).alloc (by simp<;>omega) _
  clear hw1
  refine(ZaE s t u v _ hs ht hu hv).mono ?_
  rintro e w2 ⟨rfl,hb2⟩
  rw[HQ.out]
  have HX2:=ZnV (HX1.out.below hb2 HX1.out.lt)
  have HB2:=ZnV (HB1.out.trans (hb2.mono HB1.out.size))
  clear hb2
  have k2:=HX2.out.f4
  obtain⟨ka2,kb2,kc2,kd2⟩:=id k2
  go_wp2_with fail
  go_region_held3
   (fun w'=>w'.cell? ⟨w.heap.size,0,none⟩=some (.string s)∧w'.cell? ⟨w.heap.size,1,none⟩=some (.string t)∧w'.cell? ⟨w.heap.size+1,0,none⟩=some (.string u)∧w'.cell? ⟨w.heap.size+1,1,none⟩=some (.string v))
   (first | exact k1 | exact k2 | exact k3 | exact k4 | exact k5 | exact k6 | exact k7 | exact k8 | exact ZaI (by omega) (by omega) k9 _ _ | exact k9)
   (first
    | (go_at_call_of 118 (Value.string s);refine(HPS.out _).mono ?_;rintro e w3 ⟨va,rfl,hv,hb⟩;obtain⟨pa,ma,ca,rfl⟩:=hv.form;have NA:=ZnV hv;have HX3:=ZnV (HX2.out.drew.below hb HX2.out.lt);have HB3:Hid (Below w.heap.size w w3):=HB2.out.drew.trans (hb.mono HB2.out.drew.size);have k3:=HX3.out.f4;clear hv hb)
    | (go_at_call_of 118 (Value.string v);refine(HPV.out _).mono ?_;rintro e w4 ⟨vb,rfl,hv,hb⟩;obtain⟨pb,mb,cb,rfl⟩:=hv.form;have NB:=ZnV hv;have NA4:=ZnV (NA.out.after hb ZnW);have HX4:=ZnV (HX3.out.below hb HX3.out.lt);have HB4:Hid (Below w.heap.size w w4):=HB3.out.trans (hb.mono HB3.out.size);have k4:=HX4.out.f4;clear hv hb)
    | (go_at_call_of 117 (Value.slice pa ma ca);refine(Z6 NA4.out NB.out (by omega) (by omega)).mono ?_;rintro e w5 ⟨vc,rfl,hv,hb⟩;obtain⟨pc,mc,cc,rfl⟩:=hv.form;have NC:=ZnV hv;have HX5:=ZnV (HX4.out.below hb HX4.out.lt);have HB5:Hid (Below w.heap.size w w5):=HB4.out.trans (hb.mono HB4.out.size);have k5:=HX5.out.f4;clear hv hb)
   )
  go_wp2_with fail
  go_region_held3
   (fun w'=>w'.cell? ⟨w.heap.size,0,none⟩=some (.string s)∧w'.cell? ⟨w.heap.size,1,none⟩=some (.string t)∧w'.cell? ⟨w.heap.size+1,0,none⟩=some (.string u)∧w'.cell? ⟨w.heap.size+1,1,none⟩=some (.string v))
   (first | exact k1 | exact k2 | exact k3 | exact k4 | exact k5 | exact k6 | exact k7 | exact k8 | exact ZaI (by omega) (by omega) k9 _ _ | exact k9)
   (first
    | (go_at_call_of 118 (Value.string u);refine(HPU.out _).mono ?_;rintro e w6 ⟨vd,rfl,hv,hb⟩;obtain⟨pd,md,cd,rfl⟩:=hv.form;have ND:=ZnV hv;have NC6:=ZnV (PNum.after (w:=w5.drew) NC.out hb ZnW);have HX6:=ZnV (HX5.out.drew.below hb HX5.out.lt);have HB6:Hid (Below w.heap.size w w6):=HB5.out.drew.trans (hb.mono HB5.out.drew.size);have k6:=HX6.out.f4;clear hv hb)
    | (go_at_call_of 118 (Value.string t);refine(HPT.out _).mono ?_;rintro e w7 ⟨ve,rfl,hv,hb⟩;obtain⟨pe,me,ce,rfl⟩:=hv.form;have NE:=ZnV hv;have NC7:=ZnV (NC6.out.after hb ZnW);have ND7:=ZnV (ND.out.after hb ZnW);have HX7:=ZnV (HX6.out.below hb HX6.out.lt);have HB7:Hid (Below w.heap.size w w7):=HB6.out.trans (hb.mono HB6.out.size);have k7:=HX7.out.f4;clear hv hb)
    | (go_at_call_of 117 (Value.slice pd md cd);refine(Z6 ND7.out NE.out (by omega) (by omega)).mono ?_;rintro e w8 ⟨vf,rfl,hv,hb⟩;obtain⟨pf,mf,cf,rfl⟩:=hv.form;have NF:=ZnV hv;have NC8:=ZnV (NC7.out.after hb ZnW);have HX8:=ZnV (HX7.out.below hb HX7.out.lt);have HB8:Hid (Below w.heap.size w w8):=HB7.out.trans (hb.mono HB7.out.size);have k8:=HX8.out.f4;clear hv hb)
   )
  go_wp2_with fail
  refine(Zds NC8.out NF.out (by have:=M1.out;omega) (by have:=M2.out;omega)).mono ?_
  rintro e w15 ⟨rfl,hb⟩
  have HX15:=ZnV (HX8.out.below hb HX8.out.lt)
  have HB15:Hid (Below w.heap.size w w15):=HB8.out.trans (hb.mono HB8.out.size)
  have NC15:=ZnV (NC8.out.after hb ZnW)
  have NF15:=ZnV (NF.out.after hb ZnW)
  clear hb
  rcases Nat.lt_or_ge (n1*d2) (n2*d1) with hlt | hge
  ·have hsg:sgnN (n1*d2) (n2*d1)<0:=Zec.2 hlt
   have HLT:=ZnV hlt
   have r0:=HX15.out.cell 2 0 (b:=w.heap.size+1+1) rfl rfl rfl
   have r1:=HX15.out.cell 2 1 (b:=w.heap.size+1+1) rfl rfl rfl
   have f0:=HX15.out.free 2 0 (b:=w.heap.size+1+1) rfl rfl
   have f1:=HX15.out.free 2 1 (b:=w.heap.size+1+1) rfl rfl
   clear hlt
   go_wp2
   have q:=Zi (HX15.out.block 2 (b:=w.heap.size+1+1) rfl rfl) (.string ⟨#[]⟩) (.string ⟨#[]⟩)
   have HBQ:=ZnV (Zf HB15.out (b:=w.heap.size+1+1) (by omega) (.string ⟨#[]⟩) (.string ⟨#[]⟩))
   refine bodyPost_ret (v:=.tuple #[.agg #[.string ⟨#[]⟩,.string ⟨#[]⟩],.int .i64 11]) (by simp[results,Tryz.f105,go_sem,q.1,q.2]) rfl ⟨_,_,_,rfl,.inr ⟨HK.out,.inl ⟨HLT.out,rfl,rfl,rfl⟩⟩,HBQ.out⟩
  ·have hsg:¬ sgnN (n1*d2) (n2*d1)<0:=fun h=>by have:=Zec.1 h;omega
   have HGE:=ZnV hge
   clear hge
   have k2:=HX15.out.f4
   obtain⟨ka2,kb2,kc2,kd2⟩:=id k2
   go_wp2_with fail
   go_region_held3
    (fun w'=>w'.cell? ⟨w.heap.size,0,none⟩=some (.string s)∧w'.cell? ⟨w.heap.size,1,none⟩=some (.string t)∧w'.cell? ⟨w.heap.size+1,0,none⟩=some (.string u)∧w'.cell? ⟨w.heap.size+1,1,none⟩=some (.string v))
    (first | exact k1 | exact k2 | exact k3 | exact k4 | exact k5 | exact k6 | exact k7 | exact k8 | exact ZaI (by omega) (by omega) k9 _ _ | exact k9)
    (first
     | (go_at_call_of 156 (Value.slice pc mc cc);refine(Zf1 (PNum.after (w':=w15.drew) NC15.out (Below.refl w15.heap.size w15).drew ZnW) (PNum.after (w':=w15.drew) NF15.out (Below.refl w15.heap.size w15).drew ZnW) HGE.out (by have:=M1.out;omega)).mono ?_;rintro e w11 ⟨vg,rfl,hv,hb⟩;obtain⟨pg,mg,cg,rfl⟩:=hv.form;have NG:=ZnV hv;have HX11:=ZnV (HX15.out.drew.below hb HX15.out.lt);have HB11:Hid (Below w.heap.size w w11):=HB15.out.drew.trans (hb.mono HB15.out.drew.size);have k3:=HX11.out.f4;clear hv hb)
     | (go_at_call_of 118 (Value.string t);refine(HPT.out _).mono ?_;rintro e w12 ⟨vh,rfl,hv,hb⟩;obtain⟨ph,mh,ch,rfl⟩:=hv.form;have NH:=ZnV hv;have NG12:=ZnV (NG.out.after hb ZnW);have HX12:=ZnV (HX11.out.below hb HX11.out.lt);have HB12:Hid (Below w.heap.size w w12):=HB11.out.trans (hb.mono HB11.out.size);have k4:=HX12.out.f4;clear hv hb)
     | (go_at_call_of 118 (Value.string v);refine(HPV.out _).mono ?_;rintro e w13 ⟨vi,rfl,hv,hb⟩;obtain⟨pi,mi,ci,rfl⟩:=hv.form;have NI:=ZnV hv;have NG13:=ZnV (NG12.out.after hb ZnW);have NH13:=ZnV (NH.out.after hb ZnW);have HX13:=ZnV (HX12.out.below hb HX12.out.lt);have HB13:Hid (Below w.heap.size w w13):=HB12.out.trans (hb.mono HB12.out.size);have k5:=HX13.out.f4;clear hv hb)
     | (go_at_call_of 117 (Value.slice ph mh ch);refine(Z6 NH13.out NI.out (by omega) (by omega)).mono ?_;rintro e w14 ⟨vj,rfl,hv,hb⟩;obtain⟨pj,mj,cj,rfl⟩:=hv.form;have NJ:=ZnV hv;have NG14:=ZnV (NG13.out.after hb ZnW);have HX14:=ZnV (HX13.out.below hb HX13.out.lt);have HB14:Hid (Below w.heap.size w w14):=HB13.out.trans (hb.mono HB13.out.size);have k6:=HX14.out.f4;clear hv hb)
     | (go_at_call 141;refine(Zdo NG14.out NJ.out HL1.out HL2.out HD0.out).mono ?_;rintro e w9 ⟨x,y,n,rfl,hR,hb9⟩;have HR:=ZnV hR;have HX9:=ZnV (HX14.out.below hb9 HX14.out.lt);have HB9:Hid (Below w.heap.size w w9):=HB14.out.trans (hb9.mono HB14.out.size);have k9:=HX9.out.f4;have r0:=HX9.out.cell 2 0 (b:=w.heap.size+1+1) rfl rfl rfl;have r1:=HX9.out.cell 2 1 (b:=w.heap.size+1+1) rfl rfl rfl;have f0:=HX9.out.free 2 0 (b:=w.heap.size+1+1) rfl rfl;have f1:=HX9.out.free 2 1 (b:=w.heap.size+1+1) rfl rfl;clear hR hb9)
    )
   all_goals
    have q:=Zi (HX9.out.block 2 (b:=w.heap.size+1+1) rfl rfl) (.string x) (.string y)
    have HBQ:=ZnV (Zf HB9.out (b:=w.heap.size+1+1) (by omega) (.string x) (.string y))
    obtain⟨wz,hwz⟩:=ZnX ((w9.setCell ⟨w.heap.size+1+1,0,none⟩ (.string x)).setCell ⟨w.heap.size+1+1,1,none⟩ (.string y))
    rw[hwz] at q HBQ
    obtain⟨q0,q1⟩:=q
    rw[hwz]
    clear r0 r1 f0 f1 hwz
    go_wp2
    refine bodyPost_ret (v:=.tuple #[.agg #[.string x,.string y],.int .i64 n]) (by simp[results,Tryz.f105,go_sem,q0,q1]) rfl ⟨_,_,_,rfl,?_,HBQ.out⟩
    exact .inr ⟨HK.out,.inr ⟨HGE.out,HR.out⟩⟩
theorem ZnL (s t u v:ByteArray) (w:World) (hs:s.size≤1000000) (ht:t.size≤1000000) (hu:u.size≤1000000) (hv:v.size≤1000000) :
  Calls Tryz.prog 145 #[.agg #[.string s,.string t],.agg #[.string u,.string v]] w (Zx (Bi s t u v (DivR (Zd s.data.toList) (Zd t.data.toList) (Zd u.data.toList) (Zd v.data.toList))) w):=by
 cases hq:(okP s t && okP u v)
 ·skip
  have HQ:Hid (Za6 s t u v=2):=Zdi hq
  have HK:=ZnV hq
  clear hq
  go_enter Tryz.func145,Tryz.ntmps145
  go_wp2_with fail
  obtain⟨w1,hw1⟩:=ZnX (((w.alloc (.cells #[.string s,.string t] 41)).alloc (.cells #[.string u,.string v] 41)).alloc (.cells #[.string ⟨#[]⟩,.string ⟨#[]⟩] 41))
  rw[hw1]
  have HX1:Hid (Zj w.heap.size [.cells #[.string s,.string t] 41,.cells #[.string u,.string v] 41,.cells #[.string ⟨#[]⟩,.string ⟨#[]⟩] 41] w1):=by rw[← hw1];exact Zj.three w _ _ _
  have HB1:Hid (Below w.heap.size w w1):=by rw[← hw1];exact(((Below.refl _ w).alloc ZnW _).alloc (by simp) _).alloc (by simp<;>omega) _
  clear hw1
  refine(ZaE s t u v _ hs ht hu hv).mono ?_
  rintro e w2 ⟨rfl,hb2⟩
  rw[HQ.out]
  have HX2:=ZnV (HX1.out.below hb2 HX1.out.lt)
  have HB2:=ZnV (HB1.out.trans (hb2.mono HB1.out.size))
  clear hb2
  have r0:=HX2.out.cell 2 0 (b:=w.heap.size+1+1) rfl rfl rfl
  have r1:=HX2.out.cell 2 1 (b:=w.heap.size+1+1) rfl rfl rfl
  have f0:=HX2.out.free 2 0 (b:=w.heap.size+1+1) rfl rfl
  have f1:=HX2.out.free 2 1 (b:=w.heap.size+1+1) rfl rfl
  go_wp2
  have q:=Zi (HX2.out.block 2 (b:=w.heap.size+1+1) rfl rfl) (.string ⟨#[]⟩) (.string ⟨#[]⟩)
  have HBQ:=ZnV (Zf HB2.out (b:=w.heap.size+1+1) (by omega) (.string ⟨#[]⟩) (.string ⟨#[]⟩))
  refine bodyPost_ret (v:=.tuple #[.agg #[.string ⟨#[]⟩,.string ⟨#[]⟩],.int .i64 2]) (by simp[results,Tryz.f145,go_sem,q.1,q.2]) rfl ⟨_,_,_,rfl,.inl ⟨HK.out,rfl,rfl,rfl⟩,HBQ.out⟩
 ·skip
  have hnu:=(Zc2.1 (Bool.and_eq_true _ _ |>.mp hq).2).1
  have HZ:=ZnV (Zc9 hnu)
  have dl:u.toList=u.data.toList:=ByteArray.toList_eq ..
  clear hnu
  have HQ:Hid (Za6 s t u v=0):=ZcE hq
  have HK:=ZnV hq
  have hq2:=hq
  rw[Bool.and_eq_true] at hq2
  have g1:=rok hq2.1
  have g2:=rok hq2.2
  obtain⟨n1,hn1⟩:=ZnX (Zd s.data.toList)
  obtain⟨d1,hd1⟩:=ZnX (Zd t.data.toList)
  obtain⟨n2,hn2⟩:=ZnX (Zd u.data.toList)
  obtain⟨d2,hd2⟩:=ZnX (Zd v.data.toList)
  rw[hn1,hd1] at g1
  rw[hn2,hd2] at g2
  have HPS:Hid (∀ W,Calls Tryz.prog 118 #[.string s] W (Zad W n1)):=fun W=>by rw[← hn1];exact ZJ s hs g1.ds W
  have HPT:Hid (∀ W,Calls Tryz.prog 118 #[.string t] W (Zad W d1)):=fun W=>by rw[← hd1];exact ZJ t ht g1.dt W
  have HPU:Hid (∀ W,Calls Tryz.prog 118 #[.string u] W (Zad W n2)):=fun W=>by rw[← hn2];exact ZJ u hu g2.ds W
  have HPV:Hid (∀ W,Calls Tryz.prog 118 #[.string v] W (Zad W d2)):=fun W=>by rw[← hd2];exact ZJ v hv g2.dt W
  have l1:=g1.ls
  have l2:=g1.lt
  have l3:=g2.ls
  have l4:=g2.lt
  have z1:=g1.pos
  have z2:=g2.pos
  rw[hn1,hd1,hn2,hd2]
  have HN:=ZnV (And.intro hn1 (And.intro hd1 (And.intro hn2 hd2)))
  clear hq hq2 g1 g2 hn1 hd1 hn2 hd2
  rw[HN.out.2.2.1] at HZ
  rcases Nat.eq_zero_or_pos n2 with h0 | h0
  ·have hz:(u.toList==[48])=true:=by
    rw[dl,HZ.out.2 h0];rfl
   have H0:=ZnV h0
   clear h0 dl
   go_enter Tryz.func145,Tryz.ntmps145
   go_wp2_with fail
   obtain⟨w1,hw1⟩:=ZnX (((w.alloc (.cells #[.string s,.string t] 41)).alloc (.cells #[.string u,.string v] 41)).alloc (.cells #[.string ⟨#[]⟩,.string ⟨#[]⟩] 41))
   rw[hw1]
   have HX1:Hid (Zj w.heap.size [.cells #[.string s,.string t] 41,.cells #[.string u,.string v] 41,.cells #[.string ⟨#[]⟩,.string ⟨#[]⟩] 41] w1):=by rw[← hw1];exact Zj.three w _ _ _
   have HB1:Hid (Below w.heap.size w w1):=by rw[← hw1];exact(((Below.refl _ w).alloc ZnW _).alloc (by simp) _).alloc (by simp<;>omega) _
   clear hw1
   refine(ZaE s t u v _ hs ht hu hv).mono ?_
   rintro e w2 ⟨rfl,hb2⟩
   rw[HQ.out]
   have HX2:=ZnV (HX1.out.below hb2 HX1.out.lt)
   have HB2:=ZnV (HB1.out.trans (hb2.mono HB1.out.size))
   clear hb2
   have r0:=HX2.out.cell 2 0 (b:=w.heap.size+1+1) rfl rfl rfl
   have r1:=HX2.out.cell 2 1 (b:=w.heap.size+1+1) rfl rfl rfl
   have f0:=HX2.out.free 2 0 (b:=w.heap.size+1+1) rfl rfl
   have f1:=HX2.out.free 2 1 (b:=w.heap.size+1+1) rfl rfl
   have k2:=HX2.out.f4
   obtain⟨ka2,kb2,kc2,kd2⟩:=id k2
   go_wp2
   have q:=Zi (HX2.out.block 2 (b:=w.heap.size+1+1) rfl rfl) (.string ⟨#[]⟩) (.string ⟨#[]⟩)
   have HBQ:=ZnV (Zf HB2.out (b:=w.heap.size+1+1) (by omega) (.string ⟨#[]⟩) (.string ⟨#[]⟩))
   refine bodyPost_ret (v:=.tuple #[.agg #[.string ⟨#[]⟩,.string ⟨#[]⟩],.int .i64 10]) (by simp[results,Tryz.f145,go_sem,q.1,q.2]) rfl ⟨_,_,_,rfl,.inr ⟨HK.out,.inl ⟨H0.out,rfl,rfl,rfl⟩⟩,HBQ.out⟩
  have hz:(u.toList==[48])=false:=by
   rw[beq_eq_false_iff_ne,dl]
   intro hc
   have h1:n2=0:=HZ.out.1 (by rw[← ZaN u,hc];rfl)
   omega
  have HL1:Hid ((Zb 10000 (n1*d2)).length≤100000):=Nat.le_trans (Zar l1 l4) (by omega)
  have HL2:Hid ((Zb 10000 (d1*n2)).length≤100000):=Nat.le_trans (Zar l2 l3) (by omega)
  have HD0:Hid (0<d1*n2):=Nat.mul_pos z1 h0
  have H0:=ZnV h0
  clear h0 dl
  go_enter Tryz.func145,Tryz.ntmps145
  go_wp2_with fail
  obtain⟨w1,hw1⟩:=ZnX (((w.alloc (.cells #[.string s,.string t] 41)).alloc (.cells #[.string u,.string v] 41)).alloc (.cells #[.string ⟨#[]⟩,.string ⟨#[]⟩] 41))
  rw[hw1]
  have HX1:Hid (Zj w.heap.size [.cells #[.string s,.string t] 41,.cells #[.string u,.string v] 41,.cells #[.string ⟨#[]⟩,.string ⟨#[]⟩] 41] w1):=by rw[← hw1];exact Zj.three w _ _ _
  have HB1:Hid (Below w.heap.size w w1):=by rw[← hw1];exact(((Below.refl _ w).alloc ZnW _).alloc (by simp) _).alloc (by simp<;>omega) _
  clear hw1
  refine(ZaE s t u v _ hs ht hu hv).mono ?_
  rintro e w2 ⟨rfl,hb2⟩
  rw[HQ.out]
  have HX2:=ZnV (HX1.out.below hb2 HX1.out.lt)
  have HB2:=ZnV (HB1.out.trans (hb2.mono HB1.out.size))
  clear hb2
  have k2:=HX2.out.f4
  obtain⟨ka2,kb2,kc2,kd2⟩:=id k2
  go_wp2_with fail
  go_region_held3
   (fun w'=>w'.cell? ⟨w.heap.size,0,none⟩=some (.string s)∧w'.cell? ⟨w.heap.size,1,none⟩=some (.string t)∧w'.cell? ⟨w.heap.size+1,0,none⟩=some (.string u)∧w'.cell? ⟨w.heap.size+1,1,none⟩=some (.string v))
   (first | exact k1 | exact k2 | exact k3 | exact k4 | exact k5 | exact k6 | exact k7 | exact k8 | exact ZaI (by omega) (by omega) k9 _ _ | exact k9)
   (first
    | (go_at_call_of 118 (Value.string s);refine(HPS.out _).mono ?_;rintro e w3 ⟨va,rfl,hv,hb⟩;obtain⟨pa,ma,ca,rfl⟩:=hv.form;have NA:=ZnV hv;have HX3:=ZnV (HX2.out.drew.below hb HX2.out.lt);have HB3:Hid (Below w.heap.size w w3):=HB2.out.drew.trans (hb.mono HB2.out.drew.size);have k3:=HX3.out.f4;clear hv hb)
    | (go_at_call_of 118 (Value.string v);refine(HPV.out _).mono ?_;rintro e w4 ⟨vb,rfl,hv,hb⟩;obtain⟨pb,mb,cb,rfl⟩:=hv.form;have NB:=ZnV hv;have NA4:=ZnV (NA.out.after hb ZnW);have HX4:=ZnV (HX3.out.below hb HX3.out.lt);have HB4:Hid (Below w.heap.size w w4):=HB3.out.trans (hb.mono HB3.out.size);have k4:=HX4.out.f4;clear hv hb)
    | (go_at_call_of 117 (Value.slice pa ma ca);refine(Z6 NA4.out NB.out (by omega) (by omega)).mono ?_;rintro e w5 ⟨vc,rfl,hv,hb⟩;obtain⟨pc,mc,cc,rfl⟩:=hv.form;have NC:=ZnV hv;have HX5:=ZnV (HX4.out.below hb HX4.out.lt);have HB5:Hid (Below w.heap.size w w5):=HB4.out.trans (hb.mono HB4.out.size);have k5:=HX5.out.f4;clear hv hb)
    | (go_at_call_of 118 (Value.string t);refine(HPT.out _).mono ?_;rintro e w6 ⟨vd,rfl,hv,hb⟩;obtain⟨pd,md,cd,rfl⟩:=hv.form;have ND:=ZnV hv;have NC6:=ZnV (NC.out.after hb ZnW);have HX6:=ZnV (HX5.out.below hb HX5.out.lt);have HB6:Hid (Below w.heap.size w w6):=HB5.out.trans (hb.mono HB5.out.size);have k6:=HX6.out.f4;clear hv hb)
    | (go_at_call_of 118 (Value.string u);refine(HPU.out _).mono ?_;rintro e w7 ⟨ve,rfl,hv,hb⟩;obtain⟨pe,me,ce,rfl⟩:=hv.form;have NE:=ZnV hv;have NC7:=ZnV (NC6.out.after hb ZnW);have ND7:=ZnV (ND.out.after hb ZnW);have HX7:=ZnV (HX6.out.below hb HX6.out.lt);have HB7:Hid (Below w.heap.size w w7):=HB6.out.trans (hb.mono HB6.out.size);have k7:=HX7.out.f4;clear hv hb)
    | (go_at_call_of 117 (Value.slice pd md cd);refine(Z6 ND7.out NE.out (by omega) (by omega)).mono ?_;rintro e w8 ⟨vf,rfl,hv,hb⟩;obtain⟨pf,mf,cf,rfl⟩:=hv.form;have NF:=ZnV hv;have NC8:=ZnV (NC7.out.after hb ZnW);have HX8:=ZnV (HX7.out.below hb HX7.out.lt);have HB8:Hid (Below w.heap.size w w8):=HB7.out.trans (hb.mono HB7.out.size);have k8:=HX8.out.f4;clear hv hb)
    | (go_at_call 141;refine(Zdo NC8.out NF.out HL1.out HL2.out HD0.out).mono ?_;rintro e w9 ⟨x,y,n,rfl,hR,hb9⟩;have HR:=ZnV hR;have HX9:=ZnV (HX8.out.below hb9 HX8.out.lt);have HB9:Hid (Below w.heap.size w w9):=HB8.out.trans (hb9.mono HB8.out.size);have k9:=HX9.out.f4;have r0:=HX9.out.cell 2 0 (b:=w.heap.size+1+1) rfl rfl rfl;have r1:=HX9.out.cell 2 1 (b:=w.heap.size+1+1) rfl rfl rfl;have f0:=HX9.out.free 2 0 (b:=w.heap.size+1+1) rfl rfl;have f1:=HX9.out.free 2 1 (b:=w.heap.size+1+1) rfl rfl;clear hR hb9)
   )
  all_goals
   have q:=Zi (HX9.out.block 2 (b:=w.heap.size+1+1) rfl rfl) (.string x) (.string y)
   have HBQ:=ZnV (Zf HB9.out (b:=w.heap.size+1+1) (by omega) (.string x) (.string y))
   obtain⟨wz,hwz⟩:=ZnX ((w9.setCell ⟨w.heap.size+1+1,0,none⟩ (.string x)).setCell ⟨w.heap.size+1+1,1,none⟩ (.string y))
   rw[hwz] at q HBQ
   obtain⟨q0,q1⟩:=q
   rw[hwz]
   clear r0 r1 f0 f1 hwz
   go_wp2
   refine bodyPost_ret (v:=.tuple #[.agg #[.string x,.string y],.int .i64 n]) (by simp[results,Tryz.f145,go_sem,q0,q1]) rfl ⟨_,_,_,rfl,?_,HBQ.out⟩
   exact .inr ⟨HK.out,.inr ⟨H0.out,HR.out⟩⟩
theorem Zmp {a b:Rat} (ha:0≤a) (hb:0≤b):sgnN (a.num.toNat*b.den) (b.num.toNat*a.den)=sgnR a b:=by
 rw[← Zl5 ha hb (r:=sgnN (a.num.toNat*b.den) (b.num.toNat*a.den))]
 ·unfold sgnN;split<;>(try split)<;>rfl
 ·unfold Sign sgnN
  split
  ·refine⟨⟨fun _=>?_,fun _=>?_⟩,⟨fun h=>?_,fun h=>?_⟩,?_,?_⟩<;>omega
  ·split<;>(refine⟨⟨fun _=>?_,fun _=>?_⟩,⟨fun h=>?_,fun h=>?_⟩,?_,?_⟩<;>omega)
theorem Zil (s t u v:ByteArray) (w:World) (hs:s.size≤1000000) (ht:t.size≤1000000) (hu:u.size≤1000000) (hv:v.size≤1000000) :
  Calls Tryz.prog 56 #[.agg #[.string s,.string t],.agg #[.string u,.string v]] w (Zir s t u v w):=by
 cases hq:(okP s t && okP u v)
 ·have HQ:Hid (Za6 s t u v=2):=Zdi hq
  have HK:=ZnV hq
  clear hq
  go_enter Tryz.func56,Tryz.ntmps56
  go_wp2_with fail
  obtain⟨w1,hw1⟩:=ZnX ((w.alloc (.cells #[.string s,.string t] 41)).alloc (.cells #[.string u,.string v] 41))
  rw[hw1]
  have HX1:Hid (Zj w.heap.size [.cells #[.string s,.string t] 41,.cells #[.string u,.string v] 41] w1):=by rw[← hw1];exact Zj.two w _ _
  have HB1:Hid (Below w.heap.size w w1):=by rw[← hw1];exact((Below.refl _ w).alloc ZnW _).alloc (by simp) _
  clear hw1
  refine(ZaE s t u v _ hs ht hu hv).mono ?_
  rintro e w2 ⟨rfl,hb2⟩
  rw[HQ.out]
  have HX2:=ZnV (HX1.out.below hb2 HX1.out.lt)
  have HB2:=ZnV (HB1.out.trans (hb2.mono HB1.out.size))
  clear hb2
  go_wp2
  go_ret
  exact⟨0,rfl,.inl ⟨HK.out,rfl⟩,HB2.out⟩
 ·have hq2:=hq
  rw[Bool.and_eq_true] at hq2
  have HRN:Hid (sgnN (Zd s.data.toList*Zd v.data.toList) (Zd u.data.toList*Zd t.data.toList)=sgnR (ratP s t) (ratP u v)):=by
   obtain⟨a1,a2,a3⟩:=Za3 hq2.1
   obtain⟨b1,b2,b3⟩:=Za3 hq2.2
   show _=_
   rw[a2,a3,b2,b3]
   exact Zmp a1 b1
  clear hq2
  have HQ:Hid (Za6 s t u v=0):=ZcE hq
  have HK:=ZnV hq
  have hq2:=hq
  rw[Bool.and_eq_true] at hq2
  have g1:=rok hq2.1
  have g2:=rok hq2.2
  obtain⟨n1,hn1⟩:=ZnX (Zd s.data.toList)
  obtain⟨d1,hd1⟩:=ZnX (Zd t.data.toList)
  obtain⟨n2,hn2⟩:=ZnX (Zd u.data.toList)
  obtain⟨d2,hd2⟩:=ZnX (Zd v.data.toList)
  rw[hn1,hd1] at g1
  rw[hn2,hd2] at g2
  rw[hn1,hd1,hn2,hd2] at HRN
  have HPS:Hid (∀ W,Calls Tryz.prog 118 #[.string s] W (Zad W n1)):=fun W=>by rw[← hn1];exact ZJ s hs g1.ds W
  have HPT:Hid (∀ W,Calls Tryz.prog 118 #[.string t] W (Zad W d1)):=fun W=>by rw[← hd1];exact ZJ t ht g1.dt W
  have HPU:Hid (∀ W,Calls Tryz.prog 118 #[.string u] W (Zad W n2)):=fun W=>by rw[← hn2];exact ZJ u hu g2.ds W
  have HPV:Hid (∀ W,Calls Tryz.prog 118 #[.string v] W (Zad W d2)):=fun W=>by rw[← hd2];exact ZJ v hv g2.dt W
  have l1:=g1.ls
  have l2:=g1.lt
  have l3:=g2.ls
  have l4:=g2.lt
  have M1:Hid ((Zb 10000 (n1*d2)).length≤300):=Nat.le_trans (Zar l1 l4) (by omega)
  have M2:Hid ((Zb 10000 (n2*d1)).length≤300):=Nat.le_trans (Zar l3 l2) (by omega)
  clear hq hq2 g1 g2 hn1 hd1 hn2 hd2
  go_enter Tryz.func56,Tryz.ntmps56
  go_wp2_with fail
  obtain⟨w1,hw1⟩:=ZnX ((w.alloc (.cells #[.string s,.string t] 41)).alloc (.cells #[.string u,.string v] 41))
  rw[hw1]
  have HX1:Hid (Zj w.heap.size [.cells #[.string s,.string t] 41,.cells #[.string u,.string v] 41] w1):=by rw[← hw1];exact Zj.two w _ _
  have HB1:Hid (Below w.heap.size w w1):=by rw[← hw1];exact((Below.refl _ w).alloc ZnW _).alloc (by simp) _
  clear hw1
  refine(ZaE s t u v _ hs ht hu hv).mono ?_
  rintro e w2 ⟨rfl,hb2⟩
  rw[HQ.out]
  have HX2:=ZnV (HX1.out.below hb2 HX1.out.lt)
  have HB2:=ZnV (HB1.out.trans (hb2.mono HB1.out.size))
  clear hb2
  have k2:=HX2.out.f4
  obtain⟨ka2,kb2,kc2,kd2⟩:=id k2
  go_wp2_with fail
  go_region_held3
   (fun w'=>w'.cell? ⟨w.heap.size,0,none⟩=some (.string s)∧w'.cell? ⟨w.heap.size,1,none⟩=some (.string t)∧w'.cell? ⟨w.heap.size+1,0,none⟩=some (.string u)∧w'.cell? ⟨w.heap.size+1,1,none⟩=some (.string v))
   (first | exact k1 | exact k2 | exact k3 | exact k4 | exact k5 | exact k6 | exact k7 | exact k8 | exact ZaI (by omega) (by omega) k9 _ _ | exact k9)
   (first
    | (go_at_call_of 118 (Value.string s);refine(HPS.out _).mono ?_;rintro e w3 ⟨va,rfl,hv,hb⟩;obtain⟨pa,ma,ca,rfl⟩:=hv.form;have NA:=ZnV hv;have HX3:=ZnV (HX2.out.drew.below hb HX2.out.lt);have HB3:Hid (Below w.heap.size w w3):=HB2.out.drew.trans (hb.mono HB2.out.drew.size);have k3:=HX3.out.f4;clear hv hb)
    | (go_at_call_of 118 (Value.string v);refine(HPV.out _).mono ?_;rintro e w4 ⟨vb,rfl,hv,hb⟩;obtain⟨pb,mb,cb,rfl⟩:=hv.form;have NB:=ZnV hv;have NA4:=ZnV (NA.out.after hb ZnW);have HX4:=ZnV (HX3.out.below hb HX3.out.lt);have HB4:Hid (Below w.heap.size w w4):=HB3.out.trans (hb.mono HB3.out.size);have k4:=HX4.out.f4;clear hv hb)
    | (go_at_call_of 117 (Value.slice pa ma ca);refine(Z6 NA4.out NB.out (by omega) (by omega)).mono ?_;rintro e w5 ⟨vc,rfl,hv,hb⟩;obtain⟨pc,mc,cc,rfl⟩:=hv.form;have NC:=ZnV hv;have HX5:=ZnV (HX4.out.below hb HX4.out.lt);have HB5:Hid (Below w.heap.size w w5):=HB4.out.trans (hb.mono HB4.out.size);have k5:=HX5.out.f4;clear hv hb)
    | (go_at_call_of 118 (Value.string u);refine(HPU.out _).mono ?_;rintro e w6 ⟨vd,rfl,hv,hb⟩;obtain⟨pd,md,cd,rfl⟩:=hv.form;have ND:=ZnV hv;have NC6:=ZnV (NC.out.after hb ZnW);have HX6:=ZnV (HX5.out.below hb HX5.out.lt);have HB6:Hid (Below w.heap.size w w6):=HB5.out.trans (hb.mono HB5.out.size);have k6:=HX6.out.f4;clear hv hb)
    | (go_at_call_of 118 (Value.string t);refine(HPT.out _).mono ?_;rintro e w7 ⟨ve,rfl,hv,hb⟩;obtain⟨pe,me,ce,rfl⟩:=hv.form;have NE:=ZnV hv;have NC7:=ZnV (NC6.out.after hb ZnW);have ND7:=ZnV (ND.out.after hb ZnW);have HX7:=ZnV (HX6.out.below hb HX6.out.lt);have HB7:Hid (Below w.heap.size w w7):=HB6.out.trans (hb.mono HB6.out.size);have k7:=HX7.out.f4;clear hv hb)
    | (go_at_call_of 117 (Value.slice pd md cd);refine(Z6 ND7.out NE.out (by omega) (by omega)).mono ?_;rintro e w8 ⟨vf,rfl,hv,hb⟩;obtain⟨pf,mf,cf,rfl⟩:=hv.form;have NF:=ZnV hv;have NC8:=ZnV (NC7.out.after hb ZnW);have HX8:=ZnV (HX7.out.below hb HX7.out.lt);have HB8:Hid (Below w.heap.size w w8):=HB7.out.trans (hb.mono HB7.out.size);have k8:=HX8.out.f4;clear hv hb)
    | (go_at_call 116;refine(Zds NC8.out NF.out (by have:=M1.out;omega) (by have:=M2.out;omega)).mono ?_;rintro e w9 ⟨rfl,hb⟩;have HX9:=ZnV (HX8.out.below hb HX8.out.lt);have HB9:Hid (Below w.heap.size w w9):=HB8.out.trans (hb.mono HB8.out.size);have k9:=HX9.out.f4;clear hb)
   )
  go_wp2
  go_ret
  exact⟨_,by rw[HRN.out];rfl,.inr ⟨HK.out,rfl⟩,HB9.out⟩
abbrev oneS:ByteArray:=⟨#[49]⟩
theorem Zx.mono {R R':ByteArray→ByteArray→Int→Prop} {w w':World} {e:Ending} (h:Zx R w e w') (f:∀ x y n,R x y n→R' x y n):Zx R' w e w':=by
 obtain⟨x,y,n,h1,h2,h3⟩:=h
 exact⟨x,y,n,h1,f x y n h2,h3⟩
theorem ZmH (s t u v:ByteArray) (w:World) (hs:s.size≤1000000) (ht:t.size≤1000000) (hu:u.size≤1000000) (hv:v.size≤1000000) :
  Calls Tryz.prog 86 #[.agg #[.string s,.string t],.agg #[.string u,.string v]] w (Zx (Bi s t u v (Ans (ratP s t*ratP u v))) w):=
 (Zny s t u v w hs ht hu hv).mono fun _ _ h=>h.mono fun _ _ _=>ZlY
theorem Zmw (s t u v:ByteArray) (w:World) (hs:s.size≤1000000) (ht:t.size≤1000000) (hu:u.size≤1000000) (hv:v.size≤1000000) :
  Calls Tryz.prog 88 #[.agg #[.string s,.string t],.agg #[.string u,.string v]] w (Zx (Bi s t u v (Ans (ratP s t+ratP u v))) w):=
 (Znz s t u v w hs ht hu hv).mono fun _ _ h=>h.mono fun _ _ _=>Zlj
theorem Zmd (s t u v:ByteArray) (w:World) (hs:s.size≤1000000) (ht:t.size≤1000000) (hu:u.size≤1000000) (hv:v.size≤1000000) :
  Calls Tryz.prog 105 #[.agg #[.string s,.string t],.agg #[.string u,.string v]] w (Zx (Bi s t u v (SubA (ratP s t) (ratP u v))) w):=
 (Znv s t u v w hs ht hu hv).mono fun _ _ h=>h.mono fun _ _ _=>ZlB
theorem Zmk (s t u v:ByteArray) (w:World) (hs:s.size≤1000000) (ht:t.size≤1000000) (hu:u.size≤1000000) (hv:v.size≤1000000) :
  Calls Tryz.prog 145 #[.agg #[.string s,.string t],.agg #[.string u,.string v]] w (Zx (Bi s t u v (DivA (ratP s t) (ratP u v))) w):=
 (ZnL s t u v w hs ht hu hv).mono fun _ _ h=>h.mono fun _ _ _=>Zlq
theorem ZiG (w:World):Calls Tryz.prog 163 #[] w (ZM (pV oneS oneS) w):=by
 go_enter Tryz.func163,Tryz.ntmps163
 go_wp2
 have HB1:Hid (Below w.heap.size w (w.alloc (pObj oneS oneS))):=(Below.refl _ w).alloc ZnW _
 have c0:=Zv w #[.string oneS,.string oneS] 41 0 rfl
 have c1:=Zv w #[.string oneS,.string oneS] 41 1 rfl
 refine bodyPost_ret (v:=pV oneS oneS) (by simp[results,Tryz.f163,go_sem,c0,c1]) rfl ⟨rfl,HB1.out⟩
theorem Zgq {q:Rat} {s t:ByteArray} {k:Nat} (h:IsP q s t) (hz:Sz k q) (h0:0<k):Zh k (s,t)=true:=by
 refine Z7.2 ⟨?_,?_,h.ok⟩
 ·show s.size≤k
  rw[h.num,Zao]
  exact ZO h0 hz.1
 ·show t.size≤k
  rw[h.den,Zao]
  exact ZO h0 hz.2
theorem Zik {bs:List BB} {q r:Rat} {k:Nat} (h:CurveP bs) (hq0:0≤q) (hz:Sz k q) (hr:ZD bs.length (cR bs) (hR bs) q r):Sz (k+109) r:=by
 obtain⟨i,hk,rfl⟩:=hr
 by_cases hi:i+1<bs.length
 ·have:=(ZhV h.conc' h.sizes.1 h.sizes.2 hq0 hz hi hk).2.2.2.2.2
  exact this.mono (by omega)
 ·have e:lin bs.length (cR bs) (hR bs) i q=hR bs i:=by
   unfold lin slo
   rw[if_neg hi]
   grind
  rw[e]
  exact(h.sizes.2 i hk.1).mono (by omega)
theorem Zl0 {bs:List BB} {q:Rat} {k:Nat} (h:CurveP bs) (hq0:0≤q) (hz:Sz k q) (hk:k≤300):∃ r x y,ZD bs.length (cR bs) (hR bs) q r∧IsP r x y∧Sz (k+109) r∧0≤r∧r≤1:=by
 obtain⟨r,hr⟩:=Zcu h q
 have hs:=Zik h hq0 hz hr
 have h0:=hr.nn h.conc' hq0
 obtain⟨x,y,hx⟩:=ZV h0 hs (by omega) (by omega)
 exact⟨r,x,y,hr,hx,hs,h0,hr.top h.conc'⟩
theorem Zlt {v:Value} {bs:List BB} {w:World} {q r:Rat} {s t x y:ByteArray} (hv:BL w v bs) (hC:CurveP bs) (hz:LimB bs) (hq:IsP q s t) (hs:Sz 300 q) (hr:ZD bs.length (cR bs) (hR bs) q r) (hx:IsP r x y) (hD:DetV w) (hT:Tabs w) :
  Calls Tryz.prog 168 #[v,pV s t] w (ZM (.tuple #[pV x y,.int .i64 0]) w):=by
 refine(Zi3 hv hz hq.limit.1 hq.limit.2 hD hT).mono ?_
 rintro e w' ⟨u,u2,n,rfl,h,hb⟩
 rcases h with ⟨h,_⟩ | ⟨_,rfl,r',h1,h2⟩
 ·exact absurd ⟨hC,Zgq hq hs (by decide)⟩ h
 ·rw[hq.rat] at h1
  obtain⟨e1,e2⟩:=ZbC h2 hx (h1.unique hr)
  subst e1 e2
  exact⟨rfl,hb⟩
end Go.Proofs.YtmpaflidennnoaaGreatDoor
