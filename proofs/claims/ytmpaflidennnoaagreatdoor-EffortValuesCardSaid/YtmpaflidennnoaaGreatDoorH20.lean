/- The parts RTwo2, Not, DMiss, DSlope, ChanceTo. -/
import Derived.Test.YtmpaflidennnoaaGreatDoorH19
import Derived.Test.YtmpaflidennnoaaGreatDoorH16
set_option maxRecDepth 100000
set_option maxHeartbeats 4000000
set_option linter.unusedVariables false
set_option linter.unusedSimpArgs false
namespace Go.Proofs.YtmpaflidennnoaaGreatDoor
open Go.RowKit Go.Shelf
attribute [local go_sem ↓] Go.wp_at_zero Go.wp_at_succ
theorem Zoh (s t u v:ByteArray) (w:World) (hs:s.size<=1000000) (ht:t.size<=1000000) (hu:u.size<=1000000) (hv:v.size<=1000000) :
  Calls Tryz.prog 105 #[Zpb s t,Zpb u v] w (ZL (Bi s t u v (SubR (Zq s.data.toList) (Zq t.data.toList) (Zq u.data.toList) (Zq v.data.toList))) w):=by
 cases hq:(okP s t && okP u v)
 ·skip
  have HQ:Hid (Zbl s t u v=2):=ZdO hq
  have HK:=Zpe hq
  clear hq
  go_enter Tryz.func105,Tryz.ntmps105
  go_wp2_with fail
  obtain⟨w1,hw1⟩:=Zpg (((w.alloc (Zpc s t)).alloc (Zpc u v)).alloc (Zpc Zpa Zpa))
  rw[hw1]
  have HX1:Hid (Zv w.heap.size [Zpc s t,Zpc u v,Zpc Zpa Zpa] w1):=by rw[<- hw1];exact Zv.three w _ _ _
  have HB1:Zo8 w w1:=by rw[<- hw1];exact(((Zoq _ w).alloc Zpf _).alloc Zc _).alloc (by simp<;>omega) _
  clear hw1
  refine(ZaT s t u v _ hs ht hu hv).mono ?_
  rintro e w2 ⟨rfl,hb2⟩
  rw[HQ.out]
  have HX2:=Zpe (HX1.out.below hb2 HX1.out.lt)
  have HB2:=Zpe (HB1.out.trans (hb2.mono HB1.out.size))
  clear hb2
  have r0:=HX2.out.cell 2 0 (b:=w.heap.size+1+1) rfl rfl rfl
  have r1:=HX2.out.cell 2 1 (b:=w.heap.size+1+1) rfl rfl rfl
  have f0:=HX2.out.free 2 0 (b:=w.heap.size+1+1) rfl rfl
  have f1:=HX2.out.free 2 1 (b:=w.heap.size+1+1) rfl rfl
  go_wp2
  have q:=Zu (HX2.out.block 2 (b:=w.heap.size+1+1) rfl rfl) (.string Zpa) (.string Zpa)
  have HBQ:=Zpe (Zs HB2.out (b:=w.heap.size+1+1) Za (.string Zpa) (.string Zpa))
  refine Zor (v:=.tuple #[Zpb Zpa Zpa,.int .i64 2]) (by simp[results,Tryz.f105,go_sem,q.1,q.2]) rfl ⟨_,_,_,rfl,.inl ⟨HK.out,rfl,rfl,rfl⟩,HBQ.out⟩
 ·skip
  have HQ:Hid (Zbl s t u v=0):=Zda hq
  have HK:=Zpe hq
  have hq2:=hq
  rw[ZoY] at hq2
  have g1:=rok hq2.1
  have g2:=rok hq2.2
  obtain⟨n1,hn1⟩:=Zpg (Zq s.data.toList)
  obtain⟨d1,hd1⟩:=Zpg (Zq t.data.toList)
  obtain⟨n2,hn2⟩:=Zpg (Zq u.data.toList)
  obtain⟨d2,hd2⟩:=Zpg (Zq v.data.toList)
  rw[hn1,hd1] at g1
  rw[hn2,hd2] at g2
  have HPS:Hid (∀ W,Calls Tryz.prog 118 #[.string s] W (Zao W n1)):=fun W=>by rw[<- hn1];exact ZX s hs g1.ds W
  have HPT:Hid (∀ W,Calls Tryz.prog 118 #[.string t] W (Zao W d1)):=fun W=>by rw[<- hd1];exact ZX t ht g1.dt W
  have HPU:Hid (∀ W,Calls Tryz.prog 118 #[.string u] W (Zao W n2)):=fun W=>by rw[<- hn2];exact ZX u hu g2.ds W
  have HPV:Hid (∀ W,Calls Tryz.prog 118 #[.string v] W (Zao W d2)):=fun W=>by rw[<- hd2];exact ZX v hv g2.dt W
  have l1:=g1.ls
  have l2:=g1.lt
  have l3:=g2.ls
  have l4:=g2.lt
  have z1:=g1.pos
  have z2:=g2.pos
  rw[hn1,hd1,hn2,hd2]
  have HN:=Zpe (Zo5 hn1 (Zo5 hd1 (Zo5 hn2 hd2)))
  clear hq hq2 g1 g2 hn1 hd1 hn2 hd2
  have M1:Hid ((Zp 10000 (n1*d2)).length<=300):=Zoz (ZaB l1 l4) Za
  have M2:Hid ((Zp 10000 (n2*d1)).length<=300):=Zoz (ZaB l3 l2) Za
  have HL2:Hid ((Zp 10000 (d1*d2)).length<=100000):=Zoz (ZaB l2 l4) Za
  have HD0:Hid (0<d1*d2):=Nat.mul_pos z1 z2
  have HL1:Hid ((Zp 10000 (n1*d2-n2*d1)).length<=100000):=Zoz (ZN Za (Nat.sub_le _ _)) (by have:=M1.out;omega)
  go_enter Tryz.func105,Tryz.ntmps105
  go_wp2_with fail
  obtain⟨w1,hw1⟩:=Zpg (((w.alloc (Zpc s t)).alloc (Zpc u v)).alloc (Zpc Zpa Zpa))
  rw[hw1]
  have HX1:Hid (Zv w.heap.size [Zpc s t,Zpc u v,Zpc Zpa Zpa] w1):=by rw[<- hw1];exact Zv.three w _ _ _
  have HB1:Zo8 w w1:=by rw[<- hw1];exact(((Zoq _ w).alloc Zpf _).alloc Zc _).alloc (by simp<;>omega) _
  clear hw1
  refine(ZaT s t u v _ hs ht hu hv).mono ?_
  rintro e w2 ⟨rfl,hb2⟩
  rw[HQ.out]
  have HX2:=Zpe (HX1.out.below hb2 HX1.out.lt)
  have HB2:=Zpe (HB1.out.trans (hb2.mono HB1.out.size))
  clear hb2
  have k2:=HX2.out.f4
  obtain⟨ka2,kb2,kc2,kd2⟩:=id k2
  go_wp2_with fail
  go_region_held3
   (fun w'=>w'.cell? ⟨w.heap.size,0,none⟩=some (.string s)/\w'.cell? ⟨w.heap.size,1,none⟩=some (.string t)/\w'.cell? ⟨w.heap.size+1,0,none⟩=some (.string u)/\w'.cell? ⟨w.heap.size+1,1,none⟩=some (.string v))
   (first | exact k1 | exact k2 | exact k3 | exact k4 | exact k5 | exact k6 | exact k7 | exact k8 | exact ZaQ Za Za k9 _ _ | exact k9)
   (first
    | (go_at_call_of 118 (Value.string s);refine(HPS.out _).mono ?_;rintro e w3 ⟨va,rfl,hv,hb⟩;obtain⟨pa,ma,ca,rfl⟩:=hv.form;have NA:=Zpe hv;have HX3:=Zpe (HX2.out.drew.below hb HX2.out.lt);have HB3:Zo8 w w3:=HB2.out.drew.trans (hb.mono HB2.out.drew.size);have k3:=HX3.out.f4;clear hv hb)
    | (go_at_call_of 118 (Value.string v);refine(HPV.out _).mono ?_;rintro e w4 ⟨vb,rfl,hv,hb⟩;obtain⟨pb,mb,cb,rfl⟩:=hv.form;have NB:=Zpe hv;have NA4:=Zpe (NA.out.after hb Zpf);have HX4:=Zpe (HX3.out.below hb HX3.out.lt);have HB4:Zo8 w w4:=HB3.out.trans (hb.mono HB3.out.size);have k4:=HX4.out.f4;clear hv hb)
    | (go_at_call_of 117 (Value.slice pa ma ca);refine(Zam NA4.out NB.out Za Za).mono ?_;rintro e w5 ⟨vc,rfl,hv,hb⟩;obtain⟨pc,mc,cc,rfl⟩:=hv.form;have NC:=Zpe hv;have HX5:=Zpe (HX4.out.below hb HX4.out.lt);have HB5:Zo8 w w5:=HB4.out.trans (hb.mono HB4.out.size);have k5:=HX5.out.f4;clear hv hb)
   )
  go_wp2_with fail
  go_region_held3
   (fun w'=>w'.cell? ⟨w.heap.size,0,none⟩=some (.string s)/\w'.cell? ⟨w.heap.size,1,none⟩=some (.string t)/\w'.cell? ⟨w.heap.size+1,0,none⟩=some (.string u)/\w'.cell? ⟨w.heap.size+1,1,none⟩=some (.string v))
   (first | exact k1 | exact k2 | exact k3 | exact k4 | exact k5 | exact k6 | exact k7 | exact k8 | exact ZaQ Za Za k9 _ _ | exact k9)
   (first
    | (go_at_call_of 118 (Value.string u);refine(HPU.out _).mono ?_;rintro e w6 ⟨vd,rfl,hv,hb⟩;obtain⟨pd,md,cd,rfl⟩:=hv.form;have ND:=Zpe hv;have NC6:=Zpe (PNum.after (w:=w5.drew) NC.out hb Zpf);have HX6:=Zpe (HX5.out.drew.below hb HX5.out.lt);have HB6:Zo8 w w6:=HB5.out.drew.trans (hb.mono HB5.out.drew.size);have k6:=HX6.out.f4;clear hv hb)
    | (go_at_call_of 118 (Value.string t);refine(HPT.out _).mono ?_;rintro e w7 ⟨ve,rfl,hv,hb⟩;obtain⟨pe,me,ce,rfl⟩:=hv.form;have NE:=Zpe hv;have NC7:=Zpe (NC6.out.after hb Zpf);have ND7:=Zpe (ND.out.after hb Zpf);have HX7:=Zpe (HX6.out.below hb HX6.out.lt);have HB7:Zo8 w w7:=HB6.out.trans (hb.mono HB6.out.size);have k7:=HX7.out.f4;clear hv hb)
    | (go_at_call_of 117 (Value.slice pd md cd);refine(Zam ND7.out NE.out Za Za).mono ?_;rintro e w8 ⟨vf,rfl,hv,hb⟩;obtain⟨pf,mf,cf,rfl⟩:=hv.form;have NF:=Zpe hv;have NC8:=Zpe (NC7.out.after hb Zpf);have HX8:=Zpe (HX7.out.below hb HX7.out.lt);have HB8:Zo8 w w8:=HB7.out.trans (hb.mono HB7.out.size);have k8:=HX8.out.f4;clear hv hb)
   )
  go_wp2_with fail
  refine(ZdZ NC8.out NF.out (by have:=M1.out;omega) (by have:=M2.out;omega)).mono ?_
  rintro e w15 ⟨rfl,hb⟩
  have HX15:=Zpe (HX8.out.below hb HX8.out.lt)
  have HB15:Zo8 w w15:=HB8.out.trans (hb.mono HB8.out.size)
  have NC15:=Zpe (NC8.out.after hb Zpf)
  have NF15:=Zpe (NF.out.after hb Zpf)
  clear hb
  rcases Zow (n1*d2) (n2*d1) with hlt | hge
  ·have hsg:sgnN (n1*d2) (n2*d1)<0:=Zep.2 hlt
   have HLT:=Zpe hlt
   have r0:=HX15.out.cell 2 0 (b:=w.heap.size+1+1) rfl rfl rfl
   have r1:=HX15.out.cell 2 1 (b:=w.heap.size+1+1) rfl rfl rfl
   have f0:=HX15.out.free 2 0 (b:=w.heap.size+1+1) rfl rfl
   have f1:=HX15.out.free 2 1 (b:=w.heap.size+1+1) rfl rfl
   clear hlt
   go_wp2
   have q:=Zu (HX15.out.block 2 (b:=w.heap.size+1+1) rfl rfl) (.string Zpa) (.string Zpa)
   have HBQ:=Zpe (Zs HB15.out (b:=w.heap.size+1+1) Za (.string Zpa) (.string Zpa))
   refine Zor (v:=.tuple #[Zpb Zpa Zpa,.int .i64 11]) (by simp[results,Tryz.f105,go_sem,q.1,q.2]) rfl ⟨_,_,_,rfl,.inr ⟨HK.out,.inl ⟨HLT.out,rfl,rfl,rfl⟩⟩,HBQ.out⟩
  ·have hsg:¬ sgnN (n1*d2) (n2*d1)<0:=fun h=>by have:=Zep.1 h;omega
   have HGE:=Zpe hge
   clear hge
   have k2:=HX15.out.f4
   obtain⟨ka2,kb2,kc2,kd2⟩:=id k2
   go_wp2_with fail
   go_region_held3
    (fun w'=>w'.cell? ⟨w.heap.size,0,none⟩=some (.string s)/\w'.cell? ⟨w.heap.size,1,none⟩=some (.string t)/\w'.cell? ⟨w.heap.size+1,0,none⟩=some (.string u)/\w'.cell? ⟨w.heap.size+1,1,none⟩=some (.string v))
    (first | exact k1 | exact k2 | exact k3 | exact k4 | exact k5 | exact k6 | exact k7 | exact k8 | exact ZaQ Za Za k9 _ _ | exact k9)
    (first
     | (go_at_call_of 156 (Value.slice pc mc cc);refine(ZgK (PNum.after (w':=w15.drew) NC15.out (Zoq w15.heap.size w15).drew Zpf) (PNum.after (w':=w15.drew) NF15.out (Zoq w15.heap.size w15).drew Zpf) HGE.out (by have:=M1.out;omega)).mono ?_;rintro e w11 ⟨vg,rfl,hv,hb⟩;obtain⟨pg,mg,cg,rfl⟩:=hv.form;have NG:=Zpe hv;have HX11:=Zpe (HX15.out.drew.below hb HX15.out.lt);have HB11:Zo8 w w11:=HB15.out.drew.trans (hb.mono HB15.out.drew.size);have k3:=HX11.out.f4;clear hv hb)
     | (go_at_call_of 118 (Value.string t);refine(HPT.out _).mono ?_;rintro e w12 ⟨vh,rfl,hv,hb⟩;obtain⟨ph,mh,ch,rfl⟩:=hv.form;have NH:=Zpe hv;have NG12:=Zpe (NG.out.after hb Zpf);have HX12:=Zpe (HX11.out.below hb HX11.out.lt);have HB12:Zo8 w w12:=HB11.out.trans (hb.mono HB11.out.size);have k4:=HX12.out.f4;clear hv hb)
     | (go_at_call_of 118 (Value.string v);refine(HPV.out _).mono ?_;rintro e w13 ⟨vi,rfl,hv,hb⟩;obtain⟨pi,mi,ci,rfl⟩:=hv.form;have NI:=Zpe hv;have NG13:=Zpe (NG12.out.after hb Zpf);have NH13:=Zpe (NH.out.after hb Zpf);have HX13:=Zpe (HX12.out.below hb HX12.out.lt);have HB13:Zo8 w w13:=HB12.out.trans (hb.mono HB12.out.size);have k5:=HX13.out.f4;clear hv hb)
     | (go_at_call_of 117 (Value.slice ph mh ch);refine(Zam NH13.out NI.out Za Za).mono ?_;rintro e w14 ⟨vj,rfl,hv,hb⟩;obtain⟨pj,mj,cj,rfl⟩:=hv.form;have NJ:=Zpe hv;have NG14:=Zpe (NG13.out.after hb Zpf);have HX14:=Zpe (HX13.out.below hb HX13.out.lt);have HB14:Zo8 w w14:=HB13.out.trans (hb.mono HB13.out.size);have k6:=HX14.out.f4;clear hv hb)
     | (go_at_call 141;refine(ZdI NG14.out NJ.out HL1.out HL2.out HD0.out).mono ?_;rintro e w9 ⟨x,y,n,rfl,hR,hb9⟩;have HR:=Zpe hR;have HX9:=Zpe (HX14.out.below hb9 HX14.out.lt);have HB9:Zo8 w w9:=HB14.out.trans (hb9.mono HB14.out.size);have k9:=HX9.out.f4;have r0:=HX9.out.cell 2 0 (b:=w.heap.size+1+1) rfl rfl rfl;have r1:=HX9.out.cell 2 1 (b:=w.heap.size+1+1) rfl rfl rfl;have f0:=HX9.out.free 2 0 (b:=w.heap.size+1+1) rfl rfl;have f1:=HX9.out.free 2 1 (b:=w.heap.size+1+1) rfl rfl;clear hR hb9)
    )
   all_goals
    have q:=Zu (HX9.out.block 2 (b:=w.heap.size+1+1) rfl rfl) (.string x) (.string y)
    have HBQ:=Zpe (Zs HB9.out (b:=w.heap.size+1+1) Za (.string x) (.string y))
    obtain⟨wz,hwz⟩:=Zpg ((w9.setCell ⟨w.heap.size+1+1,0,none⟩ (.string x)).setCell ⟨w.heap.size+1+1,1,none⟩ (.string y))
    rw[hwz] at q HBQ
    obtain⟨q0,q1⟩:=q
    rw[hwz]
    clear r0 r1 f0 f1 hwz
    go_wp2
    refine Zor (v:=.tuple #[Zpb x y,.int .i64 n]) (by simp[results,Tryz.f105,go_sem,q0,q1]) rfl ⟨_,_,_,rfl,?_,HBQ.out⟩
    exact .inr ⟨HK.out,.inr ⟨HGE.out,HR.out⟩⟩
theorem Zog (s t u v:ByteArray) (w:World) (hs:s.size<=1000000) (ht:t.size<=1000000) (hu:u.size<=1000000) (hv:v.size<=1000000) :
  Calls Tryz.prog 145 #[Zpb s t,Zpb u v] w (ZL (Bi s t u v (DivR (Zq s.data.toList) (Zq t.data.toList) (Zq u.data.toList) (Zq v.data.toList))) w):=by
 cases hq:(okP s t && okP u v)
 ·skip
  have HQ:Hid (Zbl s t u v=2):=ZdO hq
  have HK:=Zpe hq
  clear hq
  go_enter Tryz.func145,Tryz.ntmps145
  go_wp2_with fail
  obtain⟨w1,hw1⟩:=Zpg (((w.alloc (Zpc s t)).alloc (Zpc u v)).alloc (Zpc Zpa Zpa))
  rw[hw1]
  have HX1:Hid (Zv w.heap.size [Zpc s t,Zpc u v,Zpc Zpa Zpa] w1):=by rw[<- hw1];exact Zv.three w _ _ _
  have HB1:Zo8 w w1:=by rw[<- hw1];exact(((Zoq _ w).alloc Zpf _).alloc Zc _).alloc (by simp<;>omega) _
  clear hw1
  refine(ZaT s t u v _ hs ht hu hv).mono ?_
  rintro e w2 ⟨rfl,hb2⟩
  rw[HQ.out]
  have HX2:=Zpe (HX1.out.below hb2 HX1.out.lt)
  have HB2:=Zpe (HB1.out.trans (hb2.mono HB1.out.size))
  clear hb2
  have r0:=HX2.out.cell 2 0 (b:=w.heap.size+1+1) rfl rfl rfl
  have r1:=HX2.out.cell 2 1 (b:=w.heap.size+1+1) rfl rfl rfl
  have f0:=HX2.out.free 2 0 (b:=w.heap.size+1+1) rfl rfl
  have f1:=HX2.out.free 2 1 (b:=w.heap.size+1+1) rfl rfl
  go_wp2
  have q:=Zu (HX2.out.block 2 (b:=w.heap.size+1+1) rfl rfl) (.string Zpa) (.string Zpa)
  have HBQ:=Zpe (Zs HB2.out (b:=w.heap.size+1+1) Za (.string Zpa) (.string Zpa))
  refine Zor (v:=.tuple #[Zpb Zpa Zpa,.int .i64 2]) (by simp[results,Tryz.f145,go_sem,q.1,q.2]) rfl ⟨_,_,_,rfl,.inl ⟨HK.out,rfl,rfl,rfl⟩,HBQ.out⟩
 ·skip
  have hnu:=(ZcV.1 (ZoY _ _ |>.mp hq).2).1
  have HZ:=Zpe (ZcN hnu)
  have dl:u.toList=u.data.toList:=ZoN ..
  clear hnu
  have HQ:Hid (Zbl s t u v=0):=Zda hq
  have HK:=Zpe hq
  have hq2:=hq
  rw[ZoY] at hq2
  have g1:=rok hq2.1
  have g2:=rok hq2.2
  obtain⟨n1,hn1⟩:=Zpg (Zq s.data.toList)
  obtain⟨d1,hd1⟩:=Zpg (Zq t.data.toList)
  obtain⟨n2,hn2⟩:=Zpg (Zq u.data.toList)
  obtain⟨d2,hd2⟩:=Zpg (Zq v.data.toList)
  rw[hn1,hd1] at g1
  rw[hn2,hd2] at g2
  have HPS:Hid (∀ W,Calls Tryz.prog 118 #[.string s] W (Zao W n1)):=fun W=>by rw[<- hn1];exact ZX s hs g1.ds W
  have HPT:Hid (∀ W,Calls Tryz.prog 118 #[.string t] W (Zao W d1)):=fun W=>by rw[<- hd1];exact ZX t ht g1.dt W
  have HPU:Hid (∀ W,Calls Tryz.prog 118 #[.string u] W (Zao W n2)):=fun W=>by rw[<- hn2];exact ZX u hu g2.ds W
  have HPV:Hid (∀ W,Calls Tryz.prog 118 #[.string v] W (Zao W d2)):=fun W=>by rw[<- hd2];exact ZX v hv g2.dt W
  have l1:=g1.ls
  have l2:=g1.lt
  have l3:=g2.ls
  have l4:=g2.lt
  have z1:=g1.pos
  have z2:=g2.pos
  rw[hn1,hd1,hn2,hd2]
  have HN:=Zpe (Zo5 hn1 (Zo5 hd1 (Zo5 hn2 hd2)))
  clear hq hq2 g1 g2 hn1 hd1 hn2 hd2
  rw[HN.out.2.2.1] at HZ
  rcases ZoF n2 with h0 | h0
  ·have hz:(u.toList==[48])=true:=by
    rw[dl,HZ.out.2 h0];rfl
   have H0:=Zpe h0
   clear h0 dl
   go_enter Tryz.func145,Tryz.ntmps145
   go_wp2_with fail
   obtain⟨w1,hw1⟩:=Zpg (((w.alloc (Zpc s t)).alloc (Zpc u v)).alloc (Zpc Zpa Zpa))
   rw[hw1]
   have HX1:Hid (Zv w.heap.size [Zpc s t,Zpc u v,Zpc Zpa Zpa] w1):=by rw[<- hw1];exact Zv.three w _ _ _
   have HB1:Zo8 w w1:=by rw[<- hw1];exact(((Zoq _ w).alloc Zpf _).alloc Zc _).alloc (by simp<;>omega) _
   clear hw1
   refine(ZaT s t u v _ hs ht hu hv).mono ?_
   rintro e w2 ⟨rfl,hb2⟩
   rw[HQ.out]
   have HX2:=Zpe (HX1.out.below hb2 HX1.out.lt)
   have HB2:=Zpe (HB1.out.trans (hb2.mono HB1.out.size))
   clear hb2
   have r0:=HX2.out.cell 2 0 (b:=w.heap.size+1+1) rfl rfl rfl
   have r1:=HX2.out.cell 2 1 (b:=w.heap.size+1+1) rfl rfl rfl
   have f0:=HX2.out.free 2 0 (b:=w.heap.size+1+1) rfl rfl
   have f1:=HX2.out.free 2 1 (b:=w.heap.size+1+1) rfl rfl
   have k2:=HX2.out.f4
   obtain⟨ka2,kb2,kc2,kd2⟩:=id k2
   go_wp2
   have q:=Zu (HX2.out.block 2 (b:=w.heap.size+1+1) rfl rfl) (.string Zpa) (.string Zpa)
   have HBQ:=Zpe (Zs HB2.out (b:=w.heap.size+1+1) Za (.string Zpa) (.string Zpa))
   refine Zor (v:=.tuple #[Zpb Zpa Zpa,.int .i64 10]) (by simp[results,Tryz.f145,go_sem,q.1,q.2]) rfl ⟨_,_,_,rfl,.inr ⟨HK.out,.inl ⟨H0.out,rfl,rfl,rfl⟩⟩,HBQ.out⟩
  have hz:(u.toList==[48])=false:=by
   rw[beq_eq_false_iff_ne,dl]
   intro hc
   have h1:n2=0:=HZ.out.1 (by rw[<- ZaZ u,hc];rfl)
   omega
  have HL1:Hid ((Zp 10000 (n1*d2)).length<=100000):=Zoz (ZaB l1 l4) Za
  have HL2:Hid ((Zp 10000 (d1*n2)).length<=100000):=Zoz (ZaB l2 l3) Za
  have HD0:Hid (0<d1*n2):=Nat.mul_pos z1 h0
  have H0:=Zpe h0
  clear h0 dl
  go_enter Tryz.func145,Tryz.ntmps145
  go_wp2_with fail
  obtain⟨w1,hw1⟩:=Zpg (((w.alloc (Zpc s t)).alloc (Zpc u v)).alloc (Zpc Zpa Zpa))
  rw[hw1]
  have HX1:Hid (Zv w.heap.size [Zpc s t,Zpc u v,Zpc Zpa Zpa] w1):=by rw[<- hw1];exact Zv.three w _ _ _
  have HB1:Zo8 w w1:=by rw[<- hw1];exact(((Zoq _ w).alloc Zpf _).alloc Zc _).alloc (by simp<;>omega) _
  clear hw1
  refine(ZaT s t u v _ hs ht hu hv).mono ?_
  rintro e w2 ⟨rfl,hb2⟩
  rw[HQ.out]
  have HX2:=Zpe (HX1.out.below hb2 HX1.out.lt)
  have HB2:=Zpe (HB1.out.trans (hb2.mono HB1.out.size))
  clear hb2
  have k2:=HX2.out.f4
  obtain⟨ka2,kb2,kc2,kd2⟩:=id k2
  go_wp2_with fail
  go_region_held3
   (fun w'=>w'.cell? ⟨w.heap.size,0,none⟩=some (.string s)/\w'.cell? ⟨w.heap.size,1,none⟩=some (.string t)/\w'.cell? ⟨w.heap.size+1,0,none⟩=some (.string u)/\w'.cell? ⟨w.heap.size+1,1,none⟩=some (.string v))
   (first | exact k1 | exact k2 | exact k3 | exact k4 | exact k5 | exact k6 | exact k7 | exact k8 | exact ZaQ Za Za k9 _ _ | exact k9)
   (first
    | (go_at_call_of 118 (Value.string s);refine(HPS.out _).mono ?_;rintro e w3 ⟨va,rfl,hv,hb⟩;obtain⟨pa,ma,ca,rfl⟩:=hv.form;have NA:=Zpe hv;have HX3:=Zpe (HX2.out.drew.below hb HX2.out.lt);have HB3:Zo8 w w3:=HB2.out.drew.trans (hb.mono HB2.out.drew.size);have k3:=HX3.out.f4;clear hv hb)
    | (go_at_call_of 118 (Value.string v);refine(HPV.out _).mono ?_;rintro e w4 ⟨vb,rfl,hv,hb⟩;obtain⟨pb,mb,cb,rfl⟩:=hv.form;have NB:=Zpe hv;have NA4:=Zpe (NA.out.after hb Zpf);have HX4:=Zpe (HX3.out.below hb HX3.out.lt);have HB4:Zo8 w w4:=HB3.out.trans (hb.mono HB3.out.size);have k4:=HX4.out.f4;clear hv hb)
    | (go_at_call_of 117 (Value.slice pa ma ca);refine(Zam NA4.out NB.out Za Za).mono ?_;rintro e w5 ⟨vc,rfl,hv,hb⟩;obtain⟨pc,mc,cc,rfl⟩:=hv.form;have NC:=Zpe hv;have HX5:=Zpe (HX4.out.below hb HX4.out.lt);have HB5:Zo8 w w5:=HB4.out.trans (hb.mono HB4.out.size);have k5:=HX5.out.f4;clear hv hb)
    | (go_at_call_of 118 (Value.string t);refine(HPT.out _).mono ?_;rintro e w6 ⟨vd,rfl,hv,hb⟩;obtain⟨pd,md,cd,rfl⟩:=hv.form;have ND:=Zpe hv;have NC6:=Zpe (NC.out.after hb Zpf);have HX6:=Zpe (HX5.out.below hb HX5.out.lt);have HB6:Zo8 w w6:=HB5.out.trans (hb.mono HB5.out.size);have k6:=HX6.out.f4;clear hv hb)
    | (go_at_call_of 118 (Value.string u);refine(HPU.out _).mono ?_;rintro e w7 ⟨ve,rfl,hv,hb⟩;obtain⟨pe,me,ce,rfl⟩:=hv.form;have NE:=Zpe hv;have NC7:=Zpe (NC6.out.after hb Zpf);have ND7:=Zpe (ND.out.after hb Zpf);have HX7:=Zpe (HX6.out.below hb HX6.out.lt);have HB7:Zo8 w w7:=HB6.out.trans (hb.mono HB6.out.size);have k7:=HX7.out.f4;clear hv hb)
    | (go_at_call_of 117 (Value.slice pd md cd);refine(Zam ND7.out NE.out Za Za).mono ?_;rintro e w8 ⟨vf,rfl,hv,hb⟩;obtain⟨pf,mf,cf,rfl⟩:=hv.form;have NF:=Zpe hv;have NC8:=Zpe (NC7.out.after hb Zpf);have HX8:=Zpe (HX7.out.below hb HX7.out.lt);have HB8:Zo8 w w8:=HB7.out.trans (hb.mono HB7.out.size);have k8:=HX8.out.f4;clear hv hb)
    | (go_at_call 141;refine(ZdI NC8.out NF.out HL1.out HL2.out HD0.out).mono ?_;rintro e w9 ⟨x,y,n,rfl,hR,hb9⟩;have HR:=Zpe hR;have HX9:=Zpe (HX8.out.below hb9 HX8.out.lt);have HB9:Zo8 w w9:=HB8.out.trans (hb9.mono HB8.out.size);have k9:=HX9.out.f4;have r0:=HX9.out.cell 2 0 (b:=w.heap.size+1+1) rfl rfl rfl;have r1:=HX9.out.cell 2 1 (b:=w.heap.size+1+1) rfl rfl rfl;have f0:=HX9.out.free 2 0 (b:=w.heap.size+1+1) rfl rfl;have f1:=HX9.out.free 2 1 (b:=w.heap.size+1+1) rfl rfl;clear hR hb9)
   )
  all_goals
   have q:=Zu (HX9.out.block 2 (b:=w.heap.size+1+1) rfl rfl) (.string x) (.string y)
   have HBQ:=Zpe (Zs HB9.out (b:=w.heap.size+1+1) Za (.string x) (.string y))
   obtain⟨wz,hwz⟩:=Zpg ((w9.setCell ⟨w.heap.size+1+1,0,none⟩ (.string x)).setCell ⟨w.heap.size+1+1,1,none⟩ (.string y))
   rw[hwz] at q HBQ
   obtain⟨q0,q1⟩:=q
   rw[hwz]
   clear r0 r1 f0 f1 hwz
   go_wp2
   refine Zor (v:=.tuple #[Zpb x y,.int .i64 n]) (by simp[results,Tryz.f145,go_sem,q0,q1]) rfl ⟨_,_,_,rfl,?_,HBQ.out⟩
   exact .inr ⟨HK.out,.inr ⟨H0.out,HR.out⟩⟩
theorem Znd {a b:Rat} (ha:0<=a) (hb:0<=b):sgnN (a.num.toNat*b.den) (b.num.toNat*a.den)=sgnR a b:=by
 rw[<- Zml ha hb (r:=sgnN (a.num.toNat*b.den) (b.num.toNat*a.den))]
 ·unfold sgnN;split<;>(try split)<;>rfl
 ·unfold Sign sgnN
  split
  ·refine⟨⟨fun _=>?_,fun _=>?_⟩,⟨fun h=>?_,fun h=>?_⟩,?_,?_⟩<;>omega
  ·split<;>(refine⟨⟨fun _=>?_,fun _=>?_⟩,⟨fun h=>?_,fun h=>?_⟩,?_,?_⟩<;>omega)
theorem Zi9 (s t u v:ByteArray) (w:World) (hs:s.size<=1000000) (ht:t.size<=1000000) (hu:u.size<=1000000) (hv:v.size<=1000000) :
  Calls Tryz.prog 56 #[Zpb s t,Zpb u v] w (ZiE s t u v w):=by
 cases hq:(okP s t && okP u v)
 ·have HQ:Hid (Zbl s t u v=2):=ZdO hq
  have HK:=Zpe hq
  clear hq
  go_enter Tryz.func56,Tryz.ntmps56
  go_wp2_with fail
  obtain⟨w1,hw1⟩:=Zpg ((w.alloc (Zpc s t)).alloc (Zpc u v))
  rw[hw1]
  have HX1:Hid (Zv w.heap.size [Zpc s t,Zpc u v] w1):=by rw[<- hw1];exact Zv.two w _ _
  have HB1:Zo8 w w1:=by rw[<- hw1];exact((Zoq _ w).alloc Zpf _).alloc Zc _
  clear hw1
  refine(ZaT s t u v _ hs ht hu hv).mono ?_
  rintro e w2 ⟨rfl,hb2⟩
  rw[HQ.out]
  have HX2:=Zpe (HX1.out.below hb2 HX1.out.lt)
  have HB2:=Zpe (HB1.out.trans (hb2.mono HB1.out.size))
  clear hb2
  go_wp2
  go_ret
  exact⟨0,rfl,.inl ⟨HK.out,rfl⟩,HB2.out⟩
 ·have hq2:=hq
  rw[ZoY] at hq2
  have HRN:Hid (sgnN (Zq s.data.toList*Zq v.data.toList) (Zq u.data.toList*Zq t.data.toList)=sgnR (ratP s t) (ratP u v)):=by
   obtain⟨a1,a2,a3⟩:=Za2 hq2.1
   obtain⟨b1,b2,b3⟩:=Za2 hq2.2
   show _=_
   rw[a2,a3,b2,b3]
   exact Znd a1 b1
  clear hq2
  have HQ:Hid (Zbl s t u v=0):=Zda hq
  have HK:=Zpe hq
  have hq2:=hq
  rw[ZoY] at hq2
  have g1:=rok hq2.1
  have g2:=rok hq2.2
  obtain⟨n1,hn1⟩:=Zpg (Zq s.data.toList)
  obtain⟨d1,hd1⟩:=Zpg (Zq t.data.toList)
  obtain⟨n2,hn2⟩:=Zpg (Zq u.data.toList)
  obtain⟨d2,hd2⟩:=Zpg (Zq v.data.toList)
  rw[hn1,hd1] at g1
  rw[hn2,hd2] at g2
  rw[hn1,hd1,hn2,hd2] at HRN
  have HPS:Hid (∀ W,Calls Tryz.prog 118 #[.string s] W (Zao W n1)):=fun W=>by rw[<- hn1];exact ZX s hs g1.ds W
  have HPT:Hid (∀ W,Calls Tryz.prog 118 #[.string t] W (Zao W d1)):=fun W=>by rw[<- hd1];exact ZX t ht g1.dt W
  have HPU:Hid (∀ W,Calls Tryz.prog 118 #[.string u] W (Zao W n2)):=fun W=>by rw[<- hn2];exact ZX u hu g2.ds W
  have HPV:Hid (∀ W,Calls Tryz.prog 118 #[.string v] W (Zao W d2)):=fun W=>by rw[<- hd2];exact ZX v hv g2.dt W
  have l1:=g1.ls
  have l2:=g1.lt
  have l3:=g2.ls
  have l4:=g2.lt
  have M1:Hid ((Zp 10000 (n1*d2)).length<=300):=Zoz (ZaB l1 l4) Za
  have M2:Hid ((Zp 10000 (n2*d1)).length<=300):=Zoz (ZaB l3 l2) Za
  clear hq hq2 g1 g2 hn1 hd1 hn2 hd2
  go_enter Tryz.func56,Tryz.ntmps56
  go_wp2_with fail
  obtain⟨w1,hw1⟩:=Zpg ((w.alloc (Zpc s t)).alloc (Zpc u v))
  rw[hw1]
  have HX1:Hid (Zv w.heap.size [Zpc s t,Zpc u v] w1):=by rw[<- hw1];exact Zv.two w _ _
  have HB1:Zo8 w w1:=by rw[<- hw1];exact((Zoq _ w).alloc Zpf _).alloc Zc _
  clear hw1
  refine(ZaT s t u v _ hs ht hu hv).mono ?_
  rintro e w2 ⟨rfl,hb2⟩
  rw[HQ.out]
  have HX2:=Zpe (HX1.out.below hb2 HX1.out.lt)
  have HB2:=Zpe (HB1.out.trans (hb2.mono HB1.out.size))
  clear hb2
  have k2:=HX2.out.f4
  obtain⟨ka2,kb2,kc2,kd2⟩:=id k2
  go_wp2_with fail
  go_region_held3
   (fun w'=>w'.cell? ⟨w.heap.size,0,none⟩=some (.string s)/\w'.cell? ⟨w.heap.size,1,none⟩=some (.string t)/\w'.cell? ⟨w.heap.size+1,0,none⟩=some (.string u)/\w'.cell? ⟨w.heap.size+1,1,none⟩=some (.string v))
   (first | exact k1 | exact k2 | exact k3 | exact k4 | exact k5 | exact k6 | exact k7 | exact k8 | exact ZaQ Za Za k9 _ _ | exact k9)
   (first
    | (go_at_call_of 118 (Value.string s);refine(HPS.out _).mono ?_;rintro e w3 ⟨va,rfl,hv,hb⟩;obtain⟨pa,ma,ca,rfl⟩:=hv.form;have NA:=Zpe hv;have HX3:=Zpe (HX2.out.drew.below hb HX2.out.lt);have HB3:Zo8 w w3:=HB2.out.drew.trans (hb.mono HB2.out.drew.size);have k3:=HX3.out.f4;clear hv hb)
    | (go_at_call_of 118 (Value.string v);refine(HPV.out _).mono ?_;rintro e w4 ⟨vb,rfl,hv,hb⟩;obtain⟨pb,mb,cb,rfl⟩:=hv.form;have NB:=Zpe hv;have NA4:=Zpe (NA.out.after hb Zpf);have HX4:=Zpe (HX3.out.below hb HX3.out.lt);have HB4:Zo8 w w4:=HB3.out.trans (hb.mono HB3.out.size);have k4:=HX4.out.f4;clear hv hb)
    | (go_at_call_of 117 (Value.slice pa ma ca);refine(Zam NA4.out NB.out Za Za).mono ?_;rintro e w5 ⟨vc,rfl,hv,hb⟩;obtain⟨pc,mc,cc,rfl⟩:=hv.form;have NC:=Zpe hv;have HX5:=Zpe (HX4.out.below hb HX4.out.lt);have HB5:Zo8 w w5:=HB4.out.trans (hb.mono HB4.out.size);have k5:=HX5.out.f4;clear hv hb)
    | (go_at_call_of 118 (Value.string u);refine(HPU.out _).mono ?_;rintro e w6 ⟨vd,rfl,hv,hb⟩;obtain⟨pd,md,cd,rfl⟩:=hv.form;have ND:=Zpe hv;have NC6:=Zpe (NC.out.after hb Zpf);have HX6:=Zpe (HX5.out.below hb HX5.out.lt);have HB6:Zo8 w w6:=HB5.out.trans (hb.mono HB5.out.size);have k6:=HX6.out.f4;clear hv hb)
    | (go_at_call_of 118 (Value.string t);refine(HPT.out _).mono ?_;rintro e w7 ⟨ve,rfl,hv,hb⟩;obtain⟨pe,me,ce,rfl⟩:=hv.form;have NE:=Zpe hv;have NC7:=Zpe (NC6.out.after hb Zpf);have ND7:=Zpe (ND.out.after hb Zpf);have HX7:=Zpe (HX6.out.below hb HX6.out.lt);have HB7:Zo8 w w7:=HB6.out.trans (hb.mono HB6.out.size);have k7:=HX7.out.f4;clear hv hb)
    | (go_at_call_of 117 (Value.slice pd md cd);refine(Zam ND7.out NE.out Za Za).mono ?_;rintro e w8 ⟨vf,rfl,hv,hb⟩;obtain⟨pf,mf,cf,rfl⟩:=hv.form;have NF:=Zpe hv;have NC8:=Zpe (NC7.out.after hb Zpf);have HX8:=Zpe (HX7.out.below hb HX7.out.lt);have HB8:Zo8 w w8:=HB7.out.trans (hb.mono HB7.out.size);have k8:=HX8.out.f4;clear hv hb)
    | (go_at_call 116;refine(ZdZ NC8.out NF.out (by have:=M1.out;omega) (by have:=M2.out;omega)).mono ?_;rintro e w9 ⟨rfl,hb⟩;have HX9:=Zpe (HX8.out.below hb HX8.out.lt);have HB9:Zo8 w w9:=HB8.out.trans (hb.mono HB8.out.size);have k9:=HX9.out.f4;clear hb)
   )
  go_wp2
  go_ret
  exact⟨_,by rw[HRN.out];rfl,.inr ⟨HK.out,rfl⟩,HB9.out⟩
abbrev oneS:ByteArray:=⟨#[49]⟩
theorem ZL.mono {R R':ByteArray->ByteArray->Int->Prop} {w w':World} {e:Ending} (h:ZL R w e w') (f:∀ x y n,R x y n->R' x y n):ZL R' w e w':=by
 obtain⟨x,y,n,h1,h2,h3⟩:=h
 exact⟨x,y,n,h1,f x y n h2,h3⟩
theorem ZmK (s t u v:ByteArray) (w:World) (hs:s.size<=1000000) (ht:t.size<=1000000) (hu:u.size<=1000000) (hv:v.size<=1000000) :
  Calls Tryz.prog 86 #[Zpb s t,Zpb u v] w (ZL (Bi s t u v (Ans (ratP s t*ratP u v))) w):=
 (Zom s t u v w hs ht hu hv).mono fun _ _ h=>h.mono fun _ _ _=>Zmi
theorem Zis (s t u v:ByteArray) (w:World) (hs:s.size<=1000000) (ht:t.size<=1000000) (hu:u.size<=1000000) (hv:v.size<=1000000) :
  Calls Tryz.prog 88 #[Zpb s t,Zpb u v] w (ZL (Bi s t u v (Ans (ratP s t+ratP u v))) w):=
 (Zn7 s t u v w hs ht hu hv).mono fun _ _ h=>h.mono fun _ _ _=>ZlN
theorem Zm6 (s t u v:ByteArray) (w:World) (hs:s.size<=1000000) (ht:t.size<=1000000) (hu:u.size<=1000000) (hv:v.size<=1000000) :
  Calls Tryz.prog 105 #[Zpb s t,Zpb u v] w (ZL (Bi s t u v (SubA (ratP s t) (ratP u v))) w):=
 (Zoh s t u v w hs ht hu hv).mono fun _ _ h=>h.mono fun _ _ _=>Zmq
theorem ZmT (s t u v:ByteArray) (w:World) (hs:s.size<=1000000) (ht:t.size<=1000000) (hu:u.size<=1000000) (hv:v.size<=1000000) :
  Calls Tryz.prog 145 #[Zpb s t,Zpb u v] w (ZL (Bi s t u v (DivA (ratP s t) (ratP u v))) w):=
 (Zog s t u v w hs ht hu hv).mono fun _ _ h=>h.mono fun _ _ _=>Zly
theorem ZiQ (w:World):Calls Tryz.prog 163 #[] w (ZV (pV oneS oneS) w):=by
 go_enter Tryz.func163,Tryz.ntmps163
 go_wp2
 have HB1:Hid (Below w.heap.size w (w.alloc (pObj oneS oneS))):=(Zoq _ w).alloc Zpf _
 have c0:=ZK w #[.string oneS,.string oneS] 41 0 rfl
 have c1:=ZK w #[.string oneS,.string oneS] 41 1 rfl
 refine Zor (v:=pV oneS oneS) (by simp[results,Tryz.f163,go_sem,c0,c1]) rfl ⟨rfl,HB1.out⟩
theorem ZiR (x y:ByteArray) (n:Int) (w:World):Calls Tryz.prog 34 #[pV x y,.int .i64 n,pV x y,.int .i64 n] w (Z3 w true):=by
 go_enter Tryz.func34,Tryz.ntmps34
 go_wp2
 go_ret
 exact⟨rfl,((Zoq _ w).alloc Zpf _).alloc Zc _⟩
theorem Zgr {q:Rat} {s t:ByteArray} {k:Nat} (h:IsP q s t) (hz:Sz k q) (h0:0<k):Zw k (s,t)=true:=by
 refine Zai.2 ⟨?_,?_,h.ok⟩
 ·show s.size<=k
  rw[h.num,Zaz]
  exact Z5 h0 hz.1
 ·show t.size<=k
  rw[h.den,Zaz]
  exact Z5 h0 hz.2
theorem Zif {bs:List BB} {q r:Rat} {k:Nat} (h:CurveP bs) (hq0:0<=q) (hz:Sz k q) (hr:ZY bs.length (cR bs) (hR bs) q r):Sz (k+109) r:=by
 obtain⟨i,hk,rfl⟩:=hr
 by_cases hi:i+1<bs.length
 ·have:=(ZiG h.conc' h.sizes.1 h.sizes.2 hq0 hz hi hk).2.2.2.2.2
  exact this.mono Za
 ·have e:lin bs.length (cR bs) (hR bs) i q=hR bs i:=by
   unfold lin slo
   rw[if_neg hi]
   grind
  rw[e]
  exact(h.sizes.2 i hk.1).mono Za
theorem ZlK {bs:List BB} {q:Rat} {k:Nat} (h:CurveP bs) (hq0:0<=q) (hz:Sz k q) (hk:k<=300):∃ r x y,ZY bs.length (cR bs) (hR bs) q r/\IsP r x y/\Sz (k+109) r/\0<=r/\r<=1:=by
 obtain⟨r,hr⟩:=Zee h q
 have hs:=Zif h hq0 hz hr
 have h0:=hr.nn h.conc' hq0
 obtain⟨x,y,hx⟩:=Zaa h0 hs Za Za
 exact⟨r,x,y,hr,hx,hs,h0,hr.top h.conc'⟩
theorem Zmk {v:Value} {bs:List BB} {w:World} {q r:Rat} {s t x y:ByteArray} (hv:BL w v bs) (hC:CurveP bs) (hz:LimB bs) (hq:IsP q s t) (hs:Sz 300 q) (hr:ZY bs.length (cR bs) (hR bs) q r) (hx:IsP r x y) (hD:DetV w) (hT:Tabs w) :
  Calls Tryz.prog 168 #[v,pV s t] w (ZV (.tuple #[pV x y,.int .i64 0]) w):=by
 refine(ZjO hv hz hq.limit.1 hq.limit.2 hD hT).mono ?_
 rintro e w' ⟨u,u2,n,rfl,h,hb⟩
 rcases h with ⟨h,_⟩ | ⟨_,rfl,r',h1,h2⟩
 ·exact Zo4 ⟨hC,Zgr hq hs Zd⟩ h
 ·rw[hq.rat] at h1
  obtain⟨e1,e2⟩:=Zcs h2 hx (h1.unique hr)
  subst e1 e2
  exact⟨rfl,hb⟩
end Go.Proofs.YtmpaflidennnoaaGreatDoor
