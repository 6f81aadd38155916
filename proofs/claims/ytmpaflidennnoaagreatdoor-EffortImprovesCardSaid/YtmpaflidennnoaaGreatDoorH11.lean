/- The parts RTwo, RTwo2, Not, DMiss, DSlope, ChanceTo, EffS, EffB. -/
import Derived.Test.YtmpaflidennnoaaGreatDoorH10
set_option maxRecDepth 100000
set_option maxHeartbeats 4000000
set_option linter.unusedVariables false
set_option linter.unusedSimpArgs false
namespace Go.Proofs.YtmpaflidennnoaaGreatDoor
open Go.RowKit Go.Shelf
attribute [local go_sem ↓] Go.wp_at_zero Go.wp_at_succ
theorem ZaV (s t u v:ByteArray) (w:World) (hs:s.size<=1000000) (ht:t.size<=1000000) (hu:u.size<=1000000) (hv:v.size<=1000000) :
  Calls Tryz.prog 115 #[Zpw s t,Zpw u v] w (ZfH w (Zbs s t u v)):=by
 obtain⟨c1,hc1⟩:=ZpB (okE s t)
 obtain⟨c2,hc2⟩:=ZpB (okE u v)
 have HM:Hid (max c1 c2=Zbs s t u v):=by show _=_;unfold Zbs;rw[hc1,hc2]
 have HC1:=Zpz hc1
 have HC2:=Zpz hc2
 clear hc1 hc2
 go_enter Tryz.func115,Tryz.ntmps115
 go_wp2_with fail
 obtain⟨w1,hw1⟩:=ZpB ((w.alloc (Zpx s t)).alloc (Zpx u v))
 rw[hw1]
 have HX1:Hid (Zv w.heap.size [Zpx s t,Zpx u v] w1):=by rw[<- hw1];exact Zv.two w _ _
 have HB1:Zpt w w1:=by rw[<- hw1];exact((ZoL _ w).alloc ZpA _).alloc Zc _
 clear hw1
 have k1:=HX1.out.f4
 obtain⟨ka1,kb1,kc1,kd1⟩:=id k1
 go_region_held3
  (fun w'=>w'.cell? ⟨w.heap.size,0,none⟩=some (.string s)/\w'.cell? ⟨w.heap.size,1,none⟩=some (.string t)/\w'.cell? ⟨w.heap.size+1,0,none⟩=some (.string u)/\w'.cell? ⟨w.heap.size+1,1,none⟩=some (.string v))
  (first | exact k1 | exact k2 | exact k3 | exact k4 | exact k5 | exact k6 | exact k7 | exact k8 | exact ZaW Za Za k9 _ _ | exact k9)
  (first
   | (go_at_call_of 142 (Value.agg #[.string s,.string t]);refine(ZbN s t _ hs ht).mono ?_;rintro e w2 ⟨rfl,hb⟩;rw[HC1.out];have HX2:=Zpz (HX1.out.drew.below hb HX1.out.lt);have HB2:Zpt w w2:=HB1.out.drew.trans (hb.mono HB1.out.size);have k2:=HX2.out.f4;clear hb)
   | (go_at_call_of 142 (Value.agg #[.string u,.string v]);refine(ZbN u v _ hu hv).mono ?_;rintro e w3 ⟨rfl,hb⟩;rw[HC2.out];have HX3:=Zpz (HX2.out.below hb HX2.out.lt);have HB3:Zpt w w3:=HB2.out.trans (hb.mono HB2.out.size);have k3:=HX3.out.f4;clear hb))
 go_wp2
 go_ret
 exact⟨by rw[<- HM.out];rfl,HB3.out⟩
theorem Zl6 {n m k:Nat} (h1:(Zp 10000 n).length<=k) (h2:(Zp 10000 m).length<=k):(Zp 10000 (n+m)).length<=k+1:=by
 refine Zac Za ?_
 have a1:=Z8 (ZJ (B:=10000) Za n)
 have a2:=Z8 (ZJ (B:=10000) Za m)
 rw[ZA Za] at a1 a2
 have b1:=ZoW (n:=10000) Za h1
 have b2:=ZoW (n:=10000) Za h2
 rw[Zpi]
 omega
theorem Zoz (s t u v:ByteArray) (w:World) (hs:s.size<=1000000) (ht:t.size<=1000000) (hu:u.size<=1000000) (hv:v.size<=1000000) :
  Calls Tryz.prog 86 #[Zpw s t,Zpw u v] w (ZL (Bi s t u v (Ans (mkRat ((Zq s.data.toList*Zq u.data.toList:Nat):Int) (Zq t.data.toList*Zq v.data.toList)))) w):=by
 cases hq:(okP s t && okP u v)
 ·skip
  have HQ:Hid (Zbs s t u v=2):=ZdW hq
  have HK:=Zpz hq
  clear hq
  go_enter Tryz.func86,Tryz.ntmps86
  go_wp2_with fail
  obtain⟨w1,hw1⟩:=ZpB (((w.alloc (Zpx s t)).alloc (Zpx u v)).alloc (Zpx Zpv Zpv))
  rw[hw1]
  have HX1:Hid (Zv w.heap.size [Zpx s t,Zpx u v,Zpx Zpv Zpv] w1):=by rw[<- hw1];exact Zv.three w _ _ _
  have HB1:Zpt w w1:=by rw[<- hw1];exact(((ZoL _ w).alloc ZpA _).alloc Zc _).alloc (by simp<;>omega) _
  clear hw1
  refine(ZaV s t u v _ hs ht hu hv).mono ?_
  rintro e w2 ⟨rfl,hb2⟩
  rw[HQ.out]
  have HX2:=Zpz (HX1.out.below hb2 HX1.out.lt)
  have HB2:=Zpz (HB1.out.trans (hb2.mono HB1.out.size))
  clear hb2
  have r0:=HX2.out.cell 2 0 (b:=w.heap.size+1+1) rfl rfl rfl
  have r1:=HX2.out.cell 2 1 (b:=w.heap.size+1+1) rfl rfl rfl
  have f0:=HX2.out.free 2 0 (b:=w.heap.size+1+1) rfl rfl
  have f1:=HX2.out.free 2 1 (b:=w.heap.size+1+1) rfl rfl
  go_wp2
  have q:=Zu (HX2.out.block 2 (b:=w.heap.size+1+1) rfl rfl) (.string Zpv) (.string Zpv)
  have HBQ:=Zpz (Zs HB2.out (b:=w.heap.size+1+1) Za (.string Zpv) (.string Zpv))
  refine ZoM (v:=.tuple #[Zpw Zpv Zpv,.int .i64 2]) (by simp[results,Tryz.f86,go_sem,q.1,q.2]) rfl ⟨_,_,_,rfl,.inl ⟨HK.out,rfl,rfl,rfl⟩,HBQ.out⟩
 ·skip
  have HQ:Hid (Zbs s t u v=0):=Zdc hq
  have HK:=Zpz hq
  have hq2:=hq
  rw[Zpj] at hq2
  have g1:=rok hq2.1
  have g2:=rok hq2.2
  obtain⟨n1,hn1⟩:=ZpB (Zq s.data.toList)
  obtain⟨d1,hd1⟩:=ZpB (Zq t.data.toList)
  obtain⟨n2,hn2⟩:=ZpB (Zq u.data.toList)
  obtain⟨d2,hd2⟩:=ZpB (Zq v.data.toList)
  rw[hn1,hd1] at g1
  rw[hn2,hd2] at g2
  have HPS:Hid (∀ W,Calls Tryz.prog 118 #[.string s] W (Zar W n1)):=fun W=>by rw[<- hn1];exact ZV s hs g1.ds W
  have HPT:Hid (∀ W,Calls Tryz.prog 118 #[.string t] W (Zar W d1)):=fun W=>by rw[<- hd1];exact ZV t ht g1.dt W
  have HPU:Hid (∀ W,Calls Tryz.prog 118 #[.string u] W (Zar W n2)):=fun W=>by rw[<- hn2];exact ZV u hu g2.ds W
  have HPV:Hid (∀ W,Calls Tryz.prog 118 #[.string v] W (Zar W d2)):=fun W=>by rw[<- hd2];exact ZV v hv g2.dt W
  have l1:=g1.ls
  have l2:=g1.lt
  have l3:=g2.ls
  have l4:=g2.lt
  have z1:=g1.pos
  have z2:=g2.pos
  rw[hn1,hd1,hn2,hd2]
  have HN:=Zpz (Zpq hn1 (Zpq hd1 (Zpq hn2 hd2)))
  clear hq hq2 g1 g2 hn1 hd1 hn2 hd2
  have HL1:Hid ((Zp 10000 (n1*n2)).length<=100000):=ZoU (ZaB l1 l3) Za
  have HL2:Hid ((Zp 10000 (d1*d2)).length<=100000):=ZoU (ZaB l2 l4) Za
  have HD0:Hid (0<d1*d2):=Nat.mul_pos z1 z2
  go_enter Tryz.func86,Tryz.ntmps86
  go_wp2_with fail
  obtain⟨w1,hw1⟩:=ZpB (((w.alloc (Zpx s t)).alloc (Zpx u v)).alloc (Zpx Zpv Zpv))
  rw[hw1]
  have HX1:Hid (Zv w.heap.size [Zpx s t,Zpx u v,Zpx Zpv Zpv] w1):=by rw[<- hw1];exact Zv.three w _ _ _
  have HB1:Zpt w w1:=by rw[<- hw1];exact(((ZoL _ w).alloc ZpA _).alloc Zc _).alloc (by simp<;>omega) _
  clear hw1
  refine(ZaV s t u v _ hs ht hu hv).mono ?_
  rintro e w2 ⟨rfl,hb2⟩
  rw[HQ.out]
  have HX2:=Zpz (HX1.out.below hb2 HX1.out.lt)
  have HB2:=Zpz (HB1.out.trans (hb2.mono HB1.out.size))
  clear hb2
  have k2:=HX2.out.f4
  obtain⟨ka2,kb2,kc2,kd2⟩:=id k2
  go_wp2_with fail
  go_region_held3
   (fun w'=>w'.cell? ⟨w.heap.size,0,none⟩=some (.string s)/\w'.cell? ⟨w.heap.size,1,none⟩=some (.string t)/\w'.cell? ⟨w.heap.size+1,0,none⟩=some (.string u)/\w'.cell? ⟨w.heap.size+1,1,none⟩=some (.string v))
   (first | exact k1 | exact k2 | exact k3 | exact k4 | exact k5 | exact k6 | exact k7 | exact k8 | exact ZaW Za Za k9 _ _ | exact k9)
   (first
    | (go_at_call_of 118 (Value.string s);refine(HPS.out _).mono ?_;rintro e w3 ⟨va,rfl,hv,hb⟩;obtain⟨pa,ma,ca,rfl⟩:=hv.form;have NA:=Zpz hv;have HX3:=Zpz (HX2.out.drew.below hb HX2.out.lt);have HB3:Zpt w w3:=HB2.out.drew.trans (hb.mono HB2.out.drew.size);have k3:=HX3.out.f4;clear hv hb)
    | (go_at_call_of 118 (Value.string u);refine(HPU.out _).mono ?_;rintro e w4 ⟨vb,rfl,hv,hb⟩;obtain⟨pb,mb,cb,rfl⟩:=hv.form;have NB:=Zpz hv;have NA4:=Zpz (NA.out.after hb ZpA);have HX4:=Zpz (HX3.out.below hb HX3.out.lt);have HB4:Zpt w w4:=HB3.out.trans (hb.mono HB3.out.size);have k4:=HX4.out.f4;clear hv hb)
    | (go_at_call_of 117 (Value.slice pa ma ca);refine(Zap NA4.out NB.out Za Za).mono ?_;rintro e w5 ⟨vc,rfl,hv,hb⟩;obtain⟨pc,mc,cc,rfl⟩:=hv.form;have NC:=Zpz hv;have HX5:=Zpz (HX4.out.below hb HX4.out.lt);have HB5:Zpt w w5:=HB4.out.trans (hb.mono HB4.out.size);have k5:=HX5.out.f4;clear hv hb)
    | (go_at_call_of 118 (Value.string t);refine(HPT.out _).mono ?_;rintro e w6 ⟨vd,rfl,hv,hb⟩;obtain⟨pd,md,cd,rfl⟩:=hv.form;have ND:=Zpz hv;have NC6:=Zpz (NC.out.after hb ZpA);have HX6:=Zpz (HX5.out.below hb HX5.out.lt);have HB6:Zpt w w6:=HB5.out.trans (hb.mono HB5.out.size);have k6:=HX6.out.f4;clear hv hb)
    | (go_at_call_of 118 (Value.string v);refine(HPV.out _).mono ?_;rintro e w7 ⟨ve,rfl,hv,hb⟩;obtain⟨pe,me,ce,rfl⟩:=hv.form;have NE:=Zpz hv;have NC7:=Zpz (NC6.out.after hb ZpA);have ND7:=Zpz (ND.out.after hb ZpA);have HX7:=Zpz (HX6.out.below hb HX6.out.lt);have HB7:Zpt w w7:=HB6.out.trans (hb.mono HB6.out.size);have k7:=HX7.out.f4;clear hv hb)
    | (go_at_call_of 117 (Value.slice pd md cd);refine(Zap ND7.out NE.out Za Za).mono ?_;rintro e w8 ⟨vf,rfl,hv,hb⟩;obtain⟨pf,mf,cf,rfl⟩:=hv.form;have NF:=Zpz hv;have NC8:=Zpz (NC7.out.after hb ZpA);have HX8:=Zpz (HX7.out.below hb HX7.out.lt);have HB8:Zpt w w8:=HB7.out.trans (hb.mono HB7.out.size);have k8:=HX8.out.f4;clear hv hb)
    | (go_at_call 141;refine(ZdV NC8.out NF.out HL1.out HL2.out HD0.out).mono ?_;rintro e w9 ⟨x,y,n,rfl,hR,hb9⟩;have HR:=Zpz hR;have HX9:=Zpz (HX8.out.below hb9 HX8.out.lt);have HB9:Zpt w w9:=HB8.out.trans (hb9.mono HB8.out.size);have k9:=HX9.out.f4;have r0:=HX9.out.cell 2 0 (b:=w.heap.size+1+1) rfl rfl rfl;have r1:=HX9.out.cell 2 1 (b:=w.heap.size+1+1) rfl rfl rfl;have f0:=HX9.out.free 2 0 (b:=w.heap.size+1+1) rfl rfl;have f1:=HX9.out.free 2 1 (b:=w.heap.size+1+1) rfl rfl;clear hR hb9)
   )
  all_goals
   have q:=Zu (HX9.out.block 2 (b:=w.heap.size+1+1) rfl rfl) (.string x) (.string y)
   have HBQ:=Zpz (Zs HB9.out (b:=w.heap.size+1+1) Za (.string x) (.string y))
   obtain⟨wz,hwz⟩:=ZpB ((w9.setCell ⟨w.heap.size+1+1,0,none⟩ (.string x)).setCell ⟨w.heap.size+1+1,1,none⟩ (.string y))
   rw[hwz] at q HBQ
   obtain⟨q0,q1⟩:=q
   rw[hwz]
   clear r0 r1 f0 f1 hwz
   go_wp2
   refine ZoM (v:=.tuple #[Zpw x y,.int .i64 n]) (by simp[results,Tryz.f86,go_sem,q0,q1]) rfl ⟨_,_,_,rfl,?_,HBQ.out⟩
   exact .inr ⟨HK.out,HR.out⟩
theorem ZoG (s t u v:ByteArray) (w:World) (hs:s.size<=1000000) (ht:t.size<=1000000) (hu:u.size<=1000000) (hv:v.size<=1000000) :
  Calls Tryz.prog 88 #[Zpw s t,Zpw u v] w (ZL (Bi s t u v (Ans (mkRat ((Zq s.data.toList*Zq v.data.toList+Zq u.data.toList*Zq t.data.toList:Nat):Int) (Zq t.data.toList*Zq v.data.toList)))) w):=by
 cases hq:(okP s t && okP u v)
 ·skip
  have HQ:Hid (Zbs s t u v=2):=ZdW hq
  have HK:=Zpz hq
  clear hq
  go_enter Tryz.func88,Tryz.ntmps88
  go_wp2_with fail
  obtain⟨w1,hw1⟩:=ZpB (((w.alloc (Zpx s t)).alloc (Zpx u v)).alloc (Zpx Zpv Zpv))
  rw[hw1]
  have HX1:Hid (Zv w.heap.size [Zpx s t,Zpx u v,Zpx Zpv Zpv] w1):=by rw[<- hw1];exact Zv.three w _ _ _
  have HB1:Zpt w w1:=by rw[<- hw1];exact(((ZoL _ w).alloc ZpA _).alloc Zc _).alloc (by simp<;>omega) _
  clear hw1
  refine(ZaV s t u v _ hs ht hu hv).mono ?_
  rintro e w2 ⟨rfl,hb2⟩
  rw[HQ.out]
  have HX2:=Zpz (HX1.out.below hb2 HX1.out.lt)
  have HB2:=Zpz (HB1.out.trans (hb2.mono HB1.out.size))
  clear hb2
  have r0:=HX2.out.cell 2 0 (b:=w.heap.size+1+1) rfl rfl rfl
  have r1:=HX2.out.cell 2 1 (b:=w.heap.size+1+1) rfl rfl rfl
  have f0:=HX2.out.free 2 0 (b:=w.heap.size+1+1) rfl rfl
  have f1:=HX2.out.free 2 1 (b:=w.heap.size+1+1) rfl rfl
  go_wp2
  have q:=Zu (HX2.out.block 2 (b:=w.heap.size+1+1) rfl rfl) (.string Zpv) (.string Zpv)
  have HBQ:=Zpz (Zs HB2.out (b:=w.heap.size+1+1) Za (.string Zpv) (.string Zpv))
  refine ZoM (v:=.tuple #[Zpw Zpv Zpv,.int .i64 2]) (by simp[results,Tryz.f88,go_sem,q.1,q.2]) rfl ⟨_,_,_,rfl,.inl ⟨HK.out,rfl,rfl,rfl⟩,HBQ.out⟩
 ·skip
  have HQ:Hid (Zbs s t u v=0):=Zdc hq
  have HK:=Zpz hq
  have hq2:=hq
  rw[Zpj] at hq2
  have g1:=rok hq2.1
  have g2:=rok hq2.2
  obtain⟨n1,hn1⟩:=ZpB (Zq s.data.toList)
  obtain⟨d1,hd1⟩:=ZpB (Zq t.data.toList)
  obtain⟨n2,hn2⟩:=ZpB (Zq u.data.toList)
  obtain⟨d2,hd2⟩:=ZpB (Zq v.data.toList)
  rw[hn1,hd1] at g1
  rw[hn2,hd2] at g2
  have HPS:Hid (∀ W,Calls Tryz.prog 118 #[.string s] W (Zar W n1)):=fun W=>by rw[<- hn1];exact ZV s hs g1.ds W
  have HPT:Hid (∀ W,Calls Tryz.prog 118 #[.string t] W (Zar W d1)):=fun W=>by rw[<- hd1];exact ZV t ht g1.dt W
  have HPU:Hid (∀ W,Calls Tryz.prog 118 #[.string u] W (Zar W n2)):=fun W=>by rw[<- hn2];exact ZV u hu g2.ds W
  have HPV:Hid (∀ W,Calls Tryz.prog 118 #[.string v] W (Zar W d2)):=fun W=>by rw[<- hd2];exact ZV v hv g2.dt W
  have l1:=g1.ls
  have l2:=g1.lt
  have l3:=g2.ls
  have l4:=g2.lt
  have z1:=g1.pos
  have z2:=g2.pos
  rw[hn1,hd1,hn2,hd2]
  have HN:=Zpz (Zpq hn1 (Zpq hd1 (Zpq hn2 hd2)))
  clear hq hq2 g1 g2 hn1 hd1 hn2 hd2
  have M1:Hid ((Zp 10000 (n1*d2)).length<=300):=ZoU (ZaB l1 l4) Za
  have M2:Hid ((Zp 10000 (n2*d1)).length<=300):=ZoU (ZaB l3 l2) Za
  have HL2:Hid ((Zp 10000 (d1*d2)).length<=100000):=ZoU (ZaB l2 l4) Za
  have HD0:Hid (0<d1*d2):=Nat.mul_pos z1 z2
  have HL1:Hid ((Zp 10000 (n1*d2+n2*d1)).length<=100000):=ZoU (Zl6 M1.out M2.out) Za
  go_enter Tryz.func88,Tryz.ntmps88
  go_wp2_with fail
  obtain⟨w1,hw1⟩:=ZpB (((w.alloc (Zpx s t)).alloc (Zpx u v)).alloc (Zpx Zpv Zpv))
  rw[hw1]
  have HX1:Hid (Zv w.heap.size [Zpx s t,Zpx u v,Zpx Zpv Zpv] w1):=by rw[<- hw1];exact Zv.three w _ _ _
  have HB1:Zpt w w1:=by rw[<- hw1];exact(((ZoL _ w).alloc ZpA _).alloc Zc _).alloc (by simp<;>omega) _
  clear hw1
  refine(ZaV s t u v _ hs ht hu hv).mono ?_
  rintro e w2 ⟨rfl,hb2⟩
  rw[HQ.out]
  have HX2:=Zpz (HX1.out.below hb2 HX1.out.lt)
  have HB2:=Zpz (HB1.out.trans (hb2.mono HB1.out.size))
  clear hb2
  have k2:=HX2.out.f4
  obtain⟨ka2,kb2,kc2,kd2⟩:=id k2
  go_wp2_with fail
  go_region_held3
   (fun w'=>w'.cell? ⟨w.heap.size,0,none⟩=some (.string s)/\w'.cell? ⟨w.heap.size,1,none⟩=some (.string t)/\w'.cell? ⟨w.heap.size+1,0,none⟩=some (.string u)/\w'.cell? ⟨w.heap.size+1,1,none⟩=some (.string v))
   (first | exact k1 | exact k2 | exact k3 | exact k4 | exact k5 | exact k6 | exact k7 | exact k8 | exact ZaW Za Za k9 _ _ | exact k9)
   (first
    | (go_at_call_of 118 (Value.string s);refine(HPS.out _).mono ?_;rintro e w3 ⟨va,rfl,hv,hb⟩;obtain⟨pa,ma,ca,rfl⟩:=hv.form;have NA:=Zpz hv;have HX3:=Zpz (HX2.out.drew.below hb HX2.out.lt);have HB3:Zpt w w3:=HB2.out.drew.trans (hb.mono HB2.out.drew.size);have k3:=HX3.out.f4;clear hv hb)
    | (go_at_call_of 118 (Value.string v);refine(HPV.out _).mono ?_;rintro e w4 ⟨vb,rfl,hv,hb⟩;obtain⟨pb,mb,cb,rfl⟩:=hv.form;have NB:=Zpz hv;have NA4:=Zpz (NA.out.after hb ZpA);have HX4:=Zpz (HX3.out.below hb HX3.out.lt);have HB4:Zpt w w4:=HB3.out.trans (hb.mono HB3.out.size);have k4:=HX4.out.f4;clear hv hb)
    | (go_at_call_of 117 (Value.slice pa ma ca);refine(Zap NA4.out NB.out Za Za).mono ?_;rintro e w5 ⟨vc,rfl,hv,hb⟩;obtain⟨pc,mc,cc,rfl⟩:=hv.form;have NC:=Zpz hv;have HX5:=Zpz (HX4.out.below hb HX4.out.lt);have HB5:Zpt w w5:=HB4.out.trans (hb.mono HB4.out.size);have k5:=HX5.out.f4;clear hv hb)
   )
  go_wp2_with fail
  go_region_held3
   (fun w'=>w'.cell? ⟨w.heap.size,0,none⟩=some (.string s)/\w'.cell? ⟨w.heap.size,1,none⟩=some (.string t)/\w'.cell? ⟨w.heap.size+1,0,none⟩=some (.string u)/\w'.cell? ⟨w.heap.size+1,1,none⟩=some (.string v))
   (first | exact k1 | exact k2 | exact k3 | exact k4 | exact k5 | exact k6 | exact k7 | exact k8 | exact ZaW Za Za k9 _ _ | exact k9)
   (first
    | (go_at_call_of 118 (Value.string u);refine(HPU.out _).mono ?_;rintro e w6 ⟨vd,rfl,hv,hb⟩;obtain⟨pd,md,cd,rfl⟩:=hv.form;have ND:=Zpz hv;have NC6:=Zpz (PNum.after (w:=w5.drew) NC.out hb ZpA);have HX6:=Zpz (HX5.out.drew.below hb HX5.out.lt);have HB6:Zpt w w6:=HB5.out.drew.trans (hb.mono HB5.out.drew.size);have k6:=HX6.out.f4;clear hv hb)
    | (go_at_call_of 118 (Value.string t);refine(HPT.out _).mono ?_;rintro e w7 ⟨ve,rfl,hv,hb⟩;obtain⟨pe,me,ce,rfl⟩:=hv.form;have NE:=Zpz hv;have NC7:=Zpz (NC6.out.after hb ZpA);have ND7:=Zpz (ND.out.after hb ZpA);have HX7:=Zpz (HX6.out.below hb HX6.out.lt);have HB7:Zpt w w7:=HB6.out.trans (hb.mono HB6.out.size);have k7:=HX7.out.f4;clear hv hb)
    | (go_at_call_of 117 (Value.slice pd md cd);refine(Zap ND7.out NE.out Za Za).mono ?_;rintro e w8 ⟨vf,rfl,hv,hb⟩;obtain⟨pf,mf,cf,rfl⟩:=hv.form;have NF:=Zpz hv;have NC8:=Zpz (NC7.out.after hb ZpA);have HX8:=Zpz (HX7.out.below hb HX7.out.lt);have HB8:Zpt w w8:=HB7.out.trans (hb.mono HB7.out.size);have k8:=HX8.out.f4;clear hv hb)
   )
  go_wp2_with fail
  go_region_held3
   (fun w'=>w'.cell? ⟨w.heap.size,0,none⟩=some (.string s)/\w'.cell? ⟨w.heap.size,1,none⟩=some (.string t)/\w'.cell? ⟨w.heap.size+1,0,none⟩=some (.string u)/\w'.cell? ⟨w.heap.size+1,1,none⟩=some (.string v))
   (first | exact k1 | exact k2 | exact k3 | exact k4 | exact k5 | exact k6 | exact k7 | exact k8 | exact ZaW Za Za k9 _ _ | exact k9)
   (first
    | (go_at_call_of 143 (Value.slice pc mc cc);refine(Zmk (NC8.out.after (ZoL w8.heap.size w8).drew ZpA) (NF.out.after (ZoL w8.heap.size w8).drew ZpA) (by have:=M1.out;omega) (by have:=M2.out;omega)).mono ?_;rintro e w11 ⟨vg,rfl,hv,hb⟩;obtain⟨pg,mg,cg,rfl⟩:=hv.form;have NG:=Zpz hv;have HX11:=Zpz (HX8.out.drew.below hb HX8.out.lt);have HB11:Zpt w w11:=HB8.out.drew.trans (hb.mono HB8.out.drew.size);have k3:=HX11.out.f4;clear hv hb)
    | (go_at_call_of 118 (Value.string t);refine(HPT.out _).mono ?_;rintro e w12 ⟨vh,rfl,hv,hb⟩;obtain⟨ph,mh,ch,rfl⟩:=hv.form;have NH:=Zpz hv;have NG12:=Zpz (NG.out.after hb ZpA);have HX12:=Zpz (HX11.out.below hb HX11.out.lt);have HB12:Zpt w w12:=HB11.out.trans (hb.mono HB11.out.size);have k4:=HX12.out.f4;clear hv hb)
    | (go_at_call_of 118 (Value.string v);refine(HPV.out _).mono ?_;rintro e w13 ⟨vi,rfl,hv,hb⟩;obtain⟨pi,mi,ci,rfl⟩:=hv.form;have NI:=Zpz hv;have NG13:=Zpz (NG12.out.after hb ZpA);have NH13:=Zpz (NH.out.after hb ZpA);have HX13:=Zpz (HX12.out.below hb HX12.out.lt);have HB13:Zpt w w13:=HB12.out.trans (hb.mono HB12.out.size);have k5:=HX13.out.f4;clear hv hb)
    | (go_at_call_of 117 (Value.slice ph mh ch);refine(Zap NH13.out NI.out Za Za).mono ?_;rintro e w14 ⟨vj,rfl,hv,hb⟩;obtain⟨pj,mj,cj,rfl⟩:=hv.form;have NJ:=Zpz hv;have NG14:=Zpz (NG13.out.after hb ZpA);have HX14:=Zpz (HX13.out.below hb HX13.out.lt);have HB14:Zpt w w14:=HB13.out.trans (hb.mono HB13.out.size);have k6:=HX14.out.f4;clear hv hb)
    | (go_at_call 141;refine(ZdV NG14.out NJ.out HL1.out HL2.out HD0.out).mono ?_;rintro e w9 ⟨x,y,n,rfl,hR,hb9⟩;have HR:=Zpz hR;have HX9:=Zpz (HX14.out.below hb9 HX14.out.lt);have HB9:Zpt w w9:=HB14.out.trans (hb9.mono HB14.out.size);have k9:=HX9.out.f4;have r0:=HX9.out.cell 2 0 (b:=w.heap.size+1+1) rfl rfl rfl;have r1:=HX9.out.cell 2 1 (b:=w.heap.size+1+1) rfl rfl rfl;have f0:=HX9.out.free 2 0 (b:=w.heap.size+1+1) rfl rfl;have f1:=HX9.out.free 2 1 (b:=w.heap.size+1+1) rfl rfl;clear hR hb9)
   )
  all_goals
   have q:=Zu (HX9.out.block 2 (b:=w.heap.size+1+1) rfl rfl) (.string x) (.string y)
   have HBQ:=Zpz (Zs HB9.out (b:=w.heap.size+1+1) Za (.string x) (.string y))
   obtain⟨wz,hwz⟩:=ZpB ((w9.setCell ⟨w.heap.size+1+1,0,none⟩ (.string x)).setCell ⟨w.heap.size+1+1,1,none⟩ (.string y))
   rw[hwz] at q HBQ
   obtain⟨q0,q1⟩:=q
   rw[hwz]
   clear r0 r1 f0 f1 hwz
   go_wp2
   refine ZoM (v:=.tuple #[Zpw x y,.int .i64 n]) (by simp[results,Tryz.f88,go_sem,q0,q1]) rfl ⟨_,_,_,rfl,?_,HBQ.out⟩
   exact .inr ⟨HK.out,HR.out⟩
theorem Zop (s t u v:ByteArray) (w:World) (hs:s.size<=1000000) (ht:t.size<=1000000) (hu:u.size<=1000000) (hv:v.size<=1000000) :
  Calls Tryz.prog 105 #[Zpw s t,Zpw u v] w (ZL (Bi s t u v (SubR (Zq s.data.toList) (Zq t.data.toList) (Zq u.data.toList) (Zq v.data.toList))) w):=by
 cases hq:(okP s t && okP u v)
 ·skip
  have HQ:Hid (Zbs s t u v=2):=ZdW hq
  have HK:=Zpz hq
  clear hq
  go_enter Tryz.func105,Tryz.ntmps105
  go_wp2_with fail
  obtain⟨w1,hw1⟩:=ZpB (((w.alloc (Zpx s t)).alloc (Zpx u v)).alloc (Zpx Zpv Zpv))
  rw[hw1]
  have HX1:Hid (Zv w.heap.size [Zpx s t,Zpx u v,Zpx Zpv Zpv] w1):=by rw[<- hw1];exact Zv.three w _ _ _
  have HB1:Zpt w w1:=by rw[<- hw1];exact(((ZoL _ w).alloc ZpA _).alloc Zc _).alloc (by simp<;>omega) _
  clear hw1
  refine(ZaV s t u v _ hs ht hu hv).mono ?_
  rintro e w2 ⟨rfl,hb2⟩
  rw[HQ.out]
  have HX2:=Zpz (HX1.out.below hb2 HX1.out.lt)
  have HB2:=Zpz (HB1.out.trans (hb2.mono HB1.out.size))
  clear hb2
  have r0:=HX2.out.cell 2 0 (b:=w.heap.size+1+1) rfl rfl rfl
  have r1:=HX2.out.cell 2 1 (b:=w.heap.size+1+1) rfl rfl rfl
  have f0:=HX2.out.free 2 0 (b:=w.heap.size+1+1) rfl rfl
  have f1:=HX2.out.free 2 1 (b:=w.heap.size+1+1) rfl rfl
  go_wp2
  have q:=Zu (HX2.out.block 2 (b:=w.heap.size+1+1) rfl rfl) (.string Zpv) (.string Zpv)
  have HBQ:=Zpz (Zs HB2.out (b:=w.heap.size+1+1) Za (.string Zpv) (.string Zpv))
  refine ZoM (v:=.tuple #[Zpw Zpv Zpv,.int .i64 2]) (by simp[results,Tryz.f105,go_sem,q.1,q.2]) rfl ⟨_,_,_,rfl,.inl ⟨HK.out,rfl,rfl,rfl⟩,HBQ.out⟩
 ·skip
  have HQ:Hid (Zbs s t u v=0):=Zdc hq
  have HK:=Zpz hq
  have hq2:=hq
  rw[Zpj] at hq2
  have g1:=rok hq2.1
  have g2:=rok hq2.2
  obtain⟨n1,hn1⟩:=ZpB (Zq s.data.toList)
  obtain⟨d1,hd1⟩:=ZpB (Zq t.data.toList)
  obtain⟨n2,hn2⟩:=ZpB (Zq u.data.toList)
  obtain⟨d2,hd2⟩:=ZpB (Zq v.data.toList)
  rw[hn1,hd1] at g1
  rw[hn2,hd2] at g2
  have HPS:Hid (∀ W,Calls Tryz.prog 118 #[.string s] W (Zar W n1)):=fun W=>by rw[<- hn1];exact ZV s hs g1.ds W
  have HPT:Hid (∀ W,Calls Tryz.prog 118 #[.string t] W (Zar W d1)):=fun W=>by rw[<- hd1];exact ZV t ht g1.dt W
  have HPU:Hid (∀ W,Calls Tryz.prog 118 #[.string u] W (Zar W n2)):=fun W=>by rw[<- hn2];exact ZV u hu g2.ds W
  have HPV:Hid (∀ W,Calls Tryz.prog 118 #[.string v] W (Zar W d2)):=fun W=>by rw[<- hd2];exact ZV v hv g2.dt W
  have l1:=g1.ls
  have l2:=g1.lt
  have l3:=g2.ls
  have l4:=g2.lt
  have z1:=g1.pos
  have z2:=g2.pos
  rw[hn1,hd1,hn2,hd2]
  have HN:=Zpz (Zpq hn1 (Zpq hd1 (Zpq hn2 hd2)))
  clear hq hq2 g1 g2 hn1 hd1 hn2 hd2
  have M1:Hid ((Zp 10000 (n1*d2)).length<=300):=ZoU (ZaB l1 l4) Za
  have M2:Hid ((Zp 10000 (n2*d1)).length<=300):=ZoU (ZaB l3 l2) Za
  have HL2:Hid ((Zp 10000 (d1*d2)).length<=100000):=ZoU (ZaB l2 l4) Za
  have HD0:Hid (0<d1*d2):=Nat.mul_pos z1 z2
  have HL1:Hid ((Zp 10000 (n1*d2-n2*d1)).length<=100000):=ZoU (ZN Za (Nat.sub_le _ _)) (by have:=M1.out;omega)
  go_enter Tryz.func105,Tryz.ntmps105
  go_wp2_with fail
  obtain⟨w1,hw1⟩:=ZpB (((w.alloc (Zpx s t)).alloc (Zpx u v)).alloc (Zpx Zpv Zpv))
  rw[hw1]
  have HX1:Hid (Zv w.heap.size [Zpx s t,Zpx u v,Zpx Zpv Zpv] w1):=by rw[<- hw1];exact Zv.three w _ _ _
  have HB1:Zpt w w1:=by rw[<- hw1];exact(((ZoL _ w).alloc ZpA _).alloc Zc _).alloc (by simp<;>omega) _
  clear hw1
  refine(ZaV s t u v _ hs ht hu hv).mono ?_
  rintro e w2 ⟨rfl,hb2⟩
  rw[HQ.out]
  have HX2:=Zpz (HX1.out.below hb2 HX1.out.lt)
  have HB2:=Zpz (HB1.out.trans (hb2.mono HB1.out.size))
  clear hb2
  have k2:=HX2.out.f4
  obtain⟨ka2,kb2,kc2,kd2⟩:=id k2
  go_wp2_with fail
  go_region_held3
   (fun w'=>w'.cell? ⟨w.heap.size,0,none⟩=some (.string s)/\w'.cell? ⟨w.heap.size,1,none⟩=some (.string t)/\w'.cell? ⟨w.heap.size+1,0,none⟩=some (.string u)/\w'.cell? ⟨w.heap.size+1,1,none⟩=some (.string v))
   (first | exact k1 | exact k2 | exact k3 | exact k4 | exact k5 | exact k6 | exact k7 | exact k8 | exact ZaW Za Za k9 _ _ | exact k9)
   (first
    | (go_at_call_of 118 (Value.string s);refine(HPS.out _).mono ?_;rintro e w3 ⟨va,rfl,hv,hb⟩;obtain⟨pa,ma,ca,rfl⟩:=hv.form;have NA:=Zpz hv;have HX3:=Zpz (HX2.out.drew.below hb HX2.out.lt);have HB3:Zpt w w3:=HB2.out.drew.trans (hb.mono HB2.out.drew.size);have k3:=HX3.out.f4;clear hv hb)
    | (go_at_call_of 118 (Value.string v);refine(HPV.out _).mono ?_;rintro e w4 ⟨vb,rfl,hv,hb⟩;obtain⟨pb,mb,cb,rfl⟩:=hv.form;have NB:=Zpz hv;have NA4:=Zpz (NA.out.after hb ZpA);have HX4:=Zpz (HX3.out.below hb HX3.out.lt);have HB4:Zpt w w4:=HB3.out.trans (hb.mono HB3.out.size);have k4:=HX4.out.f4;clear hv hb)
    | (go_at_call_of 117 (Value.slice pa ma ca);refine(Zap NA4.out NB.out Za Za).mono ?_;rintro e w5 ⟨vc,rfl,hv,hb⟩;obtain⟨pc,mc,cc,rfl⟩:=hv.form;have NC:=Zpz hv;have HX5:=Zpz (HX4.out.below hb HX4.out.lt);have HB5:Zpt w w5:=HB4.out.trans (hb.mono HB4.out.size);have k5:=HX5.out.f4;clear hv hb)
   )
  go_wp2_with fail
  go_region_held3
   (fun w'=>w'.cell? ⟨w.heap.size,0,none⟩=some (.string s)/\w'.cell? ⟨w.heap.size,1,none⟩=some (.string t)/\w'.cell? ⟨w.heap.size+1,0,none⟩=some (.string u)/\w'.cell? ⟨w.heap.size+1,1,none⟩=some (.string v))
   (first | exact k1 | exact k2 | exact k3 | exact k4 | exact k5 | exact k6 | exact k7 | exact k8 | exact ZaW Za Za k9 _ _ | exact k9)
   (first
    | (go_at_call_of 118 (Value.string u);refine(HPU.out _).mono ?_;rintro e w6 ⟨vd,rfl,hv,hb⟩;obtain⟨pd,md,cd,rfl⟩:=hv.form;have ND:=Zpz hv;have NC6:=Zpz (PNum.after (w:=w5.drew) NC.out hb ZpA);have HX6:=Zpz (HX5.out.drew.below hb HX5.out.lt);have HB6:Zpt w w6:=HB5.out.drew.trans (hb.mono HB5.out.drew.size);have k6:=HX6.out.f4;clear hv hb)
    | (go_at_call_of 118 (Value.string t);refine(HPT.out _).mono ?_;rintro e w7 ⟨ve,rfl,hv,hb⟩;obtain⟨pe,me,ce,rfl⟩:=hv.form;have NE:=Zpz hv;have NC7:=Zpz (NC6.out.after hb ZpA);have ND7:=Zpz (ND.out.after hb ZpA);have HX7:=Zpz (HX6.out.below hb HX6.out.lt);have HB7:Zpt w w7:=HB6.out.trans (hb.mono HB6.out.size);have k7:=HX7.out.f4;clear hv hb)
    | (go_at_call_of 117 (Value.slice pd md cd);refine(Zap ND7.out NE.out Za Za).mono ?_;rintro e w8 ⟨vf,rfl,hv,hb⟩;obtain⟨pf,mf,cf,rfl⟩:=hv.form;have NF:=Zpz hv;have NC8:=Zpz (NC7.out.after hb ZpA);have HX8:=Zpz (HX7.out.below hb HX7.out.lt);have HB8:Zpt w w8:=HB7.out.trans (hb.mono HB7.out.size);have k8:=HX8.out.f4;clear hv hb)
   )
  go_wp2_with fail
  refine(Zd4 NC8.out NF.out (by have:=M1.out;omega) (by have:=M2.out;omega)).mono ?_
  rintro e w15 ⟨rfl,hb⟩
  have HX15:=Zpz (HX8.out.below hb HX8.out.lt)
  have HB15:Zpt w w15:=HB8.out.trans (hb.mono HB8.out.size)
  have NC15:=Zpz (NC8.out.after hb ZpA)
  have NF15:=Zpz (NF.out.after hb ZpA)
  clear hb
  rcases ZoR (n1*d2) (n2*d1) with hlt | hge
  ·have hsg:sgnN (n1*d2) (n2*d1)<0:=ZeE.2 hlt
   have HLT:=Zpz hlt
   have r0:=HX15.out.cell 2 0 (b:=w.heap.size+1+1) rfl rfl rfl
   have r1:=HX15.out.cell 2 1 (b:=w.heap.size+1+1) rfl rfl rfl
   have f0:=HX15.out.free 2 0 (b:=w.heap.size+1+1) rfl rfl
   have f1:=HX15.out.free 2 1 (b:=w.heap.size+1+1) rfl rfl
   clear hlt
   go_wp2
   have q:=Zu (HX15.out.block 2 (b:=w.heap.size+1+1) rfl rfl) (.string Zpv) (.string Zpv)
   have HBQ:=Zpz (Zs HB15.out (b:=w.heap.size+1+1) Za (.string Zpv) (.string Zpv))
   refine ZoM (v:=.tuple #[Zpw Zpv Zpv,.int .i64 11]) (by simp[results,Tryz.f105,go_sem,q.1,q.2]) rfl ⟨_,_,_,rfl,.inr ⟨HK.out,.inl ⟨HLT.out,rfl,rfl,rfl⟩⟩,HBQ.out⟩
  ·have hsg:¬ sgnN (n1*d2) (n2*d1)<0:=fun h=>by have:=ZeE.1 h;omega
   have HGE:=Zpz hge
   clear hge
   have k2:=HX15.out.f4
   obtain⟨ka2,kb2,kc2,kd2⟩:=id k2
   go_wp2_with fail
   go_region_held3
    (fun w'=>w'.cell? ⟨w.heap.size,0,none⟩=some (.string s)/\w'.cell? ⟨w.heap.size,1,none⟩=some (.string t)/\w'.cell? ⟨w.heap.size+1,0,none⟩=some (.string u)/\w'.cell? ⟨w.heap.size+1,1,none⟩=some (.string v))
    (first | exact k1 | exact k2 | exact k3 | exact k4 | exact k5 | exact k6 | exact k7 | exact k8 | exact ZaW Za Za k9 _ _ | exact k9)
    (first
     | (go_at_call_of 156 (Value.slice pc mc cc);refine(Zgo (PNum.after (w':=w15.drew) NC15.out (ZoL w15.heap.size w15).drew ZpA) (PNum.after (w':=w15.drew) NF15.out (ZoL w15.heap.size w15).drew ZpA) HGE.out (by have:=M1.out;omega)).mono ?_;rintro e w11 ⟨vg,rfl,hv,hb⟩;obtain⟨pg,mg,cg,rfl⟩:=hv.form;have NG:=Zpz hv;have HX11:=Zpz (HX15.out.drew.below hb HX15.out.lt);have HB11:Zpt w w11:=HB15.out.drew.trans (hb.mono HB15.out.drew.size);have k3:=HX11.out.f4;clear hv hb)
     | (go_at_call_of 118 (Value.string t);refine(HPT.out _).mono ?_;rintro e w12 ⟨vh,rfl,hv,hb⟩;obtain⟨ph,mh,ch,rfl⟩:=hv.form;have NH:=Zpz hv;have NG12:=Zpz (NG.out.after hb ZpA);have HX12:=Zpz (HX11.out.below hb HX11.out.lt);have HB12:Zpt w w12:=HB11.out.trans (hb.mono HB11.out.size);have k4:=HX12.out.f4;clear hv hb)
     | (go_at_call_of 118 (Value.string v);refine(HPV.out _).mono ?_;rintro e w13 ⟨vi,rfl,hv,hb⟩;obtain⟨pi,mi,ci,rfl⟩:=hv.form;have NI:=Zpz hv;have NG13:=Zpz (NG12.out.after hb ZpA);have NH13:=Zpz (NH.out.after hb ZpA);have HX13:=Zpz (HX12.out.below hb HX12.out.lt);have HB13:Zpt w w13:=HB12.out.trans (hb.mono HB12.out.size);have k5:=HX13.out.f4;clear hv hb)
     | (go_at_call_of 117 (Value.slice ph mh ch);refine(Zap NH13.out NI.out Za Za).mono ?_;rintro e w14 ⟨vj,rfl,hv,hb⟩;obtain⟨pj,mj,cj,rfl⟩:=hv.form;have NJ:=Zpz hv;have NG14:=Zpz (NG13.out.after hb ZpA);have HX14:=Zpz (HX13.out.below hb HX13.out.lt);have HB14:Zpt w w14:=HB13.out.trans (hb.mono HB13.out.size);have k6:=HX14.out.f4;clear hv hb)
     | (go_at_call 141;refine(ZdV NG14.out NJ.out HL1.out HL2.out HD0.out).mono ?_;rintro e w9 ⟨x,y,n,rfl,hR,hb9⟩;have HR:=Zpz hR;have HX9:=Zpz (HX14.out.below hb9 HX14.out.lt);have HB9:Zpt w w9:=HB14.out.trans (hb9.mono HB14.out.size);have k9:=HX9.out.f4;have r0:=HX9.out.cell 2 0 (b:=w.heap.size+1+1) rfl rfl rfl;have r1:=HX9.out.cell 2 1 (b:=w.heap.size+1+1) rfl rfl rfl;have f0:=HX9.out.free 2 0 (b:=w.heap.size+1+1) rfl rfl;have f1:=HX9.out.free 2 1 (b:=w.heap.size+1+1) rfl rfl;clear hR hb9)
    )
   all_goals
    have q:=Zu (HX9.out.block 2 (b:=w.heap.size+1+1) rfl rfl) (.string x) (.string y)
    have HBQ:=Zpz (Zs HB9.out (b:=w.heap.size+1+1) Za (.string x) (.string y))
    obtain⟨wz,hwz⟩:=ZpB ((w9.setCell ⟨w.heap.size+1+1,0,none⟩ (.string x)).setCell ⟨w.heap.size+1+1,1,none⟩ (.string y))
    rw[hwz] at q HBQ
    obtain⟨q0,q1⟩:=q
    rw[hwz]
    clear r0 r1 f0 f1 hwz
    go_wp2
    refine ZoM (v:=.tuple #[Zpw x y,.int .i64 n]) (by simp[results,Tryz.f105,go_sem,q0,q1]) rfl ⟨_,_,_,rfl,?_,HBQ.out⟩
    exact .inr ⟨HK.out,.inr ⟨HGE.out,HR.out⟩⟩
theorem ZoJ (s t u v:ByteArray) (w:World) (hs:s.size<=1000000) (ht:t.size<=1000000) (hu:u.size<=1000000) (hv:v.size<=1000000) :
  Calls Tryz.prog 145 #[Zpw s t,Zpw u v] w (ZL (Bi s t u v (DivR (Zq s.data.toList) (Zq t.data.toList) (Zq u.data.toList) (Zq v.data.toList))) w):=by
 cases hq:(okP s t && okP u v)
 ·skip
  have HQ:Hid (Zbs s t u v=2):=ZdW hq
  have HK:=Zpz hq
  clear hq
  go_enter Tryz.func145,Tryz.ntmps145
  go_wp2_with fail
  obtain⟨w1,hw1⟩:=ZpB (((w.alloc (Zpx s t)).alloc (Zpx u v)).alloc (Zpx Zpv Zpv))
  rw[hw1]
  have HX1:Hid (Zv w.heap.size [Zpx s t,Zpx u v,Zpx Zpv Zpv] w1):=by rw[<- hw1];exact Zv.three w _ _ _
  have HB1:Zpt w w1:=by rw[<- hw1];exact(((ZoL _ w).alloc ZpA _).alloc Zc _).alloc (by simp<;>omega) _
  clear hw1
  refine(ZaV s t u v _ hs ht hu hv).mono ?_
  rintro e w2 ⟨rfl,hb2⟩
  rw[HQ.out]
  have HX2:=Zpz (HX1.out.below hb2 HX1.out.lt)
  have HB2:=Zpz (HB1.out.trans (hb2.mono HB1.out.size))
  clear hb2
  have r0:=HX2.out.cell 2 0 (b:=w.heap.size+1+1) rfl rfl rfl
  have r1:=HX2.out.cell 2 1 (b:=w.heap.size+1+1) rfl rfl rfl
  have f0:=HX2.out.free 2 0 (b:=w.heap.size+1+1) rfl rfl
  have f1:=HX2.out.free 2 1 (b:=w.heap.size+1+1) rfl rfl
  go_wp2
  have q:=Zu (HX2.out.block 2 (b:=w.heap.size+1+1) rfl rfl) (.string Zpv) (.string Zpv)
  have HBQ:=Zpz (Zs HB2.out (b:=w.heap.size+1+1) Za (.string Zpv) (.string Zpv))
  refine ZoM (v:=.tuple #[Zpw Zpv Zpv,.int .i64 2]) (by simp[results,Tryz.f145,go_sem,q.1,q.2]) rfl ⟨_,_,_,rfl,.inl ⟨HK.out,rfl,rfl,rfl⟩,HBQ.out⟩
 ·skip
  have hnu:=(Zc0.1 (Zpj _ _ |>.mp hq).2).1
  have HZ:=Zpz (Zc2 hnu)
  have dl:u.toList=u.data.toList:=Zo8 ..
  clear hnu
  have HQ:Hid (Zbs s t u v=0):=Zdc hq
  have HK:=Zpz hq
  have hq2:=hq
  rw[Zpj] at hq2
  have g1:=rok hq2.1
  have g2:=rok hq2.2
  obtain⟨n1,hn1⟩:=ZpB (Zq s.data.toList)
  obtain⟨d1,hd1⟩:=ZpB (Zq t.data.toList)
  obtain⟨n2,hn2⟩:=ZpB (Zq u.data.toList)
  obtain⟨d2,hd2⟩:=ZpB (Zq v.data.toList)
  rw[hn1,hd1] at g1
  rw[hn2,hd2] at g2
  have HPS:Hid (∀ W,Calls Tryz.prog 118 #[.string s] W (Zar W n1)):=fun W=>by rw[<- hn1];exact ZV s hs g1.ds W
  have HPT:Hid (∀ W,Calls Tryz.prog 118 #[.string t] W (Zar W d1)):=fun W=>by rw[<- hd1];exact ZV t ht g1.dt W
  have HPU:Hid (∀ W,Calls Tryz.prog 118 #[.string u] W (Zar W n2)):=fun W=>by rw[<- hn2];exact ZV u hu g2.ds W
  have HPV:Hid (∀ W,Calls Tryz.prog 118 #[.string v] W (Zar W d2)):=fun W=>by rw[<- hd2];exact ZV v hv g2.dt W
  have l1:=g1.ls
  have l2:=g1.lt
  have l3:=g2.ls
  have l4:=g2.lt
  have z1:=g1.pos
  have z2:=g2.pos
  rw[hn1,hd1,hn2,hd2]
  have HN:=Zpz (Zpq hn1 (Zpq hd1 (Zpq hn2 hd2)))
  clear hq hq2 g1 g2 hn1 hd1 hn2 hd2
  rw[HN.out.2.2.1] at HZ
  rcases Zo0 n2 with h0 | h0
  ·have hz:(u.toList==[48])=true:=by
    rw[dl,HZ.out.2 h0];rfl
   have H0:=Zpz h0
   clear h0 dl
   go_enter Tryz.func145,Tryz.ntmps145
   go_wp2_with fail
   obtain⟨w1,hw1⟩:=ZpB (((w.alloc (Zpx s t)).alloc (Zpx u v)).alloc (Zpx Zpv Zpv))
   rw[hw1]
   have HX1:Hid (Zv w.heap.size [Zpx s t,Zpx u v,Zpx Zpv Zpv] w1):=by rw[<- hw1];exact Zv.three w _ _ _
   have HB1:Zpt w w1:=by rw[<- hw1];exact(((ZoL _ w).alloc ZpA _).alloc Zc _).alloc (by simp<;>omega) _
   clear hw1
   refine(ZaV s t u v _ hs ht hu hv).mono ?_
   rintro e w2 ⟨rfl,hb2⟩
   rw[HQ.out]
   have HX2:=Zpz (HX1.out.below hb2 HX1.out.lt)
   have HB2:=Zpz (HB1.out.trans (hb2.mono HB1.out.size))
   clear hb2
   have r0:=HX2.out.cell 2 0 (b:=w.heap.size+1+1) rfl rfl rfl
   have r1:=HX2.out.cell 2 1 (b:=w.heap.size+1+1) rfl rfl rfl
   have f0:=HX2.out.free 2 0 (b:=w.heap.size+1+1) rfl rfl
   have f1:=HX2.out.free 2 1 (b:=w.heap.size+1+1) rfl rfl
   have k2:=HX2.out.f4
   obtain⟨ka2,kb2,kc2,kd2⟩:=id k2
   go_wp2
   have q:=Zu (HX2.out.block 2 (b:=w.heap.size+1+1) rfl rfl) (.string Zpv) (.string Zpv)
   have HBQ:=Zpz (Zs HB2.out (b:=w.heap.size+1+1) Za (.string Zpv) (.string Zpv))
   refine ZoM (v:=.tuple #[Zpw Zpv Zpv,.int .i64 10]) (by simp[results,Tryz.f145,go_sem,q.1,q.2]) rfl ⟨_,_,_,rfl,.inr ⟨HK.out,.inl ⟨H0.out,rfl,rfl,rfl⟩⟩,HBQ.out⟩
  have hz:(u.toList==[48])=false:=by
   rw[beq_eq_false_iff_ne,dl]
   intro hc
   have h1:n2=0:=HZ.out.1 (by rw[<- Za1 u,hc];rfl)
   omega
  have HL1:Hid ((Zp 10000 (n1*d2)).length<=100000):=ZoU (ZaB l1 l4) Za
  have HL2:Hid ((Zp 10000 (d1*n2)).length<=100000):=ZoU (ZaB l2 l3) Za
  have HD0:Hid (0<d1*n2):=Nat.mul_pos z1 h0
  have H0:=Zpz h0
  clear h0 dl
  go_enter Tryz.func145,Tryz.ntmps145
  go_wp2_with fail
  obtain⟨w1,hw1⟩:=ZpB (((w.alloc (Zpx s t)).alloc (Zpx u v)).alloc (Zpx Zpv Zpv))
  rw[hw1]
  have HX1:Hid (Zv w.heap.size [Zpx s t,Zpx u v,Zpx Zpv Zpv] w1):=by rw[<- hw1];exact Zv.three w _ _ _
  have HB1:Zpt w w1:=by rw[<- hw1];exact(((ZoL _ w).alloc ZpA _).alloc Zc _).alloc (by simp<;>omega) _
  clear hw1
  refine(ZaV s t u v _ hs ht hu hv).mono ?_
  rintro e w2 ⟨rfl,hb2⟩
  rw[HQ.out]
  have HX2:=Zpz (HX1.out.below hb2 HX1.out.lt)
  have HB2:=Zpz (HB1.out.trans (hb2.mono HB1.out.size))
  clear hb2
  have k2:=HX2.out.f4
  obtain⟨ka2,kb2,kc2,kd2⟩:=id k2
  go_wp2_with fail
  go_region_held3
   (fun w'=>w'.cell? ⟨w.heap.size,0,none⟩=some (.string s)/\w'.cell? ⟨w.heap.size,1,none⟩=some (.string t)/\w'.cell? ⟨w.heap.size+1,0,none⟩=some (.string u)/\w'.cell? ⟨w.heap.size+1,1,none⟩=some (.string v))
   (first | exact k1 | exact k2 | exact k3 | exact k4 | exact k5 | exact k6 | exact k7 | exact k8 | exact ZaW Za Za k9 _ _ | exact k9)
   (first
    | (go_at_call_of 118 (Value.string s);refine(HPS.out _).mono ?_;rintro e w3 ⟨va,rfl,hv,hb⟩;obtain⟨pa,ma,ca,rfl⟩:=hv.form;have NA:=Zpz hv;have HX3:=Zpz (HX2.out.drew.below hb HX2.out.lt);have HB3:Zpt w w3:=HB2.out.drew.trans (hb.mono HB2.out.drew.size);have k3:=HX3.out.f4;clear hv hb)
    | (go_at_call_of 118 (Value.string v);refine(HPV.out _).mono ?_;rintro e w4 ⟨vb,rfl,hv,hb⟩;obtain⟨pb,mb,cb,rfl⟩:=hv.form;have NB:=Zpz hv;have NA4:=Zpz (NA.out.after hb ZpA);have HX4:=Zpz (HX3.out.below hb HX3.out.lt);have HB4:Zpt w w4:=HB3.out.trans (hb.mono HB3.out.size);have k4:=HX4.out.f4;clear hv hb)
    | (go_at_call_of 117 (Value.slice pa ma ca);refine(Zap NA4.out NB.out Za Za).mono ?_;rintro e w5 ⟨vc,rfl,hv,hb⟩;obtain⟨pc,mc,cc,rfl⟩:=hv.form;have NC:=Zpz hv;have HX5:=Zpz (HX4.out.below hb HX4.out.lt);have HB5:Zpt w w5:=HB4.out.trans (hb.mono HB4.out.size);have k5:=HX5.out.f4;clear hv hb)
    | (go_at_call_of 118 (Value.string t);refine(HPT.out _).mono ?_;rintro e w6 ⟨vd,rfl,hv,hb⟩;obtain⟨pd,md,cd,rfl⟩:=hv.form;have ND:=Zpz hv;have NC6:=Zpz (NC.out.after hb ZpA);have HX6:=Zpz (HX5.out.below hb HX5.out.lt);have HB6:Zpt w w6:=HB5.out.trans (hb.mono HB5.out.size);have k6:=HX6.out.f4;clear hv hb)
    | (go_at_call_of 118 (Value.string u);refine(HPU.out _).mono ?_;rintro e w7 ⟨ve,rfl,hv,hb⟩;obtain⟨pe,me,ce,rfl⟩:=hv.form;have NE:=Zpz hv;have NC7:=Zpz (NC6.out.after hb ZpA);have ND7:=Zpz (ND.out.after hb ZpA);have HX7:=Zpz (HX6.out.below hb HX6.out.lt);have HB7:Zpt w w7:=HB6.out.trans (hb.mono HB6.out.size);have k7:=HX7.out.f4;clear hv hb)
    | (go_at_call_of 117 (Value.slice pd md cd);refine(Zap ND7.out NE.out Za Za).mono ?_;rintro e w8 ⟨vf,rfl,hv,hb⟩;obtain⟨pf,mf,cf,rfl⟩:=hv.form;have NF:=Zpz hv;have NC8:=Zpz (NC7.out.after hb ZpA);have HX8:=Zpz (HX7.out.below hb HX7.out.lt);have HB8:Zpt w w8:=HB7.out.trans (hb.mono HB7.out.size);have k8:=HX8.out.f4;clear hv hb)
    | (go_at_call 141;refine(ZdV NC8.out NF.out HL1.out HL2.out HD0.out).mono ?_;rintro e w9 ⟨x,y,n,rfl,hR,hb9⟩;have HR:=Zpz hR;have HX9:=Zpz (HX8.out.below hb9 HX8.out.lt);have HB9:Zpt w w9:=HB8.out.trans (hb9.mono HB8.out.size);have k9:=HX9.out.f4;have r0:=HX9.out.cell 2 0 (b:=w.heap.size+1+1) rfl rfl rfl;have r1:=HX9.out.cell 2 1 (b:=w.heap.size+1+1) rfl rfl rfl;have f0:=HX9.out.free 2 0 (b:=w.heap.size+1+1) rfl rfl;have f1:=HX9.out.free 2 1 (b:=w.heap.size+1+1) rfl rfl;clear hR hb9)
   )
  all_goals
   have q:=Zu (HX9.out.block 2 (b:=w.heap.size+1+1) rfl rfl) (.string x) (.string y)
   have HBQ:=Zpz (Zs HB9.out (b:=w.heap.size+1+1) Za (.string x) (.string y))
   obtain⟨wz,hwz⟩:=ZpB ((w9.setCell ⟨w.heap.size+1+1,0,none⟩ (.string x)).setCell ⟨w.heap.size+1+1,1,none⟩ (.string y))
   rw[hwz] at q HBQ
   obtain⟨q0,q1⟩:=q
   rw[hwz]
   clear r0 r1 f0 f1 hwz
   go_wp2
   refine ZoM (v:=.tuple #[Zpw x y,.int .i64 n]) (by simp[results,Tryz.f145,go_sem,q0,q1]) rfl ⟨_,_,_,rfl,?_,HBQ.out⟩
   exact .inr ⟨HK.out,.inr ⟨H0.out,HR.out⟩⟩
theorem Znp {a b:Rat} (ha:0<=a) (hb:0<=b):sgnN (a.num.toNat*b.den) (b.num.toNat*a.den)=sgnR a b:=by
 rw[<- Zmr ha hb (r:=sgnN (a.num.toNat*b.den) (b.num.toNat*a.den))]
 ·unfold sgnN;split<;>(try split)<;>rfl
 ·unfold Sign sgnN
  split
  ·refine⟨⟨fun _=>?_,fun _=>?_⟩,⟨fun h=>?_,fun h=>?_⟩,?_,?_⟩<;>omega
  ·split<;>(refine⟨⟨fun _=>?_,fun _=>?_⟩,⟨fun h=>?_,fun h=>?_⟩,?_,?_⟩<;>omega)
theorem ZiS (s t u v:ByteArray) (w:World) (hs:s.size<=1000000) (ht:t.size<=1000000) (hu:u.size<=1000000) (hv:v.size<=1000000) :
  Calls Tryz.prog 56 #[Zpw s t,Zpw u v] w (Zi7 s t u v w):=by
 cases hq:(okP s t && okP u v)
 ·have HQ:Hid (Zbs s t u v=2):=ZdW hq
  have HK:=Zpz hq
  clear hq
  go_enter Tryz.func56,Tryz.ntmps56
  go_wp2_with fail
  obtain⟨w1,hw1⟩:=ZpB ((w.alloc (Zpx s t)).alloc (Zpx u v))
  rw[hw1]
  have HX1:Hid (Zv w.heap.size [Zpx s t,Zpx u v] w1):=by rw[<- hw1];exact Zv.two w _ _
  have HB1:Zpt w w1:=by rw[<- hw1];exact((ZoL _ w).alloc ZpA _).alloc Zc _
  clear hw1
  refine(ZaV s t u v _ hs ht hu hv).mono ?_
  rintro e w2 ⟨rfl,hb2⟩
  rw[HQ.out]
  have HX2:=Zpz (HX1.out.below hb2 HX1.out.lt)
  have HB2:=Zpz (HB1.out.trans (hb2.mono HB1.out.size))
  clear hb2
  go_wp2
  go_ret
  exact⟨0,rfl,.inl ⟨HK.out,rfl⟩,HB2.out⟩
 ·have hq2:=hq
  rw[Zpj] at hq2
  have HRN:Hid (sgnN (Zq s.data.toList*Zq v.data.toList) (Zq u.data.toList*Zq t.data.toList)=sgnR (ratP s t) (ratP u v)):=by
   obtain⟨a1,a2,a3⟩:=Za3 hq2.1
   obtain⟨b1,b2,b3⟩:=Za3 hq2.2
   show _=_
   rw[a2,a3,b2,b3]
   exact Znp a1 b1
  clear hq2
  have HQ:Hid (Zbs s t u v=0):=Zdc hq
  have HK:=Zpz hq
  have hq2:=hq
  rw[Zpj] at hq2
  have g1:=rok hq2.1
  have g2:=rok hq2.2
  obtain⟨n1,hn1⟩:=ZpB (Zq s.data.toList)
  obtain⟨d1,hd1⟩:=ZpB (Zq t.data.toList)
  obtain⟨n2,hn2⟩:=ZpB (Zq u.data.toList)
  obtain⟨d2,hd2⟩:=ZpB (Zq v.data.toList)
  rw[hn1,hd1] at g1
  rw[hn2,hd2] at g2
  rw[hn1,hd1,hn2,hd2] at HRN
  have HPS:Hid (∀ W,Calls Tryz.prog 118 #[.string s] W (Zar W n1)):=fun W=>by rw[<- hn1];exact ZV s hs g1.ds W
  have HPT:Hid (∀ W,Calls Tryz.prog 118 #[.string t] W (Zar W d1)):=fun W=>by rw[<- hd1];exact ZV t ht g1.dt W
  have HPU:Hid (∀ W,Calls Tryz.prog 118 #[.string u] W (Zar W n2)):=fun W=>by rw[<- hn2];exact ZV u hu g2.ds W
  have HPV:Hid (∀ W,Calls Tryz.prog 118 #[.string v] W (Zar W d2)):=fun W=>by rw[<- hd2];exact ZV v hv g2.dt W
  have l1:=g1.ls
  have l2:=g1.lt
  have l3:=g2.ls
  have l4:=g2.lt
  have M1:Hid ((Zp 10000 (n1*d2)).length<=300):=ZoU (ZaB l1 l4) Za
  have M2:Hid ((Zp 10000 (n2*d1)).length<=300):=ZoU (ZaB l3 l2) Za
  clear hq hq2 g1 g2 hn1 hd1 hn2 hd2
  go_enter Tryz.func56,Tryz.ntmps56
  go_wp2_with fail
  obtain⟨w1,hw1⟩:=ZpB ((w.alloc (Zpx s t)).alloc (Zpx u v))
  rw[hw1]
  have HX1:Hid (Zv w.heap.size [Zpx s t,Zpx u v] w1):=by rw[<- hw1];exact Zv.two w _ _
  have HB1:Zpt w w1:=by rw[<- hw1];exact((ZoL _ w).alloc ZpA _).alloc Zc _
  clear hw1
  refine(ZaV s t u v _ hs ht hu hv).mono ?_
  rintro e w2 ⟨rfl,hb2⟩
  rw[HQ.out]
  have HX2:=Zpz (HX1.out.below hb2 HX1.out.lt)
  have HB2:=Zpz (HB1.out.trans (hb2.mono HB1.out.size))
  clear hb2
  have k2:=HX2.out.f4
  obtain⟨ka2,kb2,kc2,kd2⟩:=id k2
  go_wp2_with fail
  go_region_held3
   (fun w'=>w'.cell? ⟨w.heap.size,0,none⟩=some (.string s)/\w'.cell? ⟨w.heap.size,1,none⟩=some (.string t)/\w'.cell? ⟨w.heap.size+1,0,none⟩=some (.string u)/\w'.cell? ⟨w.heap.size+1,1,none⟩=some (.string v))
   (first | exact k1 | exact k2 | exact k3 | exact k4 | exact k5 | exact k6 | exact k7 | exact k8 | exact ZaW Za Za k9 _ _ | exact k9)
   (first
    | (go_at_call_of 118 (Value.string s);refine(HPS.out _).mono ?_;rintro e w3 ⟨va,rfl,hv,hb⟩;obtain⟨pa,ma,ca,rfl⟩:=hv.form;have NA:=Zpz hv;have HX3:=Zpz (HX2.out.drew.below hb HX2.out.lt);have HB3:Zpt w w3:=HB2.out.drew.trans (hb.mono HB2.out.drew.size);have k3:=HX3.out.f4;clear hv hb)
    | (go_at_call_of 118 (Value.string v);refine(HPV.out _).mono ?_;rintro e w4 ⟨vb,rfl,hv,hb⟩;obtain⟨pb,mb,cb,rfl⟩:=hv.form;have NB:=Zpz hv;have NA4:=Zpz (NA.out.after hb ZpA);have HX4:=Zpz (HX3.out.below hb HX3.out.lt);have HB4:Zpt w w4:=HB3.out.trans (hb.mono HB3.out.size);have k4:=HX4.out.f4;clear hv hb)
    | (go_at_call_of 117 (Value.slice pa ma ca);refine(Zap NA4.out NB.out Za Za).mono ?_;rintro e w5 ⟨vc,rfl,hv,hb⟩;obtain⟨pc,mc,cc,rfl⟩:=hv.form;have NC:=Zpz hv;have HX5:=Zpz (HX4.out.below hb HX4.out.lt);have HB5:Zpt w w5:=HB4.out.trans (hb.mono HB4.out.size);have k5:=HX5.out.f4;clear hv hb)
    | (go_at_call_of 118 (Value.string u);refine(HPU.out _).mono ?_;rintro e w6 ⟨vd,rfl,hv,hb⟩;obtain⟨pd,md,cd,rfl⟩:=hv.form;have ND:=Zpz hv;have NC6:=Zpz (NC.out.after hb ZpA);have HX6:=Zpz (HX5.out.below hb HX5.out.lt);have HB6:Zpt w w6:=HB5.out.trans (hb.mono HB5.out.size);have k6:=HX6.out.f4;clear hv hb)
    | (go_at_call_of 118 (Value.string t);refine(HPT.out _).mono ?_;rintro e w7 ⟨ve,rfl,hv,hb⟩;obtain⟨pe,me,ce,rfl⟩:=hv.form;have NE:=Zpz hv;have NC7:=Zpz (NC6.out.after hb ZpA);have ND7:=Zpz (ND.out.after hb ZpA);have HX7:=Zpz (HX6.out.below hb HX6.out.lt);have HB7:Zpt w w7:=HB6.out.trans (hb.mono HB6.out.size);have k7:=HX7.out.f4;clear hv hb)
    | (go_at_call_of 117 (Value.slice pd md cd);refine(Zap ND7.out NE.out Za Za).mono ?_;rintro e w8 ⟨vf,rfl,hv,hb⟩;obtain⟨pf,mf,cf,rfl⟩:=hv.form;have NF:=Zpz hv;have NC8:=Zpz (NC7.out.after hb ZpA);have HX8:=Zpz (HX7.out.below hb HX7.out.lt);have HB8:Zpt w w8:=HB7.out.trans (hb.mono HB7.out.size);have k8:=HX8.out.f4;clear hv hb)
    | (go_at_call 116;refine(Zd4 NC8.out NF.out (by have:=M1.out;omega) (by have:=M2.out;omega)).mono ?_;rintro e w9 ⟨rfl,hb⟩;have HX9:=Zpz (HX8.out.below hb HX8.out.lt);have HB9:Zpt w w9:=HB8.out.trans (hb.mono HB8.out.size);have k9:=HX9.out.f4;clear hb)
   )
  go_wp2
  go_ret
  exact⟨_,by rw[HRN.out];rfl,.inr ⟨HK.out,rfl⟩,HB9.out⟩
abbrev oneS:ByteArray:=⟨#[49]⟩
theorem ZL.mono {R R':ByteArray->ByteArray->Int->Prop} {w w':World} {e:Ending} (h:ZL R w e w') (f:∀ x y n,R x y n->R' x y n):ZL R' w e w':=by
 obtain⟨x,y,n,h1,h2,h3⟩:=h
 exact⟨x,y,n,h1,f x y n h2,h3⟩
theorem ZmW (s t u v:ByteArray) (w:World) (hs:s.size<=1000000) (ht:t.size<=1000000) (hu:u.size<=1000000) (hv:v.size<=1000000) :
  Calls Tryz.prog 86 #[Zpw s t,Zpw u v] w (ZL (Bi s t u v (Ans (ratP s t*ratP u v))) w):=
 (Zoz s t u v w hs ht hu hv).mono fun _ _ h=>h.mono fun _ _ _=>ZmO
theorem ZiF (s t u v:ByteArray) (w:World) (hs:s.size<=1000000) (ht:t.size<=1000000) (hu:u.size<=1000000) (hv:v.size<=1000000) :
  Calls Tryz.prog 88 #[Zpw s t,Zpw u v] w (ZL (Bi s t u v (Ans (ratP s t+ratP u v))) w):=
 (ZoG s t u v w hs ht hu hv).mono fun _ _ h=>h.mono fun _ _ _=>ZmL
theorem Zng (s t u v:ByteArray) (w:World) (hs:s.size<=1000000) (ht:t.size<=1000000) (hu:u.size<=1000000) (hv:v.size<=1000000) :
  Calls Tryz.prog 105 #[Zpw s t,Zpw u v] w (ZL (Bi s t u v (SubA (ratP s t) (ratP u v))) w):=
 (Zop s t u v w hs ht hu hv).mono fun _ _ h=>h.mono fun _ _ _=>Zmu
theorem Zm7 (s t u v:ByteArray) (w:World) (hs:s.size<=1000000) (ht:t.size<=1000000) (hu:u.size<=1000000) (hv:v.size<=1000000) :
  Calls Tryz.prog 145 #[Zpw s t,Zpw u v] w (ZL (Bi s t u v (DivA (ratP s t) (ratP u v))) w):=
 (ZoJ s t u v w hs ht hu hv).mono fun _ _ h=>h.mono fun _ _ _=>Zmq
theorem Ziz (w:World):Calls Tryz.prog 163 #[] w (Z1 (pV oneS oneS) w):=by
 go_enter Tryz.func163,Tryz.ntmps163
 go_wp2
 have HB1:Hid (Below w.heap.size w (w.alloc (pObj oneS oneS))):=(ZoL _ w).alloc ZpA _
 have c0:=ZK w #[.string oneS,.string oneS] 41 0 rfl
 have c1:=ZK w #[.string oneS,.string oneS] 41 1 rfl
 refine ZoM (v:=pV oneS oneS) (by simp[results,Tryz.f163,go_sem,c0,c1]) rfl ⟨rfl,HB1.out⟩
theorem Zgz {q:Rat} {s t:ByteArray} {k:Nat} (h:IsP q s t) (hz:Sz k q) (h0:0<k):Zw k (s,t)=true:=by
 refine Zaj.2 ⟨?_,?_,h.ok⟩
 ·show s.size<=k
  rw[h.num,Zay]
  exact Z3 h0 hz.1
 ·show t.size<=k
  rw[h.den,Zay]
  exact Z3 h0 hz.2
theorem ZiT {bs:List BB} {q r:Rat} {k:Nat} (h:CurveP bs) (hq0:0<=q) (hz:Sz k q) (hr:ZW bs.length (cR bs) (hR bs) q r):Sz (k+109) r:=by
 obtain⟨i,hk,rfl⟩:=hr
 by_cases hi:i+1<bs.length
 ·have:=(Ziw h.conc' h.sizes.1 h.sizes.2 hq0 hz hi hk).2.2.2.2.2
  exact this.mono Za
 ·have e:lin bs.length (cR bs) (hR bs) i q=hR bs i:=by
   unfold lin slo
   rw[if_neg hi]
   grind
  rw[e]
  exact(h.sizes.2 i hk.1).mono Za
theorem Zl9 {bs:List BB} {q:Rat} {k:Nat} (h:CurveP bs) (hq0:0<=q) (hz:Sz k q) (hk:k<=300):∃ r x y,ZW bs.length (cR bs) (hR bs) q r/\IsP r x y/\Sz (k+109) r/\0<=r/\r<=1:=by
 obtain⟨r,hr⟩:=Zep h q
 have hs:=ZiT h hq0 hz hr
 have h0:=hr.nn h.conc' hq0
 obtain⟨x,y,hx⟩:=Zaa h0 hs Za Za
 exact⟨r,x,y,hr,hx,hs,h0,hr.top h.conc'⟩
theorem ZmK {v:Value} {bs:List BB} {w:World} {q r:Rat} {s t x y:ByteArray} (hv:BL w v bs) (hC:CurveP bs) (hz:LimB bs) (hq:IsP q s t) (hs:Sz 300 q) (hr:ZW bs.length (cR bs) (hR bs) q r) (hx:IsP r x y) (hD:DetV w) (hT:Tabs w) :
  Calls Tryz.prog 168 #[v,pV s t] w (Z1 (.tuple #[pV x y,.int .i64 0]) w):=by
 refine(Zjy hv hz hq.limit.1 hq.limit.2 hD hT).mono ?_
 rintro e w' ⟨u,u2,n,rfl,h,hb⟩
 rcases h with ⟨h,_⟩ | ⟨_,rfl,r',h1,h2⟩
 ·exact Zpp ⟨hC,Zgz hq hs Zd⟩ h
 ·rw[hq.rat] at h1
  obtain⟨e1,e2⟩:=ZdK h2 hx (h1.unique hr)
  subst e1 e2
  exact⟨rfl,hb⟩
theorem Zd6 {n:Int} (h0:0<=n) (h1:n<=48):(∃ x y,IsP ((n:Int):Rat) x y)/\Sz 2 ((n:Int):Rat)/\0<=((n:Int):Rat):=by
 obtain⟨k,rfl⟩:∃ k:Nat,n=k:=⟨n.toNat,Za⟩
 have e:(((k:Nat):Int):Rat)=mkRat (k:Nat) 1:=by
  have h:∀ k:Nat,k<=48->(((k:Nat):Int):Rat)=mkRat (k:Nat) 1:=by decide +kernel
  exact h k Za
 have z:Sz 2 (mkRat (k:Nat) 1):=Sz.mk Zd Za Zd
 have n0:0<=mkRat (k:Nat) 1:=ZcF _ _
 rw[e]
 exact⟨Zaa n0 z Zd Zd,z,n0⟩
theorem Zd3 {t:TaskP} (h:TaskOk t) {u i:Nat} (hu:u<t.rates.length) (hi:i<t.sites.length):IsP (rR t u i) (eR t u i).1 (eR t u i).2/\Sz 9 (rR t u i):=by
 obtain⟨h1,h2,h3⟩:=Zaj.1 ((h.team u hu).2.2 i hi)
 have:=Zav h3
 exact⟨this,this.sz h1 h2⟩
theorem Zdr {t:TaskP} (h:TaskOk t) {i:Nat} (hi:i<t.sites.length):IsP (wR t i) (eS t i).weight.1 (eS t i).weight.2/\Sz 9 (wR t i):=by
 obtain⟨h1,h2,h3⟩:=Zaj.1 (h.site i hi).1
 have:=Zav h3
 exact⟨this,this.sz h1 h2⟩
def Zbz (t:TaskP) (p:List (List Int)):Prop:=p.length=t.hours.length/\(∀ u (h:u<p.length),p[u].length=t.sites.length)/\∀ u i,u<p.length->i<t.sites.length->0<=pN p u i/\pN p u i<=48
theorem PlanOk.inn {t:TaskP} {p:List (List Int)} (h:PlanOk t p):Zbz t p:=⟨h.teams,h.row,fun u i hu hi=>(h.hour u i hu hi).1⟩
theorem ZfB {t:TaskP} {p:List (List Int)} (h:TaskOk t) (hp:Zbz t p) {u i:Nat} (hu:u<p.length) (hi:i<t.sites.length) :
  (∃ x y,IsP (rR t u i*((pN p u i:Int):Rat)) x y)/\Sz 11 (rR t u i*((pN p u i:Int):Rat))/\0<=rR t u i*((pN p u i:Int):Rat):=by
 have hr:=h.rates
 have hpl:=hp.1
 obtain⟨r1,r2⟩:=Zd3 h (u:=u) (i:=i) Za hi
 obtain⟨_,w2,w3⟩:=Zd6 (hp.2.2 u i hu hi).1 (hp.2.2 u i hu hi).2
 have n0:=Rat.mul_nonneg r1.nn w3
 have z:=Sz.mul r1.nn w3 r2 w2
 exact⟨Zaa n0 z Zd Zd,z,n0⟩
theorem Zjj {t:TaskP} {p:List (List Int)} (h:TaskOk t) (hp:Zbz t p) {i:Nat} (hi:i<t.sites.length):∀ k,k<=p.length->Sz (12*k+1) (ZaL t p i k)/\0<=ZaL t p i k
 | 0,_=>⟨(show Sz 1 (0:Rat) from ⟨by decide +kernel,by decide +kernel⟩),Rat.le_refl⟩
 | k+1,hk=>by
  obtain⟨z,n⟩:=Zjj h hp hi k Za
  obtain⟨_,z2,n2⟩:=ZfB h hp (u:=k) Za hi
  exact⟨(Sz.add n n2 z z2).mono Za,by unfold ZaL;grind⟩
theorem Zc1 {t:TaskP} {p:List (List Int)} (h:TaskOk t) (hp:Zbz t p) {i:Nat} (hi:i<t.sites.length) {k:Nat} (hk:k<=p.length):(∃ x y,IsP (ZaL t p i k) x y)/\Sz 97 (ZaL t p i k)/\0<=ZaL t p i k:=by
 obtain⟨z,n⟩:=Zjj h hp hi k hk
 have h1:=h.teams.2
 have h2:=hp.1
 have z2:Sz 97 (ZaL t p i k):=z.mono Za
 exact⟨Zaa n z2 Zd Zd,z2,n⟩
theorem ZdA {t:TaskP} (h:TaskOk t) {i:Nat} (hi:i<t.sites.length) {q:Rat} {k:Nat} (hq:0<=q) (hz:Sz k q) (hk:k<=300):(∃ x y,IsP (chF (eS t i).curve q) x y)/\Sz (k+109) (chF (eS t i).curve q)/\0<=chF (eS t i).curve q/\chF (eS t i).curve q<=1:=by
 have hC:=(h.site i hi).2
 obtain⟨r,x,y,h1,h2,h3,h4,h5⟩:=Zl9 hC hq hz hk
 rw[Ze1 hC h1]
 exact⟨⟨x,y,h2⟩,h3,h4,h5⟩
def Zae (f:Nat->Rat) (n:Nat):Prop:=∀ k,k<=n->Fits (sumF f k)
def SumE (f:Nat->Rat) (n:Nat) (x y:ByteArray) (e:Int):Prop:=(Zae f n/\IsP (sumF f n) x y/\e=0)\/(¬ Zae f n/\x=Zpv/\y=Zpv/\e=4)
theorem SumE.det {f:Nat->Rat} {n:Nat} {x y u v:ByteArray} {e d:Int} (h:SumE f n x y e) (g:SumE f n u v d):x=u/\y=v/\e=d:=by
 rcases h with ⟨h1,h2,rfl⟩ | ⟨h1,rfl,rfl,rfl⟩
 ·rcases g with ⟨_,g2,rfl⟩ | ⟨g1,_⟩
  ·obtain⟨e1,e2⟩:=ZdK h2 g2 rfl
   exact⟨e1,e2,rfl⟩
  ·exact Zpp h1 g1
 ·rcases g with ⟨g1,_⟩ | ⟨_,rfl,rfl,rfl⟩
  ·exact Zpp g1 h1
  ·exact⟨rfl,rfl,rfl⟩
theorem ZmI:Fits (0:Rat):=Zaf.fits
theorem Zae.zero (f:Nat->Rat):Zae f 0:=fun k hk=>by
 obtain rfl:k=0:=Za
 exact ZmI
theorem Zae.step {f:Nat->Rat} {n:Nat} (h:Zae f n) (hf:Fits (sumF f n+f n)):Zae f (n+1):=fun k hk=>by
 rcases ZoR n k with h1 | h1
 ·obtain rfl:k=n+1:=Za
  exact hf
 ·exact h k h1
theorem Zae.not {f:Nat->Rat} {n m:Nat} (hf:¬ Fits (sumF f n+f n)) (hm:n<m):¬ Zae f m:=fun h=>hf (h (n+1) hm)
theorem Zkr {f:Nat->Rat} : ∀ {n:Nat},(∀ i,i<n->0<=f i)->0<=sumF f n
 | 0,_=>Rat.le_refl
 | n+1,h=>by
  have h1:=Zkr (f:=f) (n:=n) fun i hi=>h i Za
  have h2:=h n Za
  unfold sumF
  grind
structure Best (g:Nat->Rat) (n:Nat) (r:Option Nat) (m:Rat):Prop where
 no:r=none->m=0/\∀ k,k<n->g k<=0
 yes:∀ j,r=some j->j<n/\m=g j/\0<m/\(∀ k,k<n->g k<=g j)/\∀ k,k<j->g k<g j
theorem Best.zero (g:Nat->Rat):Best g 0 none 0:=⟨fun _=>⟨rfl,fun k h=>Zpp h (Zpb _)⟩,fun j h=>by cases h⟩
theorem Best.nn {g:Nat->Rat} {n:Nat} {r:Option Nat} {m:Rat} (h:Best g n r m):0<=m:=by
 cases r with
 | none=>rw[(h.no rfl).1];exact Rat.le_refl
 | some j=>exact Rat.le_of_lt (h.yes j rfl).2.2.1
theorem Best.le {g:Nat->Rat} {n:Nat} {r:Option Nat} {m:Rat} (h:Best g n r m) {k:Nat} (hk:k<n):g k<=m:=by
 cases r with
 | none=>
  rw[(h.no rfl).1]
  exact(h.no rfl).2 k hk
 | some j=>
  obtain⟨_,e,_,h2,_⟩:=h.yes j rfl
  rw[e]
  exact h2 k hk
theorem Best.up {g:Nat->Rat} {n:Nat} {r:Option Nat} {m:Rat} (h:Best g n r m) (hlt:m<g n):Best g (n+1) (some n) (g n):=by
 refine⟨fun h=>(by cases h),fun j hj=>?_⟩
 obtain rfl:=ZoP hj
 have h0:=h.nn
 refine⟨Nat.lt_succ_self _,rfl,Zk,fun k hk=>?_,fun k hk=>?_⟩
 ·rcases ZoR k n with h1 | h1
  ·have:=h.le h1
   grind
  ·obtain rfl:k=n:=Za
   exact Rat.le_refl
 ·have:=h.le hk
  grind
theorem Best.keep {g:Nat->Rat} {n:Nat} {r:Option Nat} {m:Rat} (h:Best g n r m) (hle:g n<=m):Best g (n+1) r m:=by
 refine⟨fun hr=>?_,fun j hj=>?_⟩
 ·obtain⟨h1,h2⟩:=h.no hr
  refine⟨h1,fun k hk=>?_⟩
  rcases ZoR k n with h3 | h3
  ·exact h2 k h3
  ·obtain rfl:k=n:=Za
   rw[<- h1]
   exact hle
 ·obtain⟨h1,h2,h3,h4,h5⟩:=h.yes j hj
  refine⟨Za,h2,h3,fun k hk=>?_,h5⟩
  rcases ZoR k n with h6 | h6
  ·exact h4 k h6
  ·obtain rfl:k=n:=Za
   rw[<- h2]
   exact hle
theorem Best.det {g:Nat->Rat} {n:Nat} {r s:Option Nat} {m l:Rat} (h:Best g n r m) (k:Best g n s l):r=s/\m=l:=by
 cases r with
 | none=>
  obtain⟨h1,h2⟩:=h.no rfl
  cases s with
  | none=>exact⟨rfl,by rw[h1,(k.no rfl).1]⟩
  | some j=>
   obtain⟨k1,k2,k3,_⟩:=k.yes j rfl
   have:=h2 j k1
   exfalso
   grind
 | some i=>
  obtain⟨h1,h2,h3,h4,h5⟩:=h.yes i rfl
  cases s with
  | none=>
   have:=(k.no rfl).2 i h1
   exfalso
   grind
  | some j=>
   obtain⟨k1,k2,k3,k4,k5⟩:=k.yes j rfl
   have e1:=h4 j k1
   have e2:=k4 i h1
   rcases Nat.lt_trichotomy i j with h6 | rfl | h6
   ·have:=k5 i h6
    exfalso
    grind
   ·exact⟨rfl,by rw[h2,k2]⟩
   ·have:=h5 j h6
    exfalso
    grind
theorem Best.congr {f g:Nat->Rat} {n:Nat} {r:Option Nat} {m:Rat} (h:Best f n r m) (e:∀ k,k<n->f k=g k):Best g n r m:=by
 refine⟨fun hr=>⟨(h.no hr).1,fun k hk=>by rw[<- e k hk];exact(h.no hr).2 k hk⟩,fun j hj=>?_⟩
 obtain⟨h1,h2,h3,h4,h5⟩:=h.yes j hj
 exact⟨h1,by rw[<- e j h1];exact h2,h3,fun k hk=>by rw[<- e k hk,<- e j h1];exact h4 k hk,fun k hk=>by rw[<- e k Za,<- e j h1];exact h5 k hk⟩
structure LeastQ (q:Nat->Rat) (ok:Nat->Prop) (n:Nat) (r:Option Rat):Prop where
 no:r=none->∀ u,u<n->¬ ok u
 yes:∀ c,r=some c->(∃ u,u<n/\ok u/\c=q u)/\∀ u,u<n->ok u->c<=q u
theorem LeastQ.zero (q:Nat->Rat) (ok:Nat->Prop):LeastQ q ok 0 none:=⟨fun _ u h=>Zpp h (Zpb _),fun c h=>by cases h⟩
theorem LeastQ.skip {q:Nat->Rat} {ok:Nat->Prop} {n:Nat} {r:Option Rat} (h:LeastQ q ok n r) (hn:¬ ok n):LeastQ q ok (n+1) r:=by
 refine⟨fun hr u hu=>?_,fun c hc=>?_⟩
 ·rcases ZoR u n with h1 | h1
  ·exact h.no hr u h1
  ·obtain rfl:u=n:=Za
   exact hn
 ·obtain⟨⟨u,h1,h2,h3⟩,h4⟩:=h.yes c hc
  refine⟨⟨u,Za,h2,h3⟩,fun v hv hv2=>?_⟩
  rcases ZoR v n with h5 | h5
  ·exact h4 v h5 hv2
  ·obtain rfl:v=n:=Za
   exact Zpp hv2 hn
theorem LeastQ.take {q:Nat->Rat} {ok:Nat->Prop} {n:Nat} {r:Option Rat} (h:LeastQ q ok n r) (hn:ok n) (hl:∀ c,r=some c->q n<c):LeastQ q ok (n+1) (some (q n)):=by
 refine⟨fun h=>(by cases h),fun c hc=>?_⟩
 obtain rfl:=ZoP hc
 refine⟨⟨n,Za,hn,rfl⟩,fun v hv hv2=>?_⟩
 rcases ZoR v n with h5 | h5
 ·cases hr:r with
  | none=>exact Zpp hv2 (h.no hr v h5)
  | some c=>
   have h1:=(h.yes c hr).2 v h5 hv2
   have h2:=hl c hr
   grind
 ·obtain rfl:v=n:=Za
  exact Rat.le_refl
theorem LeastQ.keep {q:Nat->Rat} {ok:Nat->Prop} {n:Nat} {c:Rat} (h:LeastQ q ok n (some c)) (hl:c<=q n):LeastQ q ok (n+1) (some c):=by
 refine⟨fun h=>(by cases h),fun d hd=>?_⟩
 obtain rfl:=ZoP hd
 obtain⟨⟨u,h1,h2,h3⟩,h4⟩:=h.yes c rfl
 refine⟨⟨u,Za,h2,h3⟩,fun v hv hv2=>?_⟩
 rcases ZoR v n with h5 | h5
 ·exact h4 v h5 hv2
 ·obtain rfl:v=n:=Za
  exact hl
theorem LeastQ.det {q:Nat->Rat} {ok:Nat->Prop} {n:Nat} {r s:Option Rat} (h:LeastQ q ok n r) (g:LeastQ q ok n s):r=s:=by
 cases r with
 | none=>
  cases s with
  | none=>rfl
  | some c=>
   obtain⟨⟨u,h1,h2,_⟩,_⟩:=g.yes c rfl
   exact Zpp h2 (h.no rfl u h1)
 | some c=>
  obtain⟨⟨u,h1,h2,h3⟩,h4⟩:=h.yes c rfl
  cases s with
  | none=>exact Zpp h2 (g.no rfl u h1)
  | some d=>
   obtain⟨⟨v,g1,g2,g3⟩,g4⟩:=g.yes d rfl
   have e1:=h4 v g1 g2
   have e2:=g4 u h1 h2
   congr 1
   grind
end Go.Proofs.YtmpaflidennnoaaGreatDoor
