/- The parts RTwo, RTwo2, Not, DMiss, DSlope, ChanceTo, EffS, EffB. -/
import Derived.Test.YtmpaflidennnoaaGreatDoorH10
set_option maxRecDepth 100000
set_option maxHeartbeats 8000000
set_option linter.unusedVariables false
set_option linter.unusedSimpArgs false
namespace Go.Proofs.YtmpaflidennnoaaGreatDoor
open Go.RowKit Go.Shelf
attribute [local go_sem ↓] Go.wp_at_zero Go.wp_at_succ
theorem ZaV (s t u v:ByteArray) (w:World) (hs:s.size<=1000000) (ht:t.size<=1000000) (hu:u.size<=1000000) (hv:v.size<=1000000) :
  Calls Tryz.prog 115 #[Zpn s t,Zpn u v] w (Zfs w (Zbo s t u v)):=by
 obtain⟨c1,hc1⟩:=Zpr (okE s t)
 obtain⟨c2,hc2⟩:=Zpr (okE u v)
 have HM:Hid (max c1 c2=Zbo s t u v):=by show _=_;unfold Zbo;rw[hc1,hc2]
 have HC1:=Zpp hc1
 have HC2:=Zpp hc2
 clear hc1 hc2
 go_enter Tryz.func115,Tryz.ntmps115
 go_wp2_with fail
 obtain⟨w1,hw1⟩:=Zpr ((w.alloc (.cells #[.string s,.string t] 41)).alloc (.cells #[.string u,.string v] 41))
 rw[hw1]
 have HX1:Hid (Zw w.heap.size [.cells #[.string s,.string t] 41,.cells #[.string u,.string v] 41] w1):=by rw[<- hw1];exact Zw.two w _ _
 have HB1:Zpk w w1:=by rw[<- hw1];exact((ZoM _ w).alloc Zpq _).alloc Zc _
 clear hw1
 have k1:=HX1.out.f4
 obtain⟨ka1,kb1,kc1,kd1⟩:=id k1
 go_region_held3
  (fun w'=>w'.cell? ⟨w.heap.size,0,none⟩=some (.string s)/\w'.cell? ⟨w.heap.size,1,none⟩=some (.string t)/\w'.cell? ⟨w.heap.size+1,0,none⟩=some (.string u)/\w'.cell? ⟨w.heap.size+1,1,none⟩=some (.string v))
  (first | exact k1 | exact k2 | exact k3 | exact k4 | exact k5 | exact k6 | exact k7 | exact k8 | exact ZaR Za Za k9 _ _ | exact k9)
  (first
   | (go_at_call_of 142 (Value.agg #[.string s,.string t]);refine(ZbH s t _ hs ht).mono ?_;rintro e w2 ⟨rfl,hb⟩;rw[HC1.out];have HX2:=Zpp (HX1.out.drew.below hb HX1.out.lt);have HB2:Zpk w w2:=HB1.out.drew.trans (hb.mono HB1.out.size);have k2:=HX2.out.f4;clear hb)
   | (go_at_call_of 142 (Value.agg #[.string u,.string v]);refine(ZbH u v _ hu hv).mono ?_;rintro e w3 ⟨rfl,hb⟩;rw[HC2.out];have HX3:=Zpp (HX2.out.below hb HX2.out.lt);have HB3:Zpk w w3:=HB2.out.trans (hb.mono HB2.out.size);have k3:=HX3.out.f4;clear hb))
 go_wp2
 go_ret
 exact⟨by rw[<- HM.out];rfl,HB3.out⟩
theorem Zml {n m k:Nat} (h1:(Zp 10000 n).length<=k) (h2:(Zp 10000 m).length<=k):(Zp 10000 (n+m)).length<=k+1:=by
 refine Zag Za ?_
 have a1:=Zac (ZK (B:=10000) Za n)
 have a2:=Zac (ZK (B:=10000) Za m)
 rw[ZA Za] at a1 a2
 have b1:=ZoX (n:=10000) Za h1
 have b2:=ZoX (n:=10000) Za h2
 rw[Zpj]
 omega
theorem Zox (s t u v:ByteArray) (w:World) (hs:s.size<=1000000) (ht:t.size<=1000000) (hu:u.size<=1000000) (hv:v.size<=1000000) :
  Calls Tryz.prog 86 #[Zpn s t,Zpn u v] w (ZL (Bi s t u v (Ans (mkRat ((Zq s.data.toList*Zq u.data.toList:Nat):Int) (Zq t.data.toList*Zq v.data.toList)))) w):=by
 cases hq:(okP s t && okP u v)
 ·skip
  have HQ:Hid (Zbo s t u v=2):=ZdK hq
  have HK:=Zpp hq
  clear hq
  go_enter Tryz.func86,Tryz.ntmps86
  go_wp2_with fail
  obtain⟨w1,hw1⟩:=Zpr (((w.alloc (.cells #[.string s,.string t] 41)).alloc (.cells #[.string u,.string v] 41)).alloc (.cells #[.string Zpm,.string Zpm] 41))
  rw[hw1]
  have HX1:Hid (Zw w.heap.size [.cells #[.string s,.string t] 41,.cells #[.string u,.string v] 41,.cells #[.string Zpm,.string Zpm] 41] w1):=by rw[<- hw1];exact Zw.three w _ _ _
  have HB1:Zpk w w1:=by rw[<- hw1];exact(((ZoM _ w).alloc Zpq _).alloc Zc _).alloc (by simp<;>omega) _
  clear hw1
  refine(ZaV s t u v _ hs ht hu hv).mono ?_
  rintro e w2 ⟨rfl,hb2⟩
  rw[HQ.out]
  have HX2:=Zpp (HX1.out.below hb2 HX1.out.lt)
  have HB2:=Zpp (HB1.out.trans (hb2.mono HB1.out.size))
  clear hb2
  have r0:=HX2.out.cell 2 0 (b:=w.heap.size+1+1) rfl rfl rfl
  have r1:=HX2.out.cell 2 1 (b:=w.heap.size+1+1) rfl rfl rfl
  have f0:=HX2.out.free 2 0 (b:=w.heap.size+1+1) rfl rfl
  have f1:=HX2.out.free 2 1 (b:=w.heap.size+1+1) rfl rfl
  go_wp2
  have q:=Zt (HX2.out.block 2 (b:=w.heap.size+1+1) rfl rfl) (.string Zpm) (.string Zpm)
  have HBQ:=Zpp (Zs HB2.out (b:=w.heap.size+1+1) Za (.string Zpm) (.string Zpm))
  refine ZoN (v:=.tuple #[Zpn Zpm Zpm,.int .i64 2]) (by simp[results,Tryz.f86,go_sem,q.1,q.2]) rfl ⟨_,_,_,rfl,.inl ⟨HK.out,rfl,rfl,rfl⟩,HBQ.out⟩
 ·skip
  have HQ:Hid (Zbo s t u v=0):=Zdc hq
  have HK:=Zpp hq
  have hq2:=hq
  rw[Bool.and_eq_true] at hq2
  have g1:=rok hq2.1
  have g2:=rok hq2.2
  obtain⟨n1,hn1⟩:=Zpr (Zq s.data.toList)
  obtain⟨d1,hd1⟩:=Zpr (Zq t.data.toList)
  obtain⟨n2,hn2⟩:=Zpr (Zq u.data.toList)
  obtain⟨d2,hd2⟩:=Zpr (Zq v.data.toList)
  rw[hn1,hd1] at g1
  rw[hn2,hd2] at g2
  have HPS:Hid (∀ W,Calls Tryz.prog 118 #[.string s] W (Zao W n1)):=fun W=>by rw[<- hn1];exact ZX s hs g1.ds W
  have HPT:Hid (∀ W,Calls Tryz.prog 118 #[.string t] W (Zao W d1)):=fun W=>by rw[<- hd1];exact ZX t ht g1.dt W
  have HPU:Hid (∀ W,Calls Tryz.prog 118 #[.string u] W (Zao W n2)):=fun W=>by rw[<- hn2];exact ZX u hu g2.ds W
  have HPV:Hid (∀ W,Calls Tryz.prog 118 #[.string v] W (Zao W d2)):=fun W=>by rw[<- hd2];exact ZX v hv g2.dt W
  have l1:=g1.ls
  have l2:=g1.lt
  have l3:=g2.ls
  have l4:=g2.lt
  have z1:=g1.pos
  have z2:=g2.pos
  rw[hn1,hd1,hn2,hd2]
  have HN:=Zpp (And.intro hn1 (And.intro hd1 (And.intro hn2 hd2)))
  clear hq hq2 g1 g2 hn1 hd1 hn2 hd2
  have HL1:Hid ((Zp 10000 (n1*n2)).length<=100000):=ZoV (ZaD l1 l3) Za
  have HL2:Hid ((Zp 10000 (d1*d2)).length<=100000):=ZoV (ZaD l2 l4) Za
  have HD0:Hid (0<d1*d2):=Nat.mul_pos z1 z2
  go_enter Tryz.func86,Tryz.ntmps86
  go_wp2_with fail
  obtain⟨w1,hw1⟩:=Zpr (((w.alloc (.cells #[.string s,.string t] 41)).alloc (.cells #[.string u,.string v] 41)).alloc (.cells #[.string Zpm,.string Zpm] 41))
  rw[hw1]
  have HX1:Hid (Zw w.heap.size [.cells #[.string s,.string t] 41,.cells #[.string u,.string v] 41,.cells #[.string Zpm,.string Zpm] 41] w1):=by rw[<- hw1];exact Zw.three w _ _ _
  have HB1:Zpk w w1:=by rw[<- hw1];exact(((ZoM _ w).alloc Zpq _).alloc Zc _).alloc (by simp<;>omega) _
  clear hw1
  refine(ZaV s t u v _ hs ht hu hv).mono ?_
  rintro e w2 ⟨rfl,hb2⟩
  rw[HQ.out]
  have HX2:=Zpp (HX1.out.below hb2 HX1.out.lt)
  have HB2:=Zpp (HB1.out.trans (hb2.mono HB1.out.size))
  clear hb2
  have k2:=HX2.out.f4
  obtain⟨ka2,kb2,kc2,kd2⟩:=id k2
  go_wp2_with fail
  go_region_held3
   (fun w'=>w'.cell? ⟨w.heap.size,0,none⟩=some (.string s)/\w'.cell? ⟨w.heap.size,1,none⟩=some (.string t)/\w'.cell? ⟨w.heap.size+1,0,none⟩=some (.string u)/\w'.cell? ⟨w.heap.size+1,1,none⟩=some (.string v))
   (first | exact k1 | exact k2 | exact k3 | exact k4 | exact k5 | exact k6 | exact k7 | exact k8 | exact ZaR Za Za k9 _ _ | exact k9)
   (first
    | (go_at_call_of 118 (Value.string s);refine(HPS.out _).mono ?_;rintro e w3 ⟨va,rfl,hv,hb⟩;obtain⟨pa,ma,ca,rfl⟩:=hv.form;have NA:=Zpp hv;have HX3:=Zpp (HX2.out.drew.below hb HX2.out.lt);have HB3:Zpk w w3:=HB2.out.drew.trans (hb.mono HB2.out.drew.size);have k3:=HX3.out.f4;clear hv hb)
    | (go_at_call_of 118 (Value.string u);refine(HPU.out _).mono ?_;rintro e w4 ⟨vb,rfl,hv,hb⟩;obtain⟨pb,mb,cb,rfl⟩:=hv.form;have NB:=Zpp hv;have NA4:=Zpp (NA.out.after hb Zpq);have HX4:=Zpp (HX3.out.below hb HX3.out.lt);have HB4:Zpk w w4:=HB3.out.trans (hb.mono HB3.out.size);have k4:=HX4.out.f4;clear hv hb)
    | (go_at_call_of 117 (Value.slice pa ma ca);refine(Zam NA4.out NB.out Za Za).mono ?_;rintro e w5 ⟨vc,rfl,hv,hb⟩;obtain⟨pc,mc,cc,rfl⟩:=hv.form;have NC:=Zpp hv;have HX5:=Zpp (HX4.out.below hb HX4.out.lt);have HB5:Zpk w w5:=HB4.out.trans (hb.mono HB4.out.size);have k5:=HX5.out.f4;clear hv hb)
    | (go_at_call_of 118 (Value.string t);refine(HPT.out _).mono ?_;rintro e w6 ⟨vd,rfl,hv,hb⟩;obtain⟨pd,md,cd,rfl⟩:=hv.form;have ND:=Zpp hv;have NC6:=Zpp (NC.out.after hb Zpq);have HX6:=Zpp (HX5.out.below hb HX5.out.lt);have HB6:Zpk w w6:=HB5.out.trans (hb.mono HB5.out.size);have k6:=HX6.out.f4;clear hv hb)
    | (go_at_call_of 118 (Value.string v);refine(HPV.out _).mono ?_;rintro e w7 ⟨ve,rfl,hv,hb⟩;obtain⟨pe,me,ce,rfl⟩:=hv.form;have NE:=Zpp hv;have NC7:=Zpp (NC6.out.after hb Zpq);have ND7:=Zpp (ND.out.after hb Zpq);have HX7:=Zpp (HX6.out.below hb HX6.out.lt);have HB7:Zpk w w7:=HB6.out.trans (hb.mono HB6.out.size);have k7:=HX7.out.f4;clear hv hb)
    | (go_at_call_of 117 (Value.slice pd md cd);refine(Zam ND7.out NE.out Za Za).mono ?_;rintro e w8 ⟨vf,rfl,hv,hb⟩;obtain⟨pf,mf,cf,rfl⟩:=hv.form;have NF:=Zpp hv;have NC8:=Zpp (NC7.out.after hb Zpq);have HX8:=Zpp (HX7.out.below hb HX7.out.lt);have HB8:Zpk w w8:=HB7.out.trans (hb.mono HB7.out.size);have k8:=HX8.out.f4;clear hv hb)
    | (go_at_call 141;refine(ZdH NC8.out NF.out HL1.out HL2.out HD0.out).mono ?_;rintro e w9 ⟨x,y,n,rfl,hR,hb9⟩;have HR:=Zpp hR;have HX9:=Zpp (HX8.out.below hb9 HX8.out.lt);have HB9:Zpk w w9:=HB8.out.trans (hb9.mono HB8.out.size);have k9:=HX9.out.f4;have r0:=HX9.out.cell 2 0 (b:=w.heap.size+1+1) rfl rfl rfl;have r1:=HX9.out.cell 2 1 (b:=w.heap.size+1+1) rfl rfl rfl;have f0:=HX9.out.free 2 0 (b:=w.heap.size+1+1) rfl rfl;have f1:=HX9.out.free 2 1 (b:=w.heap.size+1+1) rfl rfl;clear hR hb9)
   )
  all_goals
   have q:=Zt (HX9.out.block 2 (b:=w.heap.size+1+1) rfl rfl) (.string x) (.string y)
   have HBQ:=Zpp (Zs HB9.out (b:=w.heap.size+1+1) Za (.string x) (.string y))
   obtain⟨wz,hwz⟩:=Zpr ((w9.setCell ⟨w.heap.size+1+1,0,none⟩ (.string x)).setCell ⟨w.heap.size+1+1,1,none⟩ (.string y))
   rw[hwz] at q HBQ
   obtain⟨q0,q1⟩:=q
   rw[hwz]
   clear r0 r1 f0 f1 hwz
   go_wp2
   refine ZoN (v:=.tuple #[Zpn x y,.int .i64 n]) (by simp[results,Tryz.f86,go_sem,q0,q1]) rfl ⟨_,_,_,rfl,?_,HBQ.out⟩
   exact .inr ⟨HK.out,HR.out⟩
theorem ZoC (s t u v:ByteArray) (w:World) (hs:s.size<=1000000) (ht:t.size<=1000000) (hu:u.size<=1000000) (hv:v.size<=1000000) :
  Calls Tryz.prog 88 #[Zpn s t,Zpn u v] w (ZL (Bi s t u v (Ans (mkRat ((Zq s.data.toList*Zq v.data.toList+Zq u.data.toList*Zq t.data.toList:Nat):Int) (Zq t.data.toList*Zq v.data.toList)))) w):=by
 cases hq:(okP s t && okP u v)
 ·skip
  have HQ:Hid (Zbo s t u v=2):=ZdK hq
  have HK:=Zpp hq
  clear hq
  go_enter Tryz.func88,Tryz.ntmps88
  go_wp2_with fail
  obtain⟨w1,hw1⟩:=Zpr (((w.alloc (.cells #[.string s,.string t] 41)).alloc (.cells #[.string u,.string v] 41)).alloc (.cells #[.string Zpm,.string Zpm] 41))
  rw[hw1]
  have HX1:Hid (Zw w.heap.size [.cells #[.string s,.string t] 41,.cells #[.string u,.string v] 41,.cells #[.string Zpm,.string Zpm] 41] w1):=by rw[<- hw1];exact Zw.three w _ _ _
  have HB1:Zpk w w1:=by rw[<- hw1];exact(((ZoM _ w).alloc Zpq _).alloc Zc _).alloc (by simp<;>omega) _
  clear hw1
  refine(ZaV s t u v _ hs ht hu hv).mono ?_
  rintro e w2 ⟨rfl,hb2⟩
  rw[HQ.out]
  have HX2:=Zpp (HX1.out.below hb2 HX1.out.lt)
  have HB2:=Zpp (HB1.out.trans (hb2.mono HB1.out.size))
  clear hb2
  have r0:=HX2.out.cell 2 0 (b:=w.heap.size+1+1) rfl rfl rfl
  have r1:=HX2.out.cell 2 1 (b:=w.heap.size+1+1) rfl rfl rfl
  have f0:=HX2.out.free 2 0 (b:=w.heap.size+1+1) rfl rfl
  have f1:=HX2.out.free 2 1 (b:=w.heap.size+1+1) rfl rfl
  go_wp2
  have q:=Zt (HX2.out.block 2 (b:=w.heap.size+1+1) rfl rfl) (.string Zpm) (.string Zpm)
  have HBQ:=Zpp (Zs HB2.out (b:=w.heap.size+1+1) Za (.string Zpm) (.string Zpm))
  refine ZoN (v:=.tuple #[Zpn Zpm Zpm,.int .i64 2]) (by simp[results,Tryz.f88,go_sem,q.1,q.2]) rfl ⟨_,_,_,rfl,.inl ⟨HK.out,rfl,rfl,rfl⟩,HBQ.out⟩
 ·skip
  have HQ:Hid (Zbo s t u v=0):=Zdc hq
  have HK:=Zpp hq
  have hq2:=hq
  rw[Bool.and_eq_true] at hq2
  have g1:=rok hq2.1
  have g2:=rok hq2.2
  obtain⟨n1,hn1⟩:=Zpr (Zq s.data.toList)
  obtain⟨d1,hd1⟩:=Zpr (Zq t.data.toList)
  obtain⟨n2,hn2⟩:=Zpr (Zq u.data.toList)
  obtain⟨d2,hd2⟩:=Zpr (Zq v.data.toList)
  rw[hn1,hd1] at g1
  rw[hn2,hd2] at g2
  have HPS:Hid (∀ W,Calls Tryz.prog 118 #[.string s] W (Zao W n1)):=fun W=>by rw[<- hn1];exact ZX s hs g1.ds W
  have HPT:Hid (∀ W,Calls Tryz.prog 118 #[.string t] W (Zao W d1)):=fun W=>by rw[<- hd1];exact ZX t ht g1.dt W
  have HPU:Hid (∀ W,Calls Tryz.prog 118 #[.string u] W (Zao W n2)):=fun W=>by rw[<- hn2];exact ZX u hu g2.ds W
  have HPV:Hid (∀ W,Calls Tryz.prog 118 #[.string v] W (Zao W d2)):=fun W=>by rw[<- hd2];exact ZX v hv g2.dt W
  have l1:=g1.ls
  have l2:=g1.lt
  have l3:=g2.ls
  have l4:=g2.lt
  have z1:=g1.pos
  have z2:=g2.pos
  rw[hn1,hd1,hn2,hd2]
  have HN:=Zpp (And.intro hn1 (And.intro hd1 (And.intro hn2 hd2)))
  clear hq hq2 g1 g2 hn1 hd1 hn2 hd2
  have M1:Hid ((Zp 10000 (n1*d2)).length<=300):=ZoV (ZaD l1 l4) Za
  have M2:Hid ((Zp 10000 (n2*d1)).length<=300):=ZoV (ZaD l3 l2) Za
  have HL2:Hid ((Zp 10000 (d1*d2)).length<=100000):=ZoV (ZaD l2 l4) Za
  have HD0:Hid (0<d1*d2):=Nat.mul_pos z1 z2
  have HL1:Hid ((Zp 10000 (n1*d2+n2*d1)).length<=100000):=ZoV (Zml M1.out M2.out) Za
  go_enter Tryz.func88,Tryz.ntmps88
  go_wp2_with fail
  obtain⟨w1,hw1⟩:=Zpr (((w.alloc (.cells #[.string s,.string t] 41)).alloc (.cells #[.string u,.string v] 41)).alloc (.cells #[.string Zpm,.string Zpm] 41))
  rw[hw1]
  have HX1:Hid (Zw w.heap.size [.cells #[.string s,.string t] 41,.cells #[.string u,.string v] 41,.cells #[.string Zpm,.string Zpm] 41] w1):=by rw[<- hw1];exact Zw.three w _ _ _
  have HB1:Zpk w w1:=by rw[<- hw1];exact(((ZoM _ w).alloc Zpq _).alloc Zc _).alloc (by simp<;>omega) _
  clear hw1
  refine(ZaV s t u v _ hs ht hu hv).mono ?_
  rintro e w2 ⟨rfl,hb2⟩
  rw[HQ.out]
  have HX2:=Zpp (HX1.out.below hb2 HX1.out.lt)
  have HB2:=Zpp (HB1.out.trans (hb2.mono HB1.out.size))
  clear hb2
  have k2:=HX2.out.f4
  obtain⟨ka2,kb2,kc2,kd2⟩:=id k2
  go_wp2_with fail
  go_region_held3
   (fun w'=>w'.cell? ⟨w.heap.size,0,none⟩=some (.string s)/\w'.cell? ⟨w.heap.size,1,none⟩=some (.string t)/\w'.cell? ⟨w.heap.size+1,0,none⟩=some (.string u)/\w'.cell? ⟨w.heap.size+1,1,none⟩=some (.string v))
   (first | exact k1 | exact k2 | exact k3 | exact k4 | exact k5 | exact k6 | exact k7 | exact k8 | exact ZaR Za Za k9 _ _ | exact k9)
   (first
    | (go_at_call_of 118 (Value.string s);refine(HPS.out _).mono ?_;rintro e w3 ⟨va,rfl,hv,hb⟩;obtain⟨pa,ma,ca,rfl⟩:=hv.form;have NA:=Zpp hv;have HX3:=Zpp (HX2.out.drew.below hb HX2.out.lt);have HB3:Zpk w w3:=HB2.out.drew.trans (hb.mono HB2.out.drew.size);have k3:=HX3.out.f4;clear hv hb)
    | (go_at_call_of 118 (Value.string v);refine(HPV.out _).mono ?_;rintro e w4 ⟨vb,rfl,hv,hb⟩;obtain⟨pb,mb,cb,rfl⟩:=hv.form;have NB:=Zpp hv;have NA4:=Zpp (NA.out.after hb Zpq);have HX4:=Zpp (HX3.out.below hb HX3.out.lt);have HB4:Zpk w w4:=HB3.out.trans (hb.mono HB3.out.size);have k4:=HX4.out.f4;clear hv hb)
    | (go_at_call_of 117 (Value.slice pa ma ca);refine(Zam NA4.out NB.out Za Za).mono ?_;rintro e w5 ⟨vc,rfl,hv,hb⟩;obtain⟨pc,mc,cc,rfl⟩:=hv.form;have NC:=Zpp hv;have HX5:=Zpp (HX4.out.below hb HX4.out.lt);have HB5:Zpk w w5:=HB4.out.trans (hb.mono HB4.out.size);have k5:=HX5.out.f4;clear hv hb)
   )
  go_wp2_with fail
  go_region_held3
   (fun w'=>w'.cell? ⟨w.heap.size,0,none⟩=some (.string s)/\w'.cell? ⟨w.heap.size,1,none⟩=some (.string t)/\w'.cell? ⟨w.heap.size+1,0,none⟩=some (.string u)/\w'.cell? ⟨w.heap.size+1,1,none⟩=some (.string v))
   (first | exact k1 | exact k2 | exact k3 | exact k4 | exact k5 | exact k6 | exact k7 | exact k8 | exact ZaR Za Za k9 _ _ | exact k9)
   (first
    | (go_at_call_of 118 (Value.string u);refine(HPU.out _).mono ?_;rintro e w6 ⟨vd,rfl,hv,hb⟩;obtain⟨pd,md,cd,rfl⟩:=hv.form;have ND:=Zpp hv;have NC6:=Zpp (PNum.after (w:=w5.drew) NC.out hb Zpq);have HX6:=Zpp (HX5.out.drew.below hb HX5.out.lt);have HB6:Zpk w w6:=HB5.out.drew.trans (hb.mono HB5.out.drew.size);have k6:=HX6.out.f4;clear hv hb)
    | (go_at_call_of 118 (Value.string t);refine(HPT.out _).mono ?_;rintro e w7 ⟨ve,rfl,hv,hb⟩;obtain⟨pe,me,ce,rfl⟩:=hv.form;have NE:=Zpp hv;have NC7:=Zpp (NC6.out.after hb Zpq);have ND7:=Zpp (ND.out.after hb Zpq);have HX7:=Zpp (HX6.out.below hb HX6.out.lt);have HB7:Zpk w w7:=HB6.out.trans (hb.mono HB6.out.size);have k7:=HX7.out.f4;clear hv hb)
    | (go_at_call_of 117 (Value.slice pd md cd);refine(Zam ND7.out NE.out Za Za).mono ?_;rintro e w8 ⟨vf,rfl,hv,hb⟩;obtain⟨pf,mf,cf,rfl⟩:=hv.form;have NF:=Zpp hv;have NC8:=Zpp (NC7.out.after hb Zpq);have HX8:=Zpp (HX7.out.below hb HX7.out.lt);have HB8:Zpk w w8:=HB7.out.trans (hb.mono HB7.out.size);have k8:=HX8.out.f4;clear hv hb)
   )
  go_wp2_with fail
  go_region_held3
   (fun w'=>w'.cell? ⟨w.heap.size,0,none⟩=some (.string s)/\w'.cell? ⟨w.heap.size,1,none⟩=some (.string t)/\w'.cell? ⟨w.heap.size+1,0,none⟩=some (.string u)/\w'.cell? ⟨w.heap.size+1,1,none⟩=some (.string v))
   (first | exact k1 | exact k2 | exact k3 | exact k4 | exact k5 | exact k6 | exact k7 | exact k8 | exact ZaR Za Za k9 _ _ | exact k9)
   (first
    | (go_at_call_of 143 (Value.slice pc mc cc);refine(Zl1 (NC8.out.after (ZoM w8.heap.size w8).drew Zpq) (NF.out.after (ZoM w8.heap.size w8).drew Zpq) (by have:=M1.out;omega) (by have:=M2.out;omega)).mono ?_;rintro e w11 ⟨vg,rfl,hv,hb⟩;obtain⟨pg,mg,cg,rfl⟩:=hv.form;have NG:=Zpp hv;have HX11:=Zpp (HX8.out.drew.below hb HX8.out.lt);have HB11:Zpk w w11:=HB8.out.drew.trans (hb.mono HB8.out.drew.size);have k3:=HX11.out.f4;clear hv hb)
    | (go_at_call_of 118 (Value.string t);refine(HPT.out _).mono ?_;rintro e w12 ⟨vh,rfl,hv,hb⟩;obtain⟨ph,mh,ch,rfl⟩:=hv.form;have NH:=Zpp hv;have NG12:=Zpp (NG.out.after hb Zpq);have HX12:=Zpp (HX11.out.below hb HX11.out.lt);have HB12:Zpk w w12:=HB11.out.trans (hb.mono HB11.out.size);have k4:=HX12.out.f4;clear hv hb)
    | (go_at_call_of 118 (Value.string v);refine(HPV.out _).mono ?_;rintro e w13 ⟨vi,rfl,hv,hb⟩;obtain⟨pi,mi,ci,rfl⟩:=hv.form;have NI:=Zpp hv;have NG13:=Zpp (NG12.out.after hb Zpq);have NH13:=Zpp (NH.out.after hb Zpq);have HX13:=Zpp (HX12.out.below hb HX12.out.lt);have HB13:Zpk w w13:=HB12.out.trans (hb.mono HB12.out.size);have k5:=HX13.out.f4;clear hv hb)
    | (go_at_call_of 117 (Value.slice ph mh ch);refine(Zam NH13.out NI.out Za Za).mono ?_;rintro e w14 ⟨vj,rfl,hv,hb⟩;obtain⟨pj,mj,cj,rfl⟩:=hv.form;have NJ:=Zpp hv;have NG14:=Zpp (NG13.out.after hb Zpq);have HX14:=Zpp (HX13.out.below hb HX13.out.lt);have HB14:Zpk w w14:=HB13.out.trans (hb.mono HB13.out.size);have k6:=HX14.out.f4;clear hv hb)
    | (go_at_call 141;refine(ZdH NG14.out NJ.out HL1.out HL2.out HD0.out).mono ?_;rintro e w9 ⟨x,y,n,rfl,hR,hb9⟩;have HR:=Zpp hR;have HX9:=Zpp (HX14.out.below hb9 HX14.out.lt);have HB9:Zpk w w9:=HB14.out.trans (hb9.mono HB14.out.size);have k9:=HX9.out.f4;have r0:=HX9.out.cell 2 0 (b:=w.heap.size+1+1) rfl rfl rfl;have r1:=HX9.out.cell 2 1 (b:=w.heap.size+1+1) rfl rfl rfl;have f0:=HX9.out.free 2 0 (b:=w.heap.size+1+1) rfl rfl;have f1:=HX9.out.free 2 1 (b:=w.heap.size+1+1) rfl rfl;clear hR hb9)
   )
  all_goals
   have q:=Zt (HX9.out.block 2 (b:=w.heap.size+1+1) rfl rfl) (.string x) (.string y)
   have HBQ:=Zpp (Zs HB9.out (b:=w.heap.size+1+1) Za (.string x) (.string y))
   obtain⟨wz,hwz⟩:=Zpr ((w9.setCell ⟨w.heap.size+1+1,0,none⟩ (.string x)).setCell ⟨w.heap.size+1+1,1,none⟩ (.string y))
   rw[hwz] at q HBQ
   obtain⟨q0,q1⟩:=q
   rw[hwz]
   clear r0 r1 f0 f1 hwz
   go_wp2
   refine ZoN (v:=.tuple #[Zpn x y,.int .i64 n]) (by simp[results,Tryz.f88,go_sem,q0,q1]) rfl ⟨_,_,_,rfl,?_,HBQ.out⟩
   exact .inr ⟨HK.out,HR.out⟩
theorem ZoG (s t u v:ByteArray) (w:World) (hs:s.size<=1000000) (ht:t.size<=1000000) (hu:u.size<=1000000) (hv:v.size<=1000000) :
  Calls Tryz.prog 105 #[Zpn s t,Zpn u v] w (ZL (Bi s t u v (SubR (Zq s.data.toList) (Zq t.data.toList) (Zq u.data.toList) (Zq v.data.toList))) w):=by
 cases hq:(okP s t && okP u v)
 ·skip
  have HQ:Hid (Zbo s t u v=2):=ZdK hq
  have HK:=Zpp hq
  clear hq
  go_enter Tryz.func105,Tryz.ntmps105
  go_wp2_with fail
  obtain⟨w1,hw1⟩:=Zpr (((w.alloc (.cells #[.string s,.string t] 41)).alloc (.cells #[.string u,.string v] 41)).alloc (.cells #[.string Zpm,.string Zpm] 41))
  rw[hw1]
  have HX1:Hid (Zw w.heap.size [.cells #[.string s,.string t] 41,.cells #[.string u,.string v] 41,.cells #[.string Zpm,.string Zpm] 41] w1):=by rw[<- hw1];exact Zw.three w _ _ _
  have HB1:Zpk w w1:=by rw[<- hw1];exact(((ZoM _ w).alloc Zpq _).alloc Zc _).alloc (by simp<;>omega) _
  clear hw1
  refine(ZaV s t u v _ hs ht hu hv).mono ?_
  rintro e w2 ⟨rfl,hb2⟩
  rw[HQ.out]
  have HX2:=Zpp (HX1.out.below hb2 HX1.out.lt)
  have HB2:=Zpp (HB1.out.trans (hb2.mono HB1.out.size))
  clear hb2
  have r0:=HX2.out.cell 2 0 (b:=w.heap.size+1+1) rfl rfl rfl
  have r1:=HX2.out.cell 2 1 (b:=w.heap.size+1+1) rfl rfl rfl
  have f0:=HX2.out.free 2 0 (b:=w.heap.size+1+1) rfl rfl
  have f1:=HX2.out.free 2 1 (b:=w.heap.size+1+1) rfl rfl
  go_wp2
  have q:=Zt (HX2.out.block 2 (b:=w.heap.size+1+1) rfl rfl) (.string Zpm) (.string Zpm)
  have HBQ:=Zpp (Zs HB2.out (b:=w.heap.size+1+1) Za (.string Zpm) (.string Zpm))
  refine ZoN (v:=.tuple #[Zpn Zpm Zpm,.int .i64 2]) (by simp[results,Tryz.f105,go_sem,q.1,q.2]) rfl ⟨_,_,_,rfl,.inl ⟨HK.out,rfl,rfl,rfl⟩,HBQ.out⟩
 ·skip
  have HQ:Hid (Zbo s t u v=0):=Zdc hq
  have HK:=Zpp hq
  have hq2:=hq
  rw[Bool.and_eq_true] at hq2
  have g1:=rok hq2.1
  have g2:=rok hq2.2
  obtain⟨n1,hn1⟩:=Zpr (Zq s.data.toList)
  obtain⟨d1,hd1⟩:=Zpr (Zq t.data.toList)
  obtain⟨n2,hn2⟩:=Zpr (Zq u.data.toList)
  obtain⟨d2,hd2⟩:=Zpr (Zq v.data.toList)
  rw[hn1,hd1] at g1
  rw[hn2,hd2] at g2
  have HPS:Hid (∀ W,Calls Tryz.prog 118 #[.string s] W (Zao W n1)):=fun W=>by rw[<- hn1];exact ZX s hs g1.ds W
  have HPT:Hid (∀ W,Calls Tryz.prog 118 #[.string t] W (Zao W d1)):=fun W=>by rw[<- hd1];exact ZX t ht g1.dt W
  have HPU:Hid (∀ W,Calls Tryz.prog 118 #[.string u] W (Zao W n2)):=fun W=>by rw[<- hn2];exact ZX u hu g2.ds W
  have HPV:Hid (∀ W,Calls Tryz.prog 118 #[.string v] W (Zao W d2)):=fun W=>by rw[<- hd2];exact ZX v hv g2.dt W
  have l1:=g1.ls
  have l2:=g1.lt
  have l3:=g2.ls
  have l4:=g2.lt
  have z1:=g1.pos
  have z2:=g2.pos
  rw[hn1,hd1,hn2,hd2]
  have HN:=Zpp (And.intro hn1 (And.intro hd1 (And.intro hn2 hd2)))
  clear hq hq2 g1 g2 hn1 hd1 hn2 hd2
  have M1:Hid ((Zp 10000 (n1*d2)).length<=300):=ZoV (ZaD l1 l4) Za
  have M2:Hid ((Zp 10000 (n2*d1)).length<=300):=ZoV (ZaD l3 l2) Za
  have HL2:Hid ((Zp 10000 (d1*d2)).length<=100000):=ZoV (ZaD l2 l4) Za
  have HD0:Hid (0<d1*d2):=Nat.mul_pos z1 z2
  have HL1:Hid ((Zp 10000 (n1*d2-n2*d1)).length<=100000):=ZoV (ZP Za (Nat.sub_le _ _)) (by have:=M1.out;omega)
  go_enter Tryz.func105,Tryz.ntmps105
  go_wp2_with fail
  obtain⟨w1,hw1⟩:=Zpr (((w.alloc (.cells #[.string s,.string t] 41)).alloc (.cells #[.string u,.string v] 41)).alloc (.cells #[.string Zpm,.string Zpm] 41))
  rw[hw1]
  have HX1:Hid (Zw w.heap.size [.cells #[.string s,.string t] 41,.cells #[.string u,.string v] 41,.cells #[.string Zpm,.string Zpm] 41] w1):=by rw[<- hw1];exact Zw.three w _ _ _
  have HB1:Zpk w w1:=by rw[<- hw1];exact(((ZoM _ w).alloc Zpq _).alloc Zc _).alloc (by simp<;>omega) _
  clear hw1
  refine(ZaV s t u v _ hs ht hu hv).mono ?_
  rintro e w2 ⟨rfl,hb2⟩
  rw[HQ.out]
  have HX2:=Zpp (HX1.out.below hb2 HX1.out.lt)
  have HB2:=Zpp (HB1.out.trans (hb2.mono HB1.out.size))
  clear hb2
  have k2:=HX2.out.f4
  obtain⟨ka2,kb2,kc2,kd2⟩:=id k2
  go_wp2_with fail
  go_region_held3
   (fun w'=>w'.cell? ⟨w.heap.size,0,none⟩=some (.string s)/\w'.cell? ⟨w.heap.size,1,none⟩=some (.string t)/\w'.cell? ⟨w.heap.size+1,0,none⟩=some (.string u)/\w'.cell? ⟨w.heap.size+1,1,none⟩=some (.string v))
   (first | exact k1 | exact k2 | exact k3 | exact k4 | exact k5 | exact k6 | exact k7 | exact k8 | exact ZaR Za Za k9 _ _ | exact k9)
   (first
    | (go_at_call_of 118 (Value.string s);refine(HPS.out _).mono ?_;rintro e w3 ⟨va,rfl,hv,hb⟩;obtain⟨pa,ma,ca,rfl⟩:=hv.form;have NA:=Zpp hv;have HX3:=Zpp (HX2.out.drew.below hb HX2.out.lt);have HB3:Zpk w w3:=HB2.out.drew.trans (hb.mono HB2.out.drew.size);have k3:=HX3.out.f4;clear hv hb)
    | (go_at_call_of 118 (Value.string v);refine(HPV.out _).mono ?_;rintro e w4 ⟨vb,rfl,hv,hb⟩;obtain⟨pb,mb,cb,rfl⟩:=hv.form;have NB:=Zpp hv;have NA4:=Zpp (NA.out.after hb Zpq);have HX4:=Zpp (HX3.out.below hb HX3.out.lt);have HB4:Zpk w w4:=HB3.out.trans (hb.mono HB3.out.size);have k4:=HX4.out.f4;clear hv hb)
    | (go_at_call_of 117 (Value.slice pa ma ca);refine(Zam NA4.out NB.out Za Za).mono ?_;rintro e w5 ⟨vc,rfl,hv,hb⟩;obtain⟨pc,mc,cc,rfl⟩:=hv.form;have NC:=Zpp hv;have HX5:=Zpp (HX4.out.below hb HX4.out.lt);have HB5:Zpk w w5:=HB4.out.trans (hb.mono HB4.out.size);have k5:=HX5.out.f4;clear hv hb)
   )
  go_wp2_with fail
  go_region_held3
   (fun w'=>w'.cell? ⟨w.heap.size,0,none⟩=some (.string s)/\w'.cell? ⟨w.heap.size,1,none⟩=some (.string t)/\w'.cell? ⟨w.heap.size+1,0,none⟩=some (.string u)/\w'.cell? ⟨w.heap.size+1,1,none⟩=some (.string v))
   (first | exact k1 | exact k2 | exact k3 | exact k4 | exact k5 | exact k6 | exact k7 | exact k8 | exact ZaR Za Za k9 _ _ | exact k9)
   (first
    | (go_at_call_of 118 (Value.string u);refine(HPU.out _).mono ?_;rintro e w6 ⟨vd,rfl,hv,hb⟩;obtain⟨pd,md,cd,rfl⟩:=hv.form;have ND:=Zpp hv;have NC6:=Zpp (PNum.after (w:=w5.drew) NC.out hb Zpq);have HX6:=Zpp (HX5.out.drew.below hb HX5.out.lt);have HB6:Zpk w w6:=HB5.out.drew.trans (hb.mono HB5.out.drew.size);have k6:=HX6.out.f4;clear hv hb)
    | (go_at_call_of 118 (Value.string t);refine(HPT.out _).mono ?_;rintro e w7 ⟨ve,rfl,hv,hb⟩;obtain⟨pe,me,ce,rfl⟩:=hv.form;have NE:=Zpp hv;have NC7:=Zpp (NC6.out.after hb Zpq);have ND7:=Zpp (ND.out.after hb Zpq);have HX7:=Zpp (HX6.out.below hb HX6.out.lt);have HB7:Zpk w w7:=HB6.out.trans (hb.mono HB6.out.size);have k7:=HX7.out.f4;clear hv hb)
    | (go_at_call_of 117 (Value.slice pd md cd);refine(Zam ND7.out NE.out Za Za).mono ?_;rintro e w8 ⟨vf,rfl,hv,hb⟩;obtain⟨pf,mf,cf,rfl⟩:=hv.form;have NF:=Zpp hv;have NC8:=Zpp (NC7.out.after hb Zpq);have HX8:=Zpp (HX7.out.below hb HX7.out.lt);have HB8:Zpk w w8:=HB7.out.trans (hb.mono HB7.out.size);have k8:=HX8.out.f4;clear hv hb)
   )
  go_wp2_with fail
  refine(ZdY NC8.out NF.out (by have:=M1.out;omega) (by have:=M2.out;omega)).mono ?_
  rintro e w15 ⟨rfl,hb⟩
  have HX15:=Zpp (HX8.out.below hb HX8.out.lt)
  have HB15:Zpk w w15:=HB8.out.trans (hb.mono HB8.out.size)
  have NC15:=Zpp (NC8.out.after hb Zpq)
  have NF15:=Zpp (NF.out.after hb Zpq)
  clear hb
  rcases ZoS (n1*d2) (n2*d1) with hlt | hge
  ·have hsg:sgnN (n1*d2) (n2*d1)<0:=ZeK.2 hlt
   have HLT:=Zpp hlt
   have r0:=HX15.out.cell 2 0 (b:=w.heap.size+1+1) rfl rfl rfl
   have r1:=HX15.out.cell 2 1 (b:=w.heap.size+1+1) rfl rfl rfl
   have f0:=HX15.out.free 2 0 (b:=w.heap.size+1+1) rfl rfl
   have f1:=HX15.out.free 2 1 (b:=w.heap.size+1+1) rfl rfl
   clear hlt
   go_wp2
   have q:=Zt (HX15.out.block 2 (b:=w.heap.size+1+1) rfl rfl) (.string Zpm) (.string Zpm)
   have HBQ:=Zpp (Zs HB15.out (b:=w.heap.size+1+1) Za (.string Zpm) (.string Zpm))
   refine ZoN (v:=.tuple #[Zpn Zpm Zpm,.int .i64 11]) (by simp[results,Tryz.f105,go_sem,q.1,q.2]) rfl ⟨_,_,_,rfl,.inr ⟨HK.out,.inl ⟨HLT.out,rfl,rfl,rfl⟩⟩,HBQ.out⟩
  ·have hsg:¬ sgnN (n1*d2) (n2*d1)<0:=fun h=>by have:=ZeK.1 h;omega
   have HGE:=Zpp hge
   clear hge
   have k2:=HX15.out.f4
   obtain⟨ka2,kb2,kc2,kd2⟩:=id k2
   go_wp2_with fail
   go_region_held3
    (fun w'=>w'.cell? ⟨w.heap.size,0,none⟩=some (.string s)/\w'.cell? ⟨w.heap.size,1,none⟩=some (.string t)/\w'.cell? ⟨w.heap.size+1,0,none⟩=some (.string u)/\w'.cell? ⟨w.heap.size+1,1,none⟩=some (.string v))
    (first | exact k1 | exact k2 | exact k3 | exact k4 | exact k5 | exact k6 | exact k7 | exact k8 | exact ZaR Za Za k9 _ _ | exact k9)
    (first
     | (go_at_call_of 156 (Value.slice pc mc cc);refine(Zgu (PNum.after (w':=w15.drew) NC15.out (ZoM w15.heap.size w15).drew Zpq) (PNum.after (w':=w15.drew) NF15.out (ZoM w15.heap.size w15).drew Zpq) HGE.out (by have:=M1.out;omega)).mono ?_;rintro e w11 ⟨vg,rfl,hv,hb⟩;obtain⟨pg,mg,cg,rfl⟩:=hv.form;have NG:=Zpp hv;have HX11:=Zpp (HX15.out.drew.below hb HX15.out.lt);have HB11:Zpk w w11:=HB15.out.drew.trans (hb.mono HB15.out.drew.size);have k3:=HX11.out.f4;clear hv hb)
     | (go_at_call_of 118 (Value.string t);refine(HPT.out _).mono ?_;rintro e w12 ⟨vh,rfl,hv,hb⟩;obtain⟨ph,mh,ch,rfl⟩:=hv.form;have NH:=Zpp hv;have NG12:=Zpp (NG.out.after hb Zpq);have HX12:=Zpp (HX11.out.below hb HX11.out.lt);have HB12:Zpk w w12:=HB11.out.trans (hb.mono HB11.out.size);have k4:=HX12.out.f4;clear hv hb)
     | (go_at_call_of 118 (Value.string v);refine(HPV.out _).mono ?_;rintro e w13 ⟨vi,rfl,hv,hb⟩;obtain⟨pi,mi,ci,rfl⟩:=hv.form;have NI:=Zpp hv;have NG13:=Zpp (NG12.out.after hb Zpq);have NH13:=Zpp (NH.out.after hb Zpq);have HX13:=Zpp (HX12.out.below hb HX12.out.lt);have HB13:Zpk w w13:=HB12.out.trans (hb.mono HB12.out.size);have k5:=HX13.out.f4;clear hv hb)
     | (go_at_call_of 117 (Value.slice ph mh ch);refine(Zam NH13.out NI.out Za Za).mono ?_;rintro e w14 ⟨vj,rfl,hv,hb⟩;obtain⟨pj,mj,cj,rfl⟩:=hv.form;have NJ:=Zpp hv;have NG14:=Zpp (NG13.out.after hb Zpq);have HX14:=Zpp (HX13.out.below hb HX13.out.lt);have HB14:Zpk w w14:=HB13.out.trans (hb.mono HB13.out.size);have k6:=HX14.out.f4;clear hv hb)
     | (go_at_call 141;refine(ZdH NG14.out NJ.out HL1.out HL2.out HD0.out).mono ?_;rintro e w9 ⟨x,y,n,rfl,hR,hb9⟩;have HR:=Zpp hR;have HX9:=Zpp (HX14.out.below hb9 HX14.out.lt);have HB9:Zpk w w9:=HB14.out.trans (hb9.mono HB14.out.size);have k9:=HX9.out.f4;have r0:=HX9.out.cell 2 0 (b:=w.heap.size+1+1) rfl rfl rfl;have r1:=HX9.out.cell 2 1 (b:=w.heap.size+1+1) rfl rfl rfl;have f0:=HX9.out.free 2 0 (b:=w.heap.size+1+1) rfl rfl;have f1:=HX9.out.free 2 1 (b:=w.heap.size+1+1) rfl rfl;clear hR hb9)
    )
   all_goals
    have q:=Zt (HX9.out.block 2 (b:=w.heap.size+1+1) rfl rfl) (.string x) (.string y)
    have HBQ:=Zpp (Zs HB9.out (b:=w.heap.size+1+1) Za (.string x) (.string y))
    obtain⟨wz,hwz⟩:=Zpr ((w9.setCell ⟨w.heap.size+1+1,0,none⟩ (.string x)).setCell ⟨w.heap.size+1+1,1,none⟩ (.string y))
    rw[hwz] at q HBQ
    obtain⟨q0,q1⟩:=q
    rw[hwz]
    clear r0 r1 f0 f1 hwz
    go_wp2
    refine ZoN (v:=.tuple #[Zpn x y,.int .i64 n]) (by simp[results,Tryz.f105,go_sem,q0,q1]) rfl ⟨_,_,_,rfl,?_,HBQ.out⟩
    exact .inr ⟨HK.out,.inr ⟨HGE.out,HR.out⟩⟩
theorem ZoD (s t u v:ByteArray) (w:World) (hs:s.size<=1000000) (ht:t.size<=1000000) (hu:u.size<=1000000) (hv:v.size<=1000000) :
  Calls Tryz.prog 145 #[Zpn s t,Zpn u v] w (ZL (Bi s t u v (DivR (Zq s.data.toList) (Zq t.data.toList) (Zq u.data.toList) (Zq v.data.toList))) w):=by
 cases hq:(okP s t && okP u v)
 ·skip
  have HQ:Hid (Zbo s t u v=2):=ZdK hq
  have HK:=Zpp hq
  clear hq
  go_enter Tryz.func145,Tryz.ntmps145
  go_wp2_with fail
  obtain⟨w1,hw1⟩:=Zpr (((w.alloc (.cells #[.string s,.string t] 41)).alloc (.cells #[.string u,.string v] 41)).alloc (.cells #[.string Zpm,.string Zpm] 41))
  rw[hw1]
  have HX1:Hid (Zw w.heap.size [.cells #[.string s,.string t] 41,.cells #[.string u,.string v] 41,.cells #[.string Zpm,.string Zpm] 41] w1):=by rw[<- hw1];exact Zw.three w _ _ _
  have HB1:Zpk w w1:=by rw[<- hw1];exact(((ZoM _ w).alloc Zpq _).alloc Zc _).alloc (by simp<;>omega) _
  clear hw1
  refine(ZaV s t u v _ hs ht hu hv).mono ?_
  rintro e w2 ⟨rfl,hb2⟩
  rw[HQ.out]
  have HX2:=Zpp (HX1.out.below hb2 HX1.out.lt)
  have HB2:=Zpp (HB1.out.trans (hb2.mono HB1.out.size))
  clear hb2
  have r0:=HX2.out.cell 2 0 (b:=w.heap.size+1+1) rfl rfl rfl
  have r1:=HX2.out.cell 2 1 (b:=w.heap.size+1+1) rfl rfl rfl
  have f0:=HX2.out.free 2 0 (b:=w.heap.size+1+1) rfl rfl
  have f1:=HX2.out.free 2 1 (b:=w.heap.size+1+1) rfl rfl
  go_wp2
  have q:=Zt (HX2.out.block 2 (b:=w.heap.size+1+1) rfl rfl) (.string Zpm) (.string Zpm)
  have HBQ:=Zpp (Zs HB2.out (b:=w.heap.size+1+1) Za (.string Zpm) (.string Zpm))
  refine ZoN (v:=.tuple #[Zpn Zpm Zpm,.int .i64 2]) (by simp[results,Tryz.f145,go_sem,q.1,q.2]) rfl ⟨_,_,_,rfl,.inl ⟨HK.out,rfl,rfl,rfl⟩,HBQ.out⟩
 ·skip
  have hnu:=(Zcx.1 (Bool.and_eq_true _ _ |>.mp hq).2).1
  have HZ:=Zpp (Zc0 hnu)
  have dl:u.toList=u.data.toList:=Zo9 ..
  clear hnu
  have HQ:Hid (Zbo s t u v=0):=Zdc hq
  have HK:=Zpp hq
  have hq2:=hq
  rw[Bool.and_eq_true] at hq2
  have g1:=rok hq2.1
  have g2:=rok hq2.2
  obtain⟨n1,hn1⟩:=Zpr (Zq s.data.toList)
  obtain⟨d1,hd1⟩:=Zpr (Zq t.data.toList)
  obtain⟨n2,hn2⟩:=Zpr (Zq u.data.toList)
  obtain⟨d2,hd2⟩:=Zpr (Zq v.data.toList)
  rw[hn1,hd1] at g1
  rw[hn2,hd2] at g2
  have HPS:Hid (∀ W,Calls Tryz.prog 118 #[.string s] W (Zao W n1)):=fun W=>by rw[<- hn1];exact ZX s hs g1.ds W
  have HPT:Hid (∀ W,Calls Tryz.prog 118 #[.string t] W (Zao W d1)):=fun W=>by rw[<- hd1];exact ZX t ht g1.dt W
  have HPU:Hid (∀ W,Calls Tryz.prog 118 #[.string u] W (Zao W n2)):=fun W=>by rw[<- hn2];exact ZX u hu g2.ds W
  have HPV:Hid (∀ W,Calls Tryz.prog 118 #[.string v] W (Zao W d2)):=fun W=>by rw[<- hd2];exact ZX v hv g2.dt W
  have l1:=g1.ls
  have l2:=g1.lt
  have l3:=g2.ls
  have l4:=g2.lt
  have z1:=g1.pos
  have z2:=g2.pos
  rw[hn1,hd1,hn2,hd2]
  have HN:=Zpp (And.intro hn1 (And.intro hd1 (And.intro hn2 hd2)))
  clear hq hq2 g1 g2 hn1 hd1 hn2 hd2
  rw[HN.out.2.2.1] at HZ
  rcases Zo1 n2 with h0 | h0
  ·have hz:(u.toList==[48])=true:=by
    rw[dl,HZ.out.2 h0];rfl
   have H0:=Zpp h0
   clear h0 dl
   go_enter Tryz.func145,Tryz.ntmps145
   go_wp2_with fail
   obtain⟨w1,hw1⟩:=Zpr (((w.alloc (.cells #[.string s,.string t] 41)).alloc (.cells #[.string u,.string v] 41)).alloc (.cells #[.string Zpm,.string Zpm] 41))
   rw[hw1]
   have HX1:Hid (Zw w.heap.size [.cells #[.string s,.string t] 41,.cells #[.string u,.string v] 41,.cells #[.string Zpm,.string Zpm] 41] w1):=by rw[<- hw1];exact Zw.three w _ _ _
   have HB1:Zpk w w1:=by rw[<- hw1];exact(((ZoM _ w).alloc Zpq _).alloc Zc _).alloc (by simp<;>omega) _
   clear hw1
   refine(ZaV s t u v _ hs ht hu hv).mono ?_
   rintro e w2 ⟨rfl,hb2⟩
   rw[HQ.out]
   have HX2:=Zpp (HX1.out.below hb2 HX1.out.lt)
   have HB2:=Zpp (HB1.out.trans (hb2.mono HB1.out.size))
   clear hb2
   have r0:=HX2.out.cell 2 0 (b:=w.heap.size+1+1) rfl rfl rfl
   have r1:=HX2.out.cell 2 1 (b:=w.heap.size+1+1) rfl rfl rfl
   have f0:=HX2.out.free 2 0 (b:=w.heap.size+1+1) rfl rfl
   have f1:=HX2.out.free 2 1 (b:=w.heap.size+1+1) rfl rfl
   have k2:=HX2.out.f4
   obtain⟨ka2,kb2,kc2,kd2⟩:=id k2
   go_wp2
   have q:=Zt (HX2.out.block 2 (b:=w.heap.size+1+1) rfl rfl) (.string Zpm) (.string Zpm)
   have HBQ:=Zpp (Zs HB2.out (b:=w.heap.size+1+1) Za (.string Zpm) (.string Zpm))
   refine ZoN (v:=.tuple #[Zpn Zpm Zpm,.int .i64 10]) (by simp[results,Tryz.f145,go_sem,q.1,q.2]) rfl ⟨_,_,_,rfl,.inr ⟨HK.out,.inl ⟨H0.out,rfl,rfl,rfl⟩⟩,HBQ.out⟩
  have hz:(u.toList==[48])=false:=by
   rw[beq_eq_false_iff_ne,dl]
   intro hc
   have h1:n2=0:=HZ.out.1 (by rw[<- Za0 u,hc];rfl)
   omega
  have HL1:Hid ((Zp 10000 (n1*d2)).length<=100000):=ZoV (ZaD l1 l4) Za
  have HL2:Hid ((Zp 10000 (d1*n2)).length<=100000):=ZoV (ZaD l2 l3) Za
  have HD0:Hid (0<d1*n2):=Nat.mul_pos z1 h0
  have H0:=Zpp h0
  clear h0 dl
  go_enter Tryz.func145,Tryz.ntmps145
  go_wp2_with fail
  obtain⟨w1,hw1⟩:=Zpr (((w.alloc (.cells #[.string s,.string t] 41)).alloc (.cells #[.string u,.string v] 41)).alloc (.cells #[.string Zpm,.string Zpm] 41))
  rw[hw1]
  have HX1:Hid (Zw w.heap.size [.cells #[.string s,.string t] 41,.cells #[.string u,.string v] 41,.cells #[.string Zpm,.string Zpm] 41] w1):=by rw[<- hw1];exact Zw.three w _ _ _
  have HB1:Zpk w w1:=by rw[<- hw1];exact(((ZoM _ w).alloc Zpq _).alloc Zc _).alloc (by simp<;>omega) _
  clear hw1
  refine(ZaV s t u v _ hs ht hu hv).mono ?_
  rintro e w2 ⟨rfl,hb2⟩
  rw[HQ.out]
  have HX2:=Zpp (HX1.out.below hb2 HX1.out.lt)
  have HB2:=Zpp (HB1.out.trans (hb2.mono HB1.out.size))
  clear hb2
  have k2:=HX2.out.f4
  obtain⟨ka2,kb2,kc2,kd2⟩:=id k2
  go_wp2_with fail
  go_region_held3
   (fun w'=>w'.cell? ⟨w.heap.size,0,none⟩=some (.string s)/\w'.cell? ⟨w.heap.size,1,none⟩=some (.string t)/\w'.cell? ⟨w.heap.size+1,0,none⟩=some (.string u)/\w'.cell? ⟨w.heap.size+1,1,none⟩=some (.string v))
   (first | exact k1 | exact k2 | exact k3 | exact k4 | exact k5 | exact k6 | exact k7 | exact k8 | exact ZaR Za Za k9 _ _ | exact k9)
   (first
    | (go_at_call_of 118 (Value.string s);refine(HPS.out _).mono ?_;rintro e w3 ⟨va,rfl,hv,hb⟩;obtain⟨pa,ma,ca,rfl⟩:=hv.form;have NA:=Zpp hv;have HX3:=Zpp (HX2.out.drew.below hb HX2.out.lt);have HB3:Zpk w w3:=HB2.out.drew.trans (hb.mono HB2.out.drew.size);have k3:=HX3.out.f4;clear hv hb)
    | (go_at_call_of 118 (Value.string v);refine(HPV.out _).mono ?_;rintro e w4 ⟨vb,rfl,hv,hb⟩;obtain⟨pb,mb,cb,rfl⟩:=hv.form;have NB:=Zpp hv;have NA4:=Zpp (NA.out.after hb Zpq);have HX4:=Zpp (HX3.out.below hb HX3.out.lt);have HB4:Zpk w w4:=HB3.out.trans (hb.mono HB3.out.size);have k4:=HX4.out.f4;clear hv hb)
    | (go_at_call_of 117 (Value.slice pa ma ca);refine(Zam NA4.out NB.out Za Za).mono ?_;rintro e w5 ⟨vc,rfl,hv,hb⟩;obtain⟨pc,mc,cc,rfl⟩:=hv.form;have NC:=Zpp hv;have HX5:=Zpp (HX4.out.below hb HX4.out.lt);have HB5:Zpk w w5:=HB4.out.trans (hb.mono HB4.out.size);have k5:=HX5.out.f4;clear hv hb)
    | (go_at_call_of 118 (Value.string t);refine(HPT.out _).mono ?_;rintro e w6 ⟨vd,rfl,hv,hb⟩;obtain⟨pd,md,cd,rfl⟩:=hv.form;have ND:=Zpp hv;have NC6:=Zpp (NC.out.after hb Zpq);have HX6:=Zpp (HX5.out.below hb HX5.out.lt);have HB6:Zpk w w6:=HB5.out.trans (hb.mono HB5.out.size);have k6:=HX6.out.f4;clear hv hb)
    | (go_at_call_of 118 (Value.string u);refine(HPU.out _).mono ?_;rintro e w7 ⟨ve,rfl,hv,hb⟩;obtain⟨pe,me,ce,rfl⟩:=hv.form;have NE:=Zpp hv;have NC7:=Zpp (NC6.out.after hb Zpq);have ND7:=Zpp (ND.out.after hb Zpq);have HX7:=Zpp (HX6.out.below hb HX6.out.lt);have HB7:Zpk w w7:=HB6.out.trans (hb.mono HB6.out.size);have k7:=HX7.out.f4;clear hv hb)
    | (go_at_call_of 117 (Value.slice pd md cd);refine(Zam ND7.out NE.out Za Za).mono ?_;rintro e w8 ⟨vf,rfl,hv,hb⟩;obtain⟨pf,mf,cf,rfl⟩:=hv.form;have NF:=Zpp hv;have NC8:=Zpp (NC7.out.after hb Zpq);have HX8:=Zpp (HX7.out.below hb HX7.out.lt);have HB8:Zpk w w8:=HB7.out.trans (hb.mono HB7.out.size);have k8:=HX8.out.f4;clear hv hb)
    | (go_at_call 141;refine(ZdH NC8.out NF.out HL1.out HL2.out HD0.out).mono ?_;rintro e w9 ⟨x,y,n,rfl,hR,hb9⟩;have HR:=Zpp hR;have HX9:=Zpp (HX8.out.below hb9 HX8.out.lt);have HB9:Zpk w w9:=HB8.out.trans (hb9.mono HB8.out.size);have k9:=HX9.out.f4;have r0:=HX9.out.cell 2 0 (b:=w.heap.size+1+1) rfl rfl rfl;have r1:=HX9.out.cell 2 1 (b:=w.heap.size+1+1) rfl rfl rfl;have f0:=HX9.out.free 2 0 (b:=w.heap.size+1+1) rfl rfl;have f1:=HX9.out.free 2 1 (b:=w.heap.size+1+1) rfl rfl;clear hR hb9)
   )
  all_goals
   have q:=Zt (HX9.out.block 2 (b:=w.heap.size+1+1) rfl rfl) (.string x) (.string y)
   have HBQ:=Zpp (Zs HB9.out (b:=w.heap.size+1+1) Za (.string x) (.string y))
   obtain⟨wz,hwz⟩:=Zpr ((w9.setCell ⟨w.heap.size+1+1,0,none⟩ (.string x)).setCell ⟨w.heap.size+1+1,1,none⟩ (.string y))
   rw[hwz] at q HBQ
   obtain⟨q0,q1⟩:=q
   rw[hwz]
   clear r0 r1 f0 f1 hwz
   go_wp2
   refine ZoN (v:=.tuple #[Zpn x y,.int .i64 n]) (by simp[results,Tryz.f145,go_sem,q0,q1]) rfl ⟨_,_,_,rfl,?_,HBQ.out⟩
   exact .inr ⟨HK.out,.inr ⟨H0.out,HR.out⟩⟩
theorem Znz {a b:Rat} (ha:0<=a) (hb:0<=b):sgnN (a.num.toNat*b.den) (b.num.toNat*a.den)=sgnR a b:=by
 rw[<- ZlS ha hb (r:=sgnN (a.num.toNat*b.den) (b.num.toNat*a.den))]
 ·unfold sgnN;split<;>(try split)<;>rfl
 ·unfold Sign sgnN
  split
  ·refine⟨⟨fun _=>?_,fun _=>?_⟩,⟨fun h=>?_,fun h=>?_⟩,?_,?_⟩<;>omega
  ·split<;>(refine⟨⟨fun _=>?_,fun _=>?_⟩,⟨fun h=>?_,fun h=>?_⟩,?_,?_⟩<;>omega)
theorem Zir (s t u v:ByteArray) (w:World) (hs:s.size<=1000000) (ht:t.size<=1000000) (hu:u.size<=1000000) (hv:v.size<=1000000) :
  Calls Tryz.prog 56 #[Zpn s t,Zpn u v] w (Zi3 s t u v w):=by
 cases hq:(okP s t && okP u v)
 ·have HQ:Hid (Zbo s t u v=2):=ZdK hq
  have HK:=Zpp hq
  clear hq
  go_enter Tryz.func56,Tryz.ntmps56
  go_wp2_with fail
  obtain⟨w1,hw1⟩:=Zpr ((w.alloc (.cells #[.string s,.string t] 41)).alloc (.cells #[.string u,.string v] 41))
  rw[hw1]
  have HX1:Hid (Zw w.heap.size [.cells #[.string s,.string t] 41,.cells #[.string u,.string v] 41] w1):=by rw[<- hw1];exact Zw.two w _ _
  have HB1:Zpk w w1:=by rw[<- hw1];exact((ZoM _ w).alloc Zpq _).alloc Zc _
  clear hw1
  refine(ZaV s t u v _ hs ht hu hv).mono ?_
  rintro e w2 ⟨rfl,hb2⟩
  rw[HQ.out]
  have HX2:=Zpp (HX1.out.below hb2 HX1.out.lt)
  have HB2:=Zpp (HB1.out.trans (hb2.mono HB1.out.size))
  clear hb2
  go_wp2
  go_ret
  exact⟨0,rfl,.inl ⟨HK.out,rfl⟩,HB2.out⟩
 ·have hq2:=hq
  rw[Bool.and_eq_true] at hq2
  have HRN:Hid (sgnN (Zq s.data.toList*Zq v.data.toList) (Zq u.data.toList*Zq t.data.toList)=sgnR (ratP s t) (ratP u v)):=by
   obtain⟨a1,a2,a3⟩:=Za7 hq2.1
   obtain⟨b1,b2,b3⟩:=Za7 hq2.2
   show _=_
   rw[a2,a3,b2,b3]
   exact Znz a1 b1
  clear hq2
  have HQ:Hid (Zbo s t u v=0):=Zdc hq
  have HK:=Zpp hq
  have hq2:=hq
  rw[Bool.and_eq_true] at hq2
  have g1:=rok hq2.1
  have g2:=rok hq2.2
  obtain⟨n1,hn1⟩:=Zpr (Zq s.data.toList)
  obtain⟨d1,hd1⟩:=Zpr (Zq t.data.toList)
  obtain⟨n2,hn2⟩:=Zpr (Zq u.data.toList)
  obtain⟨d2,hd2⟩:=Zpr (Zq v.data.toList)
  rw[hn1,hd1] at g1
  rw[hn2,hd2] at g2
  rw[hn1,hd1,hn2,hd2] at HRN
  have HPS:Hid (∀ W,Calls Tryz.prog 118 #[.string s] W (Zao W n1)):=fun W=>by rw[<- hn1];exact ZX s hs g1.ds W
  have HPT:Hid (∀ W,Calls Tryz.prog 118 #[.string t] W (Zao W d1)):=fun W=>by rw[<- hd1];exact ZX t ht g1.dt W
  have HPU:Hid (∀ W,Calls Tryz.prog 118 #[.string u] W (Zao W n2)):=fun W=>by rw[<- hn2];exact ZX u hu g2.ds W
  have HPV:Hid (∀ W,Calls Tryz.prog 118 #[.string v] W (Zao W d2)):=fun W=>by rw[<- hd2];exact ZX v hv g2.dt W
  have l1:=g1.ls
  have l2:=g1.lt
  have l3:=g2.ls
  have l4:=g2.lt
  have M1:Hid ((Zp 10000 (n1*d2)).length<=300):=ZoV (ZaD l1 l4) Za
  have M2:Hid ((Zp 10000 (n2*d1)).length<=300):=ZoV (ZaD l3 l2) Za
  clear hq hq2 g1 g2 hn1 hd1 hn2 hd2
  go_enter Tryz.func56,Tryz.ntmps56
  go_wp2_with fail
  obtain⟨w1,hw1⟩:=Zpr ((w.alloc (.cells #[.string s,.string t] 41)).alloc (.cells #[.string u,.string v] 41))
  rw[hw1]
  have HX1:Hid (Zw w.heap.size [.cells #[.string s,.string t] 41,.cells #[.string u,.string v] 41] w1):=by rw[<- hw1];exact Zw.two w _ _
  have HB1:Zpk w w1:=by rw[<- hw1];exact((ZoM _ w).alloc Zpq _).alloc Zc _
  clear hw1
  refine(ZaV s t u v _ hs ht hu hv).mono ?_
  rintro e w2 ⟨rfl,hb2⟩
  rw[HQ.out]
  have HX2:=Zpp (HX1.out.below hb2 HX1.out.lt)
  have HB2:=Zpp (HB1.out.trans (hb2.mono HB1.out.size))
  clear hb2
  have k2:=HX2.out.f4
  obtain⟨ka2,kb2,kc2,kd2⟩:=id k2
  go_wp2_with fail
  go_region_held3
   (fun w'=>w'.cell? ⟨w.heap.size,0,none⟩=some (.string s)/\w'.cell? ⟨w.heap.size,1,none⟩=some (.string t)/\w'.cell? ⟨w.heap.size+1,0,none⟩=some (.string u)/\w'.cell? ⟨w.heap.size+1,1,none⟩=some (.string v))
   (first | exact k1 | exact k2 | exact k3 | exact k4 | exact k5 | exact k6 | exact k7 | exact k8 | exact ZaR Za Za k9 _ _ | exact k9)
   (first
    | (go_at_call_of 118 (Value.string s);refine(HPS.out _).mono ?_;rintro e w3 ⟨va,rfl,hv,hb⟩;obtain⟨pa,ma,ca,rfl⟩:=hv.form;have NA:=Zpp hv;have HX3:=Zpp (HX2.out.drew.below hb HX2.out.lt);have HB3:Zpk w w3:=HB2.out.drew.trans (hb.mono HB2.out.drew.size);have k3:=HX3.out.f4;clear hv hb)
    | (go_at_call_of 118 (Value.string v);refine(HPV.out _).mono ?_;rintro e w4 ⟨vb,rfl,hv,hb⟩;obtain⟨pb,mb,cb,rfl⟩:=hv.form;have NB:=Zpp hv;have NA4:=Zpp (NA.out.after hb Zpq);have HX4:=Zpp (HX3.out.below hb HX3.out.lt);have HB4:Zpk w w4:=HB3.out.trans (hb.mono HB3.out.size);have k4:=HX4.out.f4;clear hv hb)
    | (go_at_call_of 117 (Value.slice pa ma ca);refine(Zam NA4.out NB.out Za Za).mono ?_;rintro e w5 ⟨vc,rfl,hv,hb⟩;obtain⟨pc,mc,cc,rfl⟩:=hv.form;have NC:=Zpp hv;have HX5:=Zpp (HX4.out.below hb HX4.out.lt);have HB5:Zpk w w5:=HB4.out.trans (hb.mono HB4.out.size);have k5:=HX5.out.f4;clear hv hb)
    | (go_at_call_of 118 (Value.string u);refine(HPU.out _).mono ?_;rintro e w6 ⟨vd,rfl,hv,hb⟩;obtain⟨pd,md,cd,rfl⟩:=hv.form;have ND:=Zpp hv;have NC6:=Zpp (NC.out.after hb Zpq);have HX6:=Zpp (HX5.out.below hb HX5.out.lt);have HB6:Zpk w w6:=HB5.out.trans (hb.mono HB5.out.size);have k6:=HX6.out.f4;clear hv hb)
    | (go_at_call_of 118 (Value.string t);refine(HPT.out _).mono ?_;rintro e w7 ⟨ve,rfl,hv,hb⟩;obtain⟨pe,me,ce,rfl⟩:=hv.form;have NE:=Zpp hv;have NC7:=Zpp (NC6.out.after hb Zpq);have ND7:=Zpp (ND.out.after hb Zpq);have HX7:=Zpp (HX6.out.below hb HX6.out.lt);have HB7:Zpk w w7:=HB6.out.trans (hb.mono HB6.out.size);have k7:=HX7.out.f4;clear hv hb)
    | (go_at_call_of 117 (Value.slice pd md cd);refine(Zam ND7.out NE.out Za Za).mono ?_;rintro e w8 ⟨vf,rfl,hv,hb⟩;obtain⟨pf,mf,cf,rfl⟩:=hv.form;have NF:=Zpp hv;have NC8:=Zpp (NC7.out.after hb Zpq);have HX8:=Zpp (HX7.out.below hb HX7.out.lt);have HB8:Zpk w w8:=HB7.out.trans (hb.mono HB7.out.size);have k8:=HX8.out.f4;clear hv hb)
    | (go_at_call 116;refine(ZdY NC8.out NF.out (by have:=M1.out;omega) (by have:=M2.out;omega)).mono ?_;rintro e w9 ⟨rfl,hb⟩;have HX9:=Zpp (HX8.out.below hb HX8.out.lt);have HB9:Zpk w w9:=HB8.out.trans (hb.mono HB8.out.size);have k9:=HX9.out.f4;clear hb)
   )
  go_wp2
  go_ret
  exact⟨_,by rw[HRN.out];rfl,.inr ⟨HK.out,rfl⟩,HB9.out⟩
abbrev oneS:ByteArray:=⟨#[49]⟩
theorem ZL.mono {R R':ByteArray->ByteArray->Int->Prop} {w w':World} {e:Ending} (h:ZL R w e w') (f:∀ x y n,R x y n->R' x y n):ZL R' w e w':=by
 obtain⟨x,y,n,h1,h2,h3⟩:=h
 exact⟨x,y,n,h1,f x y n h2,h3⟩
theorem Znm (s t u v:ByteArray) (w:World) (hs:s.size<=1000000) (ht:t.size<=1000000) (hu:u.size<=1000000) (hv:v.size<=1000000) :
  Calls Tryz.prog 86 #[Zpn s t,Zpn u v] w (ZL (Bi s t u v (Ans (ratP s t*ratP u v))) w):=
 (Zox s t u v w hs ht hu hv).mono fun _ _ h=>h.mono fun _ _ _=>Zmm
theorem ZiG (s t u v:ByteArray) (w:World) (hs:s.size<=1000000) (ht:t.size<=1000000) (hu:u.size<=1000000) (hv:v.size<=1000000) :
  Calls Tryz.prog 88 #[Zpn s t,Zpn u v] w (ZL (Bi s t u v (Ans (ratP s t+ratP u v))) w):=
 (ZoC s t u v w hs ht hu hv).mono fun _ _ h=>h.mono fun _ _ _=>Zmy
theorem Zm0 (s t u v:ByteArray) (w:World) (hs:s.size<=1000000) (ht:t.size<=1000000) (hu:u.size<=1000000) (hv:v.size<=1000000) :
  Calls Tryz.prog 105 #[Zpn s t,Zpn u v] w (ZL (Bi s t u v (SubA (ratP s t) (ratP u v))) w):=
 (ZoG s t u v w hs ht hu hv).mono fun _ _ h=>h.mono fun _ _ _=>Zl0
theorem Zni (s t u v:ByteArray) (w:World) (hs:s.size<=1000000) (ht:t.size<=1000000) (hu:u.size<=1000000) (hv:v.size<=1000000) :
  Calls Tryz.prog 145 #[Zpn s t,Zpn u v] w (ZL (Bi s t u v (DivA (ratP s t) (ratP u v))) w):=
 (ZoD s t u v w hs ht hu hv).mono fun _ _ h=>h.mono fun _ _ _=>ZmT
theorem Zi0 (w:World):Calls Tryz.prog 163 #[] w (ZZ (pV oneS oneS) w):=by
 go_enter Tryz.func163,Tryz.ntmps163
 go_wp2
 have HB1:Hid (Below w.heap.size w (w.alloc (pObj oneS oneS))):=(ZoM _ w).alloc Zpq _
 have c0:=ZG w #[.string oneS,.string oneS] 41 0 rfl
 have c1:=ZG w #[.string oneS,.string oneS] 41 1 rfl
 refine ZoN (v:=pV oneS oneS) (by simp[results,Tryz.f163,go_sem,c0,c1]) rfl ⟨rfl,HB1.out⟩
theorem ZnF (x y:ByteArray) (n:Int) (w:World):Calls Tryz.prog 34 #[pV x y,.int .i64 n,pV x y,.int .i64 n] w (Zab w true):=by
 go_enter Tryz.func34,Tryz.ntmps34
 go_wp2
 go_ret
 exact⟨rfl,((ZoM _ w).alloc Zpq _).alloc Zc _⟩
def ZmD (c:Rat) (x y:ByteArray) (n:Int):Prop:=n=0/\IsP c x y
theorem ZkR {w:World} {a b c d:Rat} {s0 t0 u0 v0 s1 t1 u1 v1 x1 y1 x2 y2 x y:ByteArray} (A1 B1:Nat) (hA:w.heap[A1]?=some (bO s0 t0 u0 v0)) (hB:w.heap[B1]?=some (bO s1 t1 u1 v1))
  (hc:IsP c s0 t0) (ha:IsP a u0 v0) (hd:IsP d s1 t1) (hb:IsP b u1 v1) (h1:IsP (b-a) x1 y1) (h2:IsP (d-c) x2 y2) (h3:IsP ((b-a)/(d-c)) x y) (hp:0<d-c) (hT:Tabs w) :
  Calls Tryz.prog 184 #[.pointer (some ⟨A1,0,none⟩),.pointer (some ⟨B1,0,none⟩)] w (Zk2 (ZmD ((b-a)/(d-c))) w):=by
 have hb0:Below w.heap.size w (w.alloc (pObj Zpm Zpm)):=(ZoM _ w).alloc Zpq _
 have HB0:=Zpp hb0
 have HR:=Zpp (ZkA hc ha hd hb h1 h2 h3 hp _ (hT.below hb0 Zpq))
 have HH3:=Zpp h3
 have la:=(Zpl hA)
 have lb:=(Zpl hB)
 have a0:(w.alloc (pObj Zpm Zpm)).cell? ⟨A1,0,none⟩=some (.string s0):=(Z6 _ _ _ la).trans (Zn hA 0 rfl)
 have a1:(w.alloc (pObj Zpm Zpm)).cell? ⟨A1,1,none⟩=some (.string t0):=(Z6 _ _ _ la).trans (Zn hA 1 rfl)
 have a2:(w.alloc (pObj Zpm Zpm)).cell? ⟨A1,2,none⟩=some (.string u0):=(Z6 _ _ _ la).trans (Zn hA 2 rfl)
 have a3:(w.alloc (pObj Zpm Zpm)).cell? ⟨A1,3,none⟩=some (.string v0):=(Z6 _ _ _ la).trans (Zn hA 3 rfl)
 have b0:(w.alloc (pObj Zpm Zpm)).cell? ⟨B1,0,none⟩=some (.string s1):=(Z6 _ _ _ lb).trans (Zn hB 0 rfl)
 have b1:(w.alloc (pObj Zpm Zpm)).cell? ⟨B1,1,none⟩=some (.string t1):=(Z6 _ _ _ lb).trans (Zn hB 1 rfl)
 have b2:(w.alloc (pObj Zpm Zpm)).cell? ⟨B1,2,none⟩=some (.string u1):=(Z6 _ _ _ lb).trans (Zn hB 2 rfl)
 have b3:(w.alloc (pObj Zpm Zpm)).cell? ⟨B1,3,none⟩=some (.string v1):=(Z6 _ _ _ lb).trans (Zn hB 3 rfl)
 have HP:Hid ((w.alloc (pObj Zpm Zpm)).heap[w.heap.size]?=some (pObj Zpm Zpm)):=ZoP w _
 clear hb0 hA hB la lb hc ha hd hb h1 h2 h3 hp hT
 go_enter Tryz.func184,Tryz.ntmps184
 go_wp2_with fail
 refine HR.out.mono ?_
 rintro e w2 ⟨rfl,hb⟩
 have h2:w2.heap[w.heap.size]?=some (pObj Zpm Zpm):=(hb.block _ Zc).trans HP.out
 have HB2:Zpk w w2:=HB0.out.trans (hb.mono HB0.out.size)
 have H2:=Zpp h2
 clear a0 a1 a2 a3 b0 b1 b2 b3 hb HR HP
 have c0:w2.cell? ⟨w.heap.size,0,none⟩=some (.string Zpm):=Zn h2 0 rfl
 have c1:w2.cell? ⟨w.heap.size,1,none⟩=some (.string Zpm):=Zn h2 1 rfl
 have f0:w2.frozen? ⟨w.heap.size,0,none⟩=false:=Zo h2 0
 have f1:w2.frozen? ⟨w.heap.size,1,none⟩=false:=Zo h2 1
 clear h2
 go_wp2
 obtain⟨q0,q1⟩:=Zt H2.out (.string x) (.string y)
 exact ZoN (v:=Zpn x y) (by simp[results,Tryz.f184,go_sem,q0,q1]) rfl ⟨x,y,0,.inl ⟨rfl,rfl⟩,⟨rfl,HH3.out⟩,Zs HB2.out Zpq (.string x) (.string y)⟩
theorem ZkN {v:Value} {bs:List BB} {w:World} {s t:ByteArray} (hv:BL w v bs) (hz:LimB bs) (hs:s.size<=1000000) (ht:t.size<=1000000) (hD:DetV w) (hT:Tabs w) :
  Calls Tryz.prog 137 #[v,Zpn s t] w (ZL (ZbQ bs s t) w):=by
 obtain⟨n,hn⟩:=Zpr bs.length
 obtain⟨p,c,rfl⟩:∃ p c,v=.slice p n c:=by obtain⟨p,c,h,_⟩:=id hv;exact⟨_,_,by rw[<- hn];exact h⟩
 clear hn
 obtain⟨w3,hw3⟩:=Zpr ((w.alloc (pObj s t)).alloc (pObj Zpm Zpm))
 have hs3:w3.heap.size=w.heap.size+2:=by rw[<- hw3];simp
 have HX:Hid (Zw w.heap.size [pObj s t,pObj Zpm Zpm] w3):=by rw[<- hw3];exact Zw.two w _ _
 have HB3:Zpk w w3:=by rw[<- hw3];exact((ZoM _ w).alloc Zpq _).alloc Zc _
 have hb4:Below w3.heap.size w3 (w3.alloc (.cells #[.string s,.string t] 41)):=(ZoM _ w3).alloc Zpq _
 have HB4:Hid (Below w.heap.size w (w3.alloc (.cells #[.string s,.string t] 41))):=HB3.out.trans (hb4.mono HB3.out.size)
 have hlim:LimP [(s,t)]:=fun p hp=>by
  rw[List.mem_singleton] at hp
  subst hp
  exact⟨hs,ht⟩
 have HR:=Zpp (Zgl (hv.after HB4.out Zpq) hz (ZhU w3 s t) hlim (hD.below HB4.out Zpq) (hT.below HB4.out Zpq))
 rw[hs3] at HR
 have HX4:=Zpp (HX.out.below hb4 (by rw[hs3];exact Nat.le_refl _))
 have HV:=Zpp hv
 have HT:=Zpp hT
 have HD:=Zpp hD
 have d0:w3.cell? ⟨w.heap.size,0,none⟩=some (.string s):=HX.out.cell 0 0 rfl rfl rfl
 have d1:w3.cell? ⟨w.heap.size,1,none⟩=some (.string t):=HX.out.cell 0 1 rfl rfl rfl
 have hs3':=hs3
 rw[<- hw3] at d0 d1 HR HX4 HB4 hs3'
 clear hv hz hD hT hb4 hw3 hs hs3 HB3 HX hlim ht
 go_enter Tryz.func137,Tryz.ntmps137
 go_wp2_with fail
 refine HR.out.mono ?_
 rintro e w5 ⟨hE,hb⟩
 have HX5:=Zpp (HX4.out.below hb Zc)
 have HB5:=Zpp (HB4.out.trans (hb.mono HB4.out.size))
 clear d0 d1 hb HR HX4 HB4 hs3'
 have hl5:=HX5.out.lt
 rcases hE with ⟨hr,rfl⟩ | ⟨hr,rfl⟩
 ·have HRP:=Zpp (Zb9.1 hr)
  have hsm:=Zbr (Zb9.1 hr).2
  have HSM:=Zpp hsm
  have d0:w5.cell? ⟨w.heap.size,0,none⟩=some (.string s):=HX5.out.cell 0 0 rfl rfl rfl
  have d1:w5.cell? ⟨w.heap.size,1,none⟩=some (.string t):=HX5.out.cell 0 1 rfl rfl rfl
  have HPC:=Zpp (Zhy (HV.out.after HB5.out Zpq) HRP.out.1 hsm.1)
  clear hr hsm
  go_wp2_with fail
  refine HPC.out.mono ?_
  rintro e w6 ⟨i,j,inn,he,hA,hb⟩
  have HB6:=Zpp (HB5.out.trans (hb.mono HB5.out.size))
  have HX6:=Zpp (HX5.out.below hb (by simpa using hl5))
  obtain⟨q0,hq0⟩:=Zpr (bAt bs i)
  obtain⟨q1,hq1⟩:=Zpr (bAt bs j)
  have HQ0:=Zpp hq0
  have HQ1:=Zpp hq1
  rw[hq0,hq1] at he
  obtain⟨⟨s0,t0⟩,u0,v0⟩:=q0
  obtain⟨⟨s1,t1⟩,u1,v1⟩:=q1
  subst he
  clear d0 d1 hb HPC hq0 hq1 HX5 HB5 hl5
  obtain⟨A,hAs⟩:=Zpr w6.heap.size
  obtain⟨w7,hw7⟩:=Zpr ((w6.alloc (bO s0 t0 u0 v0)).alloc (bO s1 t1 u1 v1))
  have hal:Below w6.heap.size w6 w7:=by rw[<- hw7];exact((ZoM _ w6).alloc Zpq _).alloc Zc _
  have HB7:Zpk w w7:=HB6.out.trans (hal.mono HB6.out.size)
  have HX7:=Zpp (HX6.out.below hal HX6.out.lt)
  have HY7:Hid (Zw A [bO s0 t0 u0 v0,bO s1 t1 u1 v1] w7):=by rw[<- hw7,<- hAs];exact Zw.two w6 _ _
  have c0:w7.cell? ⟨w.heap.size+1,0,none⟩=some (.string Zpm):=HX7.out.cell 1 0 rfl rfl rfl
  have c1:w7.cell? ⟨w.heap.size+1,1,none⟩=some (.string Zpm):=HX7.out.cell 1 1 rfl rfl rfl
  have f0:w7.frozen? ⟨w.heap.size+1,0,none⟩=false:=HX7.out.free 1 0 rfl rfl
  have f1:w7.frozen? ⟨w.heap.size+1,1,none⟩=false:=HX7.out.free 1 1 rfl rfl
  rcases hA with ⟨hp,⟨hi,rfl,rfl⟩ | ⟨hi,rfl,rfl⟩⟩
  ·have hC:=HRP.out.1
   obtain⟨⟨x1,y1,j1⟩,⟨x2,y2,j2⟩,⟨x,y,j3⟩,j4⟩:=ZhR hC hi
   have hC0:=(hC.isC (i:=i) Za).1
   have hH0:=(hC.isH (i:=i) Za).1
   have hC1:=(hC.isC (i:=i+1) hi).1
   have hH1:=(hC.isH (i:=i+1) hi).1
   rw[HQ0.out] at hC0 hH0
   rw[HQ1.out] at hC1 hH1
   have HA:Hid (ZbQ bs s t x y 0):=by
    refine .inr ⟨HRP.out,rfl,_,⟨i,hp,rfl⟩,?_⟩
    unfold slo
    rw[if_pos hi]
    exact j3
   have HTR:Hid (Calls Tryz.prog 183 #[.func (.func 184) #[] #[.pointer (some ⟨A,0,none⟩),.pointer (some ⟨A+1,0,none⟩)]] w7 (ZL (ZmD ((hR bs (i+1)-hR bs i)/(cR bs (i+1)-cR bs i))) w7)):=
    ZgU (enters_of Tryz.func184 Zb rfl) fun W hW=>by
     have hx:=HY7.out.below hW HY7.out.lt
     have hbw:=HB7.out.trans (hW.mono HB7.out.size)
     exact ZkR A (A+1) (hx.block 0 rfl rfl) (hx.block 1 rfl rfl) hC0 hH0 hC1 hH1 j1 j2 j3 j4 (HT.out.below hbw Zpq)
   have HJ3:Hid (IsP ((hR bs (i+1)-hR bs i)/(cR bs (i+1)-cR bs i)) x y):=j3
   clear j1 j2 j3 j4 hC hC0 hH0 hC1 hH1 hp hi hal
   go_wp2_with fail
   refine HTR.out.mono ?_
   rintro e w8 ⟨x',y',m,rfl,⟨rfl,hA⟩,hb⟩
   obtain⟨rfl,rfl⟩:=Zbb hA HJ3.out rfl
   have HX8:=Zpp (HX7.out.below hb HX7.out.lt)
   have HB8:=Zpp (HB7.out.trans (hb.mono HB7.out.size))
   clear c0 c1 f0 f1 hb hA HTR hw7 hAs
   have c0:w8.cell? ⟨w.heap.size+1,0,none⟩=some (.string Zpm):=HX8.out.cell 1 0 rfl rfl rfl
   have c1:w8.cell? ⟨w.heap.size+1,1,none⟩=some (.string Zpm):=HX8.out.cell 1 1 rfl rfl rfl
   have f0:w8.frozen? ⟨w.heap.size+1,0,none⟩=false:=HX8.out.free 1 0 rfl rfl
   have f1:w8.frozen? ⟨w.heap.size+1,1,none⟩=false:=HX8.out.free 1 1 rfl rfl
   go_wp2
   obtain⟨q0,q1⟩:=Zt (HX8.out.block 1 (b:=w.heap.size+1) rfl rfl) (.string x') (.string y')
   exact ZoN (v:=.tuple #[Zpn x' y',.int .i64 0]) (by simp[results,Tryz.f137,go_sem,q0,q1]) rfl ⟨x',y',0,rfl,HA.out,Zs HB8.out (by show _<=_;omega) (.string x') (.string y')⟩
  ·have HA:Hid (ZbQ bs s t ⟨#[48]⟩ ⟨#[49]⟩ 0):=by
    refine .inr ⟨HRP.out,rfl,_,⟨j,hp,rfl⟩,?_⟩
    unfold slo
    rw[if_neg Za]
    exact Z1
   have z0:=(HD.out.below HB7.out Zpq).z0
   have z1:=(HD.out.below HB7.out Zpq).z1
   clear hp hi hal
   go_wp2
   obtain⟨q0,q1⟩:=Zt (HX7.out.block 1 (b:=w.heap.size+1) rfl rfl) (.string ⟨#[48]⟩) (.string ⟨#[49]⟩)
   exact ZoN (v:=.tuple #[Zpn ⟨#[48]⟩ ⟨#[49]⟩,.int .i64 0]) (by simp[results,Tryz.f137,go_sem,q0,q1]) rfl ⟨⟨#[48]⟩,⟨#[49]⟩,0,rfl,HA.out,Zs HB7.out (by show _<=_;omega) (.string ⟨#[48]⟩) (.string ⟨#[49]⟩)⟩
 ·have HA:Hid (ZbQ bs s t Zpm Zpm 2):=.inl ⟨fun h=>hr (Zb9.2 h),rfl,rfl,rfl⟩
  have c0:w5.cell? ⟨w.heap.size+1,0,none⟩=some (.string Zpm):=HX5.out.cell 1 0 rfl rfl rfl
  have c1:w5.cell? ⟨w.heap.size+1,1,none⟩=some (.string Zpm):=HX5.out.cell 1 1 rfl rfl rfl
  have f0:w5.frozen? ⟨w.heap.size+1,0,none⟩=false:=HX5.out.free 1 0 rfl rfl
  have f1:w5.frozen? ⟨w.heap.size+1,1,none⟩=false:=HX5.out.free 1 1 rfl rfl
  clear hr HV HT hl5
  go_wp2
  obtain⟨q0,q1⟩:=Zt (HX5.out.block 1 (b:=w.heap.size+1) rfl rfl) (.string Zpm) (.string Zpm)
  exact ZoN (v:=.tuple #[Zpn Zpm Zpm,.int .i64 2]) (by simp[results,Tryz.f137,go_sem,q0,q1]) rfl ⟨Zpm,Zpm,2,rfl,HA.out,Zs HB5.out (by show _<=_;omega) (.string Zpm) (.string Zpm)⟩
theorem Zdr {q:Rat} {s t:ByteArray} {k:Nat} (h:IsP q s t) (hz:Sz k q) (h0:0<k):Zv k (s,t)=true:=by
 refine Zaj.2 ⟨?_,?_,h.ok⟩
 ·show s.size<=k
  rw[h.num,ZaA]
  exact Zaa h0 hz.1
 ·show t.size<=k
  rw[h.den,ZaA]
  exact Zaa h0 hz.2
theorem ZiD {bs:List BB} {q r:Rat} {k:Nat} (h:CurveP bs) (hq0:0<=q) (hz:Sz k q) (hr:ZU bs.length (cR bs) (hR bs) q r):Sz (k+109) r:=by
 obtain⟨i,hk,rfl⟩:=hr
 by_cases hi:i+1<bs.length
 ·have:=(ZiP h.conc' h.sizes.1 h.sizes.2 hq0 hz hi hk).2.2.2.2.2
  exact this.mono Za
 ·have e:lin bs.length (cR bs) (hR bs) i q=hR bs i:=by
   unfold lin slo
   rw[if_neg hi]
   grind
  rw[e]
  exact(h.sizes.2 i hk.1).mono Za
theorem Zmv {bs:List BB} {q:Rat} {k:Nat} (h:CurveP bs) (hq0:0<=q) (hz:Sz k q) (hk:k<=300):∃ r x y,ZU bs.length (cR bs) (hR bs) q r/\IsP r x y/\Sz (k+109) r/\0<=r/\r<=1:=by
 obtain⟨r,hr⟩:=Zca h q
 have hs:=ZiD h hq0 hz hr
 have h0:=hr.nn h.conc' hq0
 obtain⟨x,y,hx⟩:=ZW h0 hs Za Za
 exact⟨r,x,y,hr,hx,hs,h0,hr.top h.conc'⟩
theorem ZlT {v:Value} {bs:List BB} {w:World} {q r:Rat} {s t x y:ByteArray} (hv:BL w v bs) (hC:CurveP bs) (hz:LimB bs) (hq:IsP q s t) (hs:Sz 300 q) (hr:ZU bs.length (cR bs) (hR bs) q r) (hx:IsP r x y) (hD:DetV w) (hT:Tabs w) :
  Calls Tryz.prog 168 #[v,pV s t] w (ZZ (.tuple #[pV x y,.int .i64 0]) w):=by
 refine(ZjC hv hz hq.limit.1 hq.limit.2 hD hT).mono ?_
 rintro e w' ⟨u,u2,n,rfl,h,hb⟩
 rcases h with ⟨h,_⟩ | ⟨_,rfl,r',h1,h2⟩
 ·exact absurd ⟨hC,Zdr hq hs Zd⟩ h
 ·rw[hq.rat] at h1
  obtain⟨e1,e2⟩:=Zbb h2 hx (h1.unique hr)
  subst e1 e2
  exact⟨rfl,hb⟩
theorem ZiL {bs:List BB} {q:Rat} (h:CurveP bs):∃ r x y,Zb0 bs.length (cR bs) (hR bs) q r/\IsP r x y/\Sz 72 r/\0<=r:=by
 obtain⟨c,i,hi,_⟩:=Zca h q
 by_cases hk:i+1<bs.length
 ·obtain⟨a1,a2,a3,a4,a5,a6⟩:=ZeF h.conc' h.sizes.1 h.sizes.2 hk
  obtain⟨x,y,hx⟩:=ZW a5 a6 Zd Zd
  refine⟨_,x,y,⟨i,hi,rfl⟩,?_,?_,?_⟩<;>(unfold slo;rw[if_pos hk];assumption)
 ·refine⟨_,⟨#[48]⟩,⟨#[49]⟩,⟨i,hi,rfl⟩,?_,?_,?_⟩<;>(unfold slo;rw[if_neg hk])
  ·exact Z1
  ·exact⟨by decide +kernel,by decide +kernel⟩
  ·exact Rat.le_refl
theorem Znq {v:Value} {bs:List BB} {w:World} {q r:Rat} {s t x y:ByteArray} (hv:BL w v bs) (hC:CurveP bs) (hz:LimB bs) (hq:IsP q s t) (hs:Sz 300 q) (hr:Zb0 bs.length (cR bs) (hR bs) q r) (hx:IsP r x y) (hD:DetV w) (hT:Tabs w) :
  Calls Tryz.prog 137 #[v,pV s t] w (ZZ (.tuple #[pV x y,.int .i64 0]) w):=by
 refine(ZkN hv hz hq.limit.1 hq.limit.2 hD hT).mono ?_
 rintro e w' ⟨u,u2,n,rfl,h,hb⟩
 rcases h with ⟨h,_⟩ | ⟨_,rfl,r',h1,h2⟩
 ·exact absurd ⟨hC,Zdr hq hs Zd⟩ h
 ·rw[hq.rat] at h1
  obtain⟨e1,e2⟩:=Zbb h2 hx (h1.unique hr)
  subst e1 e2
  exact⟨rfl,hb⟩
theorem Zde {n:Int} (h0:0<=n) (h1:n<=48):(∃ x y,IsP ((n:Int):Rat) x y)/\Sz 2 ((n:Int):Rat)/\0<=((n:Int):Rat):=by
 obtain⟨k,rfl⟩:∃ k:Nat,n=k:=⟨n.toNat,Za⟩
 have e:(((k:Nat):Int):Rat)=mkRat (k:Nat) 1:=by
  have h:∀ k:Nat,k<=48->(((k:Nat):Int):Rat)=mkRat (k:Nat) 1:=by decide +kernel
  exact h k Za
 have z:Sz 2 (mkRat (k:Nat) 1):=Sz.mk Zd Za Zd
 have n0:0<=mkRat (k:Nat) 1:=Zb2 _ _
 rw[e]
 exact⟨ZW n0 z Zd Zd,z,n0⟩
theorem ZcP {t:TaskP} (h:TaskOk t) {u i:Nat} (hu:u<t.rates.length) (hi:i<t.sites.length):IsP (rR t u i) (eR t u i).1 (eR t u i).2/\Sz 9 (rR t u i):=by
 obtain⟨h1,h2,h3⟩:=Zaj.1 ((h.team u hu).2.2 i hi)
 have:=Zax h3
 exact⟨this,this.sz h1 h2⟩
theorem Zd0 {t:TaskP} (h:TaskOk t) {i:Nat} (hi:i<t.sites.length):IsP (wR t i) (eS t i).weight.1 (eS t i).weight.2/\Sz 9 (wR t i):=by
 obtain⟨h1,h2,h3⟩:=Zaj.1 (h.site i hi).1
 have:=Zax h3
 exact⟨this,this.sz h1 h2⟩
def ZbA (t:TaskP) (p:List (List Int)):Prop:=p.length=t.hours.length/\(∀ u (h:u<p.length),p[u].length=t.sites.length)/\∀ u i,u<p.length->i<t.sites.length->0<=pN p u i/\pN p u i<=48
theorem PlanOk.inn {t:TaskP} {p:List (List Int)} (h:PlanOk t p):ZbA t p:=⟨h.teams,h.row,fun u i hu hi=>(h.hour u i hu hi).1⟩
theorem Zfi {t:TaskP} {p:List (List Int)} (h:TaskOk t) (hp:ZbA t p) {u i:Nat} (hu:u<p.length) (hi:i<t.sites.length) :
  (∃ x y,IsP (rR t u i*((pN p u i:Int):Rat)) x y)/\Sz 11 (rR t u i*((pN p u i:Int):Rat))/\0<=rR t u i*((pN p u i:Int):Rat):=by
 have hr:=h.rates
 have hpl:=hp.1
 obtain⟨r1,r2⟩:=ZcP h (u:=u) (i:=i) Za hi
 obtain⟨_,w2,w3⟩:=Zde (hp.2.2 u i hu hi).1 (hp.2.2 u i hu hi).2
 have n0:=Rat.mul_nonneg r1.nn w3
 have z:=Sz.mul r1.nn w3 r2 w2
 exact⟨ZW n0 z Zd Zd,z,n0⟩
theorem Zjf {t:TaskP} {p:List (List Int)} (h:TaskOk t) (hp:ZbA t p) {i:Nat} (hi:i<t.sites.length):∀ k,k<=p.length->Sz (12*k+1) (ZaW t p i k)/\0<=ZaW t p i k
 | 0,_=>⟨(show Sz 1 (0:Rat) from ⟨by decide +kernel,by decide +kernel⟩),Rat.le_refl⟩
 | k+1,hk=>by
  obtain⟨z,n⟩:=Zjf h hp hi k Za
  obtain⟨_,z2,n2⟩:=Zfi h hp (u:=k) Za hi
  exact⟨(Sz.add n n2 z z2).mono Za,by unfold ZaW;grind⟩
theorem ZcS {t:TaskP} {p:List (List Int)} (h:TaskOk t) (hp:ZbA t p) {i:Nat} (hi:i<t.sites.length) {k:Nat} (hk:k<=p.length):(∃ x y,IsP (ZaW t p i k) x y)/\Sz 97 (ZaW t p i k)/\0<=ZaW t p i k:=by
 obtain⟨z,n⟩:=Zjf h hp hi k hk
 have h1:=h.teams.2
 have h2:=hp.1
 have z2:Sz 97 (ZaW t p i k):=z.mono Za
 exact⟨ZW n z2 Zd Zd,z2,n⟩
theorem Zft {t:TaskP} (h:TaskOk t) {i:Nat} (hi:i<t.sites.length) {q:Rat} {k:Nat} (hq:0<=q) (hz:Sz k q) (hk:k<=300):(∃ x y,IsP (chF (eS t i).curve q) x y)/\Sz (k+109) (chF (eS t i).curve q)/\0<=chF (eS t i).curve q/\chF (eS t i).curve q<=1:=by
 have hC:=(h.site i hi).2
 obtain⟨r,x,y,h1,h2,h3,h4,h5⟩:=Zmv hC hq hz hk
 rw[Zgn hC h1]
 exact⟨⟨x,y,h2⟩,h3,h4,h5⟩
def Zar (f:Nat->Rat) (n:Nat):Prop:=∀ k,k<=n->Fits (sumF f k)
def SumE (f:Nat->Rat) (n:Nat) (x y:ByteArray) (e:Int):Prop:=(Zar f n/\IsP (sumF f n) x y/\e=0)\/(¬ Zar f n/\x=Zpm/\y=Zpm/\e=4)
theorem SumE.det {f:Nat->Rat} {n:Nat} {x y u v:ByteArray} {e d:Int} (h:SumE f n x y e) (g:SumE f n u v d):x=u/\y=v/\e=d:=by
 rcases h with ⟨h1,h2,rfl⟩ | ⟨h1,rfl,rfl,rfl⟩
 ·rcases g with ⟨_,g2,rfl⟩ | ⟨g1,_⟩
  ·obtain⟨e1,e2⟩:=Zbb h2 g2 rfl
   exact⟨e1,e2,rfl⟩
  ·exact absurd h1 g1
 ·rcases g with ⟨g1,_⟩ | ⟨_,rfl,rfl,rfl⟩
  ·exact absurd g1 h1
  ·exact⟨rfl,rfl,rfl⟩
theorem ZmG:Fits (0:Rat):=Z1.fits
theorem Zar.zero (f:Nat->Rat):Zar f 0:=fun k hk=>by
 obtain rfl:k=0:=Za
 exact ZmG
theorem Zar.step {f:Nat->Rat} {n:Nat} (h:Zar f n) (hf:Fits (sumF f n+f n)):Zar f (n+1):=fun k hk=>by
 rcases ZoS n k with h1 | h1
 ·obtain rfl:k=n+1:=Za
  exact hf
 ·exact h k h1
theorem Zar.not {f:Nat->Rat} {n m:Nat} (hf:¬ Fits (sumF f n+f n)) (hm:n<m):¬ Zar f m:=fun h=>hf (h (n+1) hm)
structure Best (g:Nat->Rat) (n:Nat) (r:Option Nat) (m:Rat):Prop where
 no:r=none->m=0/\∀ k,k<n->g k<=0
 yes:∀ j,r=some j->j<n/\m=g j/\0<m/\(∀ k,k<n->g k<=g j)/\∀ k,k<j->g k<g j
theorem Best.zero (g:Nat->Rat):Best g 0 none 0:=⟨fun _=>⟨rfl,fun k h=>absurd h (Zpc _)⟩,fun j h=>by cases h⟩
theorem Best.nn {g:Nat->Rat} {n:Nat} {r:Option Nat} {m:Rat} (h:Best g n r m):0<=m:=by
 cases r with
 | none=>rw[(h.no rfl).1];exact Rat.le_refl
 | some j=>exact Rat.le_of_lt (h.yes j rfl).2.2.1
theorem Best.le {g:Nat->Rat} {n:Nat} {r:Option Nat} {m:Rat} (h:Best g n r m) {k:Nat} (hk:k<n):g k<=m:=by
 cases r with
 | none=>
  rw[(h.no rfl).1]
  exact(h.no rfl).2 k hk
 | some j=>
  obtain⟨_,e,_,h2,_⟩:=h.yes j rfl
  rw[e]
  exact h2 k hk
theorem Best.up {g:Nat->Rat} {n:Nat} {r:Option Nat} {m:Rat} (h:Best g n r m) (hlt:m<g n):Best g (n+1) (some n) (g n):=by
 refine⟨fun h=>(by cases h),fun j hj=>?_⟩
 obtain rfl:=ZoQ hj
 have h0:=h.nn
 refine⟨Nat.lt_succ_self _,rfl,Zk,fun k hk=>?_,fun k hk=>?_⟩
 ·rcases ZoS k n with h1 | h1
  ·have:=h.le h1
   grind
  ·obtain rfl:k=n:=Za
   exact Rat.le_refl
 ·have:=h.le hk
  grind
theorem Best.keep {g:Nat->Rat} {n:Nat} {r:Option Nat} {m:Rat} (h:Best g n r m) (hle:g n<=m):Best g (n+1) r m:=by
 refine⟨fun hr=>?_,fun j hj=>?_⟩
 ·obtain⟨h1,h2⟩:=h.no hr
  refine⟨h1,fun k hk=>?_⟩
  rcases ZoS k n with h3 | h3
  ·exact h2 k h3
  ·obtain rfl:k=n:=Za
   rw[<- h1]
   exact hle
 ·obtain⟨h1,h2,h3,h4,h5⟩:=h.yes j hj
  refine⟨Za,h2,h3,fun k hk=>?_,h5⟩
  rcases ZoS k n with h6 | h6
  ·exact h4 k h6
  ·obtain rfl:k=n:=Za
   rw[<- h2]
   exact hle
theorem Best.det {g:Nat->Rat} {n:Nat} {r s:Option Nat} {m l:Rat} (h:Best g n r m) (k:Best g n s l):r=s/\m=l:=by
 cases r with
 | none=>
  obtain⟨h1,h2⟩:=h.no rfl
  cases s with
  | none=>exact⟨rfl,by rw[h1,(k.no rfl).1]⟩
  | some j=>
   obtain⟨k1,k2,k3,_⟩:=k.yes j rfl
   have:=h2 j k1
   exfalso
   grind
 | some i=>
  obtain⟨h1,h2,h3,h4,h5⟩:=h.yes i rfl
  cases s with
  | none=>
   have:=(k.no rfl).2 i h1
   exfalso
   grind
  | some j=>
   obtain⟨k1,k2,k3,k4,k5⟩:=k.yes j rfl
   have e1:=h4 j k1
   have e2:=k4 i h1
   rcases Nat.lt_trichotomy i j with h6 | rfl | h6
   ·have:=k5 i h6
    exfalso
    grind
   ·exact⟨rfl,by rw[h2,k2]⟩
   ·have:=h5 j h6
    exfalso
    grind
theorem Best.congr {f g:Nat->Rat} {n:Nat} {r:Option Nat} {m:Rat} (h:Best f n r m) (e:∀ k,k<n->f k=g k):Best g n r m:=by
 refine⟨fun hr=>⟨(h.no hr).1,fun k hk=>by rw[<- e k hk];exact(h.no hr).2 k hk⟩,fun j hj=>?_⟩
 obtain⟨h1,h2,h3,h4,h5⟩:=h.yes j hj
 exact⟨h1,by rw[<- e j h1];exact h2,h3,fun k hk=>by rw[<- e k hk,<- e j h1];exact h4 k hk,fun k hk=>by rw[<- e k Za,<- e j h1];exact h5 k hk⟩
structure LeastQ (q:Nat->Rat) (ok:Nat->Prop) (n:Nat) (r:Option Rat):Prop where
 no:r=none->∀ u,u<n->¬ ok u
 yes:∀ c,r=some c->(∃ u,u<n/\ok u/\c=q u)/\∀ u,u<n->ok u->c<=q u
theorem LeastQ.zero (q:Nat->Rat) (ok:Nat->Prop):LeastQ q ok 0 none:=⟨fun _ u h=>absurd h (Zpc _),fun c h=>by cases h⟩
theorem LeastQ.skip {q:Nat->Rat} {ok:Nat->Prop} {n:Nat} {r:Option Rat} (h:LeastQ q ok n r) (hn:¬ ok n):LeastQ q ok (n+1) r:=by
 refine⟨fun hr u hu=>?_,fun c hc=>?_⟩
 ·rcases ZoS u n with h1 | h1
  ·exact h.no hr u h1
  ·obtain rfl:u=n:=Za
   exact hn
 ·obtain⟨⟨u,h1,h2,h3⟩,h4⟩:=h.yes c hc
  refine⟨⟨u,Za,h2,h3⟩,fun v hv hv2=>?_⟩
  rcases ZoS v n with h5 | h5
  ·exact h4 v h5 hv2
  ·obtain rfl:v=n:=Za
   exact absurd hv2 hn
theorem LeastQ.take {q:Nat->Rat} {ok:Nat->Prop} {n:Nat} {r:Option Rat} (h:LeastQ q ok n r) (hn:ok n) (hl:∀ c,r=some c->q n<c):LeastQ q ok (n+1) (some (q n)):=by
 refine⟨fun h=>(by cases h),fun c hc=>?_⟩
 obtain rfl:=ZoQ hc
 refine⟨⟨n,Za,hn,rfl⟩,fun v hv hv2=>?_⟩
 rcases ZoS v n with h5 | h5
 ·cases hr:r with
  | none=>exact absurd hv2 (h.no hr v h5)
  | some c=>
   have h1:=(h.yes c hr).2 v h5 hv2
   have h2:=hl c hr
   grind
 ·obtain rfl:v=n:=Za
  exact Rat.le_refl
theorem LeastQ.keep {q:Nat->Rat} {ok:Nat->Prop} {n:Nat} {c:Rat} (h:LeastQ q ok n (some c)) (hl:c<=q n):LeastQ q ok (n+1) (some c):=by
 refine⟨fun h=>(by cases h),fun d hd=>?_⟩
 obtain rfl:=ZoQ hd
 obtain⟨⟨u,h1,h2,h3⟩,h4⟩:=h.yes c rfl
 refine⟨⟨u,Za,h2,h3⟩,fun v hv hv2=>?_⟩
 rcases ZoS v n with h5 | h5
 ·exact h4 v h5 hv2
 ·obtain rfl:v=n:=Za
  exact hl
theorem LeastQ.det {q:Nat->Rat} {ok:Nat->Prop} {n:Nat} {r s:Option Rat} (h:LeastQ q ok n r) (g:LeastQ q ok n s):r=s:=by
 cases r with
 | none=>
  cases s with
  | none=>rfl
  | some c=>
   obtain⟨⟨u,h1,h2,_⟩,_⟩:=g.yes c rfl
   exact absurd h2 (h.no rfl u h1)
 | some c=>
  obtain⟨⟨u,h1,h2,h3⟩,h4⟩:=h.yes c rfl
  cases s with
  | none=>exact absurd h2 (g.no rfl u h1)
  | some d=>
   obtain⟨⟨v,g1,g2,g3⟩,g4⟩:=g.yes d rfl
   have e1:=h4 v g1 g2
   have e2:=g4 u h1 h2
   congr 1
   grind
end Go.Proofs.YtmpaflidennnoaaGreatDoor
