/- The parts Does2, Two, Ops, Inv, Order, Must, List, Share. -/
import Derived.Test.YtmpaflidennnoaaGreatDoorH04
import Derived.Deep.DeepCutAuto
import Derived.Recover
set_option maxRecDepth 100000
set_option maxHeartbeats 4000000
set_option linter.unusedVariables false
set_option linter.unusedSimpArgs false
namespace Go.Proofs.YtmpaflidennnoaaGreatDoor
open Go.RowKit Go.Shelf
attribute [local go_sem ↓] Go.wp_at_zero Go.wp_at_succ
theorem ZnT {n m k l:Nat} (h1:(Zp 1000000000 n).length<=k) (h2:(Zp 1000000000 m).length<=l):(Zp 1000000000 (n+m)).length<=k+l+1:=by
 refine Zac Za ?_
 have a1:=Z8 (ZJ (B:=1000000000) Za n)
 have a2:=Z8 (ZJ (B:=1000000000) Za m)
 rw[ZA Za] at a1 a2
 have b1:(1000000000:Nat) ^ (Zp 1000000000 n).length<=1000000000 ^ (k+l):=ZoW Za Za
 have b2:(1000000000:Nat) ^ (Zp 1000000000 m).length<=1000000000 ^ (k+l):=ZoW Za Za
 rw[Zpi]
 omega
theorem Zni {v1 v2 v3 v4:Value} {n1 d1 n2 d2:Nat} {w:World} (h1:Num w v1 n1) (h2:Num w v2 d1) (h3:Num w v3 n2) (h4:Num w v4 d2)
  (l1:(Zp 1000000000 n1).length<=1000) (l2:(Zp 1000000000 d1).length<=1000) (l3:(Zp 1000000000 n2).length<=1000) (l4:(Zp 1000000000 d2).length<=1000) (hd1:0<d1) (hd2:0<d2) (hT:Tabs w) :
  Calls Tryz.prog 99 #[.agg #[v1,v2],.agg #[v3,v4]] w (ZL (Ans (mkRat ((n1*d2+n2*d1:Nat):Int) (d1*d2))) w):=by
 obtain⟨p1,m1,c1,rfl⟩:=h1.form'
 obtain⟨p2,m2,c2,rfl⟩:=h2.form'
 obtain⟨p3,m3,c3,rfl⟩:=h3.form'
 obtain⟨p4,m4,c4,rfl⟩:=h4.form'
 have H1:=Zpz h1
 have H2:=Zpz h2
 have H3:=Zpz h3
 have H4:=Zpz h4
 have HT:=Zpz hT
 clear h1 h2 h3 h4 hT
 have M1:Hid ((Zp 1000000000 (n1*d2)).length<=2000):=ZoU (Zgh l1 l4) Za
 have M2:Hid ((Zp 1000000000 (n2*d1)).length<=2000):=ZoU (Zgh l3 l2) Za
 have K1:Hid ((Zp 1000000000 (n1*d2)).length<=100000):=ZoU M1.out Za
 have K2:Hid ((Zp 1000000000 (n2*d1)).length<=100000):=ZoU M2.out Za
 have HL1:Hid ((Zp 1000000000 (n1*d2+n2*d1)).length<=100000):=ZoU (ZnT M1.out M2.out) Za
 have HL2:Hid ((Zp 1000000000 (d1*d2)).length<=100000):=ZbW l2 l4
 have HD:Hid (0<d1*d2):=Nat.mul_pos hd1 hd2
 go_enter Tryz.func99,Tryz.ntmps99
 go_wp2_with fail
 obtain⟨w1,hw1⟩:=ZpB (((w.alloc (.cells #[.slice p1 m1 c1,.slice p2 m2 c2] 112)).alloc (.cells #[.slice p3 m3 c3,.slice p4 m4 c4] 112)).alloc (Zpx Zpv Zpv))
 rw[hw1]
 have HX1:Hid (Zv w.heap.size [.cells #[.slice p1 m1 c1,.slice p2 m2 c2] 112,.cells #[.slice p3 m3 c3,.slice p4 m4 c4] 112,Zpx Zpv Zpv] w1):=by rw[<- hw1];exact Zv.three w _ _ _
 have HB1:Zpt w w1:=by rw[<- hw1];exact(((ZoL _ w).alloc ZpA _).alloc Zc _).alloc (by simp<;>omega) _
 clear hw1
 have k1:=HX1.out.f4
 obtain⟨ka1,kb1,kc1,kd1⟩:=id k1
 go_region_held3
  (fun w'=>w'.cell? ⟨w.heap.size,0,none⟩=some (.slice p1 m1 c1)/\w'.cell? ⟨w.heap.size,1,none⟩=some (.slice p2 m2 c2)/\w'.cell? ⟨w.heap.size+1,0,none⟩=some (.slice p3 m3 c3)/\w'.cell? ⟨w.heap.size+1,1,none⟩=some (.slice p4 m4 c4))
  (first | exact k1 | exact k2 | exact k3 | exact k4 | exact k5 | exact k6 | exact ZaW Za Za k9 _ _ | exact k9)
  (first
   | (go_at_call_of 68 (Value.slice p1 m1 c1);refine(Zaw (H1.out.after HB1.out.drew ZpA) (H4.out.after HB1.out.drew ZpA) l1 l4).mono ?_;rintro e w2 ⟨va,rfl,hv,hb⟩;obtain⟨pa,ma,ca,rfl⟩:=hv.form';have HA:=Zpz hv;have HX2:=Zpz (HX1.out.drew.below hb HX1.out.lt);have HB2:Zpt w w2:=HB1.out.drew.trans (hb.mono HB1.out.drew.size);have k2:=HX2.out.f4;clear hv hb)
   | (go_at_call_of 68 (Value.slice p3 m3 c3);refine(Zaw (H3.out.after HB2.out ZpA) (H2.out.after HB2.out ZpA) l3 l2).mono ?_;rintro e w3 ⟨vb,rfl,hv,hb⟩;obtain⟨pb,mb,cb,rfl⟩:=hv.form';have HC:=Zpz hv;have HA3:=Zpz (HA.out.after hb ZpA);have HX3:=Zpz (HX2.out.below hb HX2.out.lt);have HB3:Zpt w w3:=HB2.out.trans (hb.mono HB2.out.size);have k3:=HX3.out.f4;clear hv hb)
   | (go_at_call_of 100 (Value.slice pa ma ca);refine(Znf HA3.out HC.out K1.out K2.out).mono ?_;rintro e w4 ⟨vs,rfl,hv,hb⟩;obtain⟨ps,ms,cs,rfl⟩:=hv.form';have HS:=Zpz hv;have HX4:=Zpz (HX3.out.below hb HX3.out.lt);have HB4:Zpt w w4:=HB3.out.trans (hb.mono HB3.out.size);have k4:=HX4.out.f4;clear hv hb)
   | (go_at_call_of 68 (Value.slice p2 m2 c2);refine(Zaw (H2.out.after HB4.out ZpA) (H4.out.after HB4.out ZpA) l2 l4).mono ?_;rintro e w5 ⟨vd,rfl,hv,hb⟩;obtain⟨pd,md,cd,rfl⟩:=hv.form';have HE:=Zpz hv;have HS5:=Zpz (HS.out.after hb ZpA);have HX5:=Zpz (HX4.out.below hb HX4.out.lt);have HB5:Zpt w w5:=HB4.out.trans (hb.mono HB4.out.size);have k5:=HX5.out.f4;clear hv hb)
   | (go_at_call 101;refine(ZdE HS5.out HE.out HL1.out HL2.out HD.out (HT.out.below HB5.out ZpA)).mono ?_;rintro e w9 ⟨x,y,n,rfl,hR,hb9⟩;have HR:=Zpz hR;have HX9:=Zpz (HX5.out.below hb9 HX5.out.lt);have HB9:Zpt w w9:=HB5.out.trans (hb9.mono HB5.out.size);have k9:=HX9.out.f4;have r0:=HX9.out.cell 2 0 (b:=w.heap.size+1+1) rfl rfl rfl;have r1:=HX9.out.cell 2 1 (b:=w.heap.size+1+1) rfl rfl rfl;have f0:=HX9.out.free 2 0 (b:=w.heap.size+1+1) rfl rfl;have f1:=HX9.out.free 2 1 (b:=w.heap.size+1+1) rfl rfl;clear hR hb9)
  )
 all_goals
  have q:=Zu (HX9.out.block 2 (b:=w.heap.size+1+1) rfl rfl) (.string x) (.string y)
  have HBQ:=Zpz (Zs HB9.out (b:=w.heap.size+1+1) Za (.string x) (.string y))
  obtain⟨wz,hwz⟩:=ZpB ((w9.setCell ⟨w.heap.size+1+1,0,none⟩ (.string x)).setCell ⟨w.heap.size+1+1,1,none⟩ (.string y))
  rw[hwz] at q HBQ
  obtain⟨q0,q1⟩:=q
  rw[hwz]
  clear r0 r1 f0 f1 hwz
  go_wp2
  refine ZoM (v:=.tuple #[Zpw x y,.int .i64 n]) (by simp[results,Tryz.f99,go_sem,q0,q1]) rfl ⟨_,_,_,rfl,HR.out,HBQ.out⟩
theorem ZnN {n m k:Nat} (h1:(Zp 1000000000 n).length<=k):(Zp 1000000000 (n-m)).length<=k:=ZoU (ZN Za (Nat.sub_le _ _)) h1
def SubR (n1 d1 n2 d2:Nat) (s t:ByteArray) (e:Int):Prop:=
 (n1*d2<n2*d1/\s=str []/\t=str []/\e=11)\/(n2*d1<=n1*d2/\Ans (mkRat ((n1*d2-n2*d1:Nat):Int) (d1*d2)) s t e)
theorem Zm3 {v1 v2 v3 v4:Value} {n1 d1 n2 d2:Nat} {w:World} (h1:Num w v1 n1) (h2:Num w v2 d1) (h3:Num w v3 n2) (h4:Num w v4 d2)
  (l1:(Zp 1000000000 n1).length<=1000) (l2:(Zp 1000000000 d1).length<=1000) (l3:(Zp 1000000000 n2).length<=1000) (l4:(Zp 1000000000 d2).length<=1000) (hd1:0<d1) (hd2:0<d2) (hT:Tabs w) :
  Calls Tryz.prog 154 #[.agg #[v1,v2],.agg #[v3,v4]] w (ZL (SubR n1 d1 n2 d2) w):=by
 obtain⟨p1,m1,c1,rfl⟩:=h1.form'
 obtain⟨p2,m2,c2,rfl⟩:=h2.form'
 obtain⟨p3,m3,c3,rfl⟩:=h3.form'
 obtain⟨p4,m4,c4,rfl⟩:=h4.form'
 have H1:=Zpz h1
 have H2:=Zpz h2
 have H3:=Zpz h3
 have H4:=Zpz h4
 have HT:=Zpz hT
 clear h1 h2 h3 h4 hT
 have K1:Hid ((Zp 1000000000 (n1*d2)).length<=100000):=ZbW l1 l4
 have K2:Hid ((Zp 1000000000 (n2*d1)).length<=100000):=ZbW l3 l2
 have L1:Hid ((Zp 1000000000 (n1*d2)).length<=1000000):=ZoU K1.out Za
 have L2:Hid ((Zp 1000000000 (n2*d1)).length<=1000000):=ZoU K2.out Za
 have HL1:Hid ((Zp 1000000000 (n1*d2-n2*d1)).length<=100000):=ZnN K1.out
 have HL2:Hid ((Zp 1000000000 (d1*d2)).length<=100000):=ZbW l2 l4
 have HD:Hid (0<d1*d2):=Nat.mul_pos hd1 hd2
 rcases ZoR (n1*d2) (n2*d1) with hlt | hge
 ·have HLT:=Zpz hlt
  clear hlt
  go_enter Tryz.func154,Tryz.ntmps154
  go_wp2_with fail
  obtain⟨w1,hw1⟩:=ZpB (((w.alloc (.cells #[.slice p1 m1 c1,.slice p2 m2 c2] 112)).alloc (.cells #[.slice p3 m3 c3,.slice p4 m4 c4] 112)).alloc (Zpx Zpv Zpv))
  rw[hw1]
  have HX1:Hid (Zv w.heap.size [.cells #[.slice p1 m1 c1,.slice p2 m2 c2] 112,.cells #[.slice p3 m3 c3,.slice p4 m4 c4] 112,Zpx Zpv Zpv] w1):=by rw[<- hw1];exact Zv.three w _ _ _
  have HB1:Zpt w w1:=by rw[<- hw1];exact(((ZoL _ w).alloc ZpA _).alloc Zc _).alloc (by simp<;>omega) _
  clear hw1
  have k1:=HX1.out.f4
  obtain⟨ka1,kb1,kc1,kd1⟩:=id k1
  go_region_held3
   (fun w'=>w'.cell? ⟨w.heap.size,0,none⟩=some (.slice p1 m1 c1)/\w'.cell? ⟨w.heap.size,1,none⟩=some (.slice p2 m2 c2)/\w'.cell? ⟨w.heap.size+1,0,none⟩=some (.slice p3 m3 c3)/\w'.cell? ⟨w.heap.size+1,1,none⟩=some (.slice p4 m4 c4))
   (first | exact k1 | exact k2 | exact k3 | exact k4 | exact k5 | exact k6 | exact ZaW Za Za k9 _ _ | exact k9)
   (first
    | (go_at_call_of 68 (Value.slice p1 m1 c1);refine(Zaw (H1.out.after HB1.out.drew ZpA) (H4.out.after HB1.out.drew ZpA) l1 l4).mono ?_;rintro e w2 ⟨va,rfl,hv,hb⟩;obtain⟨pa,ma,ca,rfl⟩:=hv.form';have HA:=Zpz hv;have HX2:=Zpz (HX1.out.drew.below hb HX1.out.lt);have HB2:Zpt w w2:=HB1.out.drew.trans (hb.mono HB1.out.drew.size);have k2:=HX2.out.f4;clear hv hb)
    | (go_at_call_of 68 (Value.slice p3 m3 c3);refine(Zaw (H3.out.after HB2.out ZpA) (H2.out.after HB2.out ZpA) l3 l2).mono ?_;rintro e w3 ⟨vb,rfl,hv,hb⟩;obtain⟨pb,mb,cb,rfl⟩:=hv.form';have HC:=Zpz hv;have HA3:=Zpz (HA.out.after hb ZpA);have HX3:=Zpz (HX2.out.below hb HX2.out.lt);have HB3:Zpt w w3:=HB2.out.trans (hb.mono HB2.out.size);have k3:=HX3.out.f4;clear hv hb)
   )
  go_wp2_with fail
  refine(ZbU HA3.out HC.out L1.out L2.out).mono ?_
  rintro e w4 ⟨r,rfl,hsg,hb4⟩
  have HX4:=Zpz (HX3.out.below hb4 HX3.out.lt)
  have HB4:=Zpz (HB3.out.trans (hb4.mono HB3.out.size))
  have HA4:=Zpz (HA3.out.after hb4 ZpA)
  have HC4:=Zpz (HC.out.after hb4 ZpA)
  have HSG:=Zpz hsg
  clear hb4 hsg k3
  have hr:r<0:=HSG.out.1.2 HLT.out
  have r0:=HX4.out.cell 2 0 (b:=w.heap.size+1+1) rfl rfl rfl
  have r1:=HX4.out.cell 2 1 (b:=w.heap.size+1+1) rfl rfl rfl
  have f0:=HX4.out.free 2 0 (b:=w.heap.size+1+1) rfl rfl
  have f1:=HX4.out.free 2 1 (b:=w.heap.size+1+1) rfl rfl
  go_wp2
  have q:=Zu (HX4.out.block 2 (b:=w.heap.size+1+1) rfl rfl) (.string Zpv) (.string Zpv)
  have HBQ:=Zpz (Zs HB4.out (b:=w.heap.size+1+1) Za (.string Zpv) (.string Zpv))
  obtain⟨w9,hw9⟩:=ZpB ((w4.setCell ⟨w.heap.size+1+1,0,none⟩ (.string Zpv)).setCell ⟨w.heap.size+1+1,1,none⟩ (.string Zpv))
  rw[hw9] at q HBQ
  obtain⟨q0,q1⟩:=q
  rw[hw9]
  clear r0 r1 f0 f1 hw9
  go_wp2
  refine ZoM (v:=.tuple #[Zpw Zpv Zpv,.int .i64 11]) (by simp[results,Tryz.f154,go_sem,q0,q1]) rfl ⟨_,_,_,rfl,?_,HBQ.out⟩
  exact .inl ⟨HLT.out,rfl,rfl,rfl⟩
 ·have HLT:=Zpz hge
  clear hge
  go_enter Tryz.func154,Tryz.ntmps154
  go_wp2_with fail
  obtain⟨w1,hw1⟩:=ZpB (((w.alloc (.cells #[.slice p1 m1 c1,.slice p2 m2 c2] 112)).alloc (.cells #[.slice p3 m3 c3,.slice p4 m4 c4] 112)).alloc (Zpx Zpv Zpv))
  rw[hw1]
  have HX1:Hid (Zv w.heap.size [.cells #[.slice p1 m1 c1,.slice p2 m2 c2] 112,.cells #[.slice p3 m3 c3,.slice p4 m4 c4] 112,Zpx Zpv Zpv] w1):=by rw[<- hw1];exact Zv.three w _ _ _
  have HB1:Zpt w w1:=by rw[<- hw1];exact(((ZoL _ w).alloc ZpA _).alloc Zc _).alloc (by simp<;>omega) _
  clear hw1
  have k1:=HX1.out.f4
  obtain⟨ka1,kb1,kc1,kd1⟩:=id k1
  go_region_held3
   (fun w'=>w'.cell? ⟨w.heap.size,0,none⟩=some (.slice p1 m1 c1)/\w'.cell? ⟨w.heap.size,1,none⟩=some (.slice p2 m2 c2)/\w'.cell? ⟨w.heap.size+1,0,none⟩=some (.slice p3 m3 c3)/\w'.cell? ⟨w.heap.size+1,1,none⟩=some (.slice p4 m4 c4))
   (first | exact k1 | exact k2 | exact k3 | exact k4 | exact k5 | exact k6 | exact ZaW Za Za k9 _ _ | exact k9)
   (first
    | (go_at_call_of 68 (Value.slice p1 m1 c1);refine(Zaw (H1.out.after HB1.out.drew ZpA) (H4.out.after HB1.out.drew ZpA) l1 l4).mono ?_;rintro e w2 ⟨va,rfl,hv,hb⟩;obtain⟨pa,ma,ca,rfl⟩:=hv.form';have HA:=Zpz hv;have HX2:=Zpz (HX1.out.drew.below hb HX1.out.lt);have HB2:Zpt w w2:=HB1.out.drew.trans (hb.mono HB1.out.drew.size);have k2:=HX2.out.f4;clear hv hb)
    | (go_at_call_of 68 (Value.slice p3 m3 c3);refine(Zaw (H3.out.after HB2.out ZpA) (H2.out.after HB2.out ZpA) l3 l2).mono ?_;rintro e w3 ⟨vb,rfl,hv,hb⟩;obtain⟨pb,mb,cb,rfl⟩:=hv.form';have HC:=Zpz hv;have HA3:=Zpz (HA.out.after hb ZpA);have HX3:=Zpz (HX2.out.below hb HX2.out.lt);have HB3:Zpt w w3:=HB2.out.trans (hb.mono HB2.out.size);have k3:=HX3.out.f4;clear hv hb)
   )
  go_wp2_with fail
  refine(ZbU HA3.out HC.out L1.out L2.out).mono ?_
  rintro e w4 ⟨r,rfl,hsg,hb4⟩
  have HX4:=Zpz (HX3.out.below hb4 HX3.out.lt)
  have HB4:=Zpz (HB3.out.trans (hb4.mono HB3.out.size))
  have HA4:=Zpz (HA3.out.after hb4 ZpA)
  have HC4:=Zpz (HC.out.after hb4 ZpA)
  have HSG:=Zpz hsg
  clear hb4 hsg k3
  have hr:¬ r<0:=fun h=>by have h1:=HSG.out.1.1 h;have h2:=HLT.out;omega
  have k1:=HX4.out.f4
  obtain⟨ka1,kb1,kc1,kd1⟩:=id k1
  go_wp2_with fail
  go_region_held3
   (fun w'=>w'.cell? ⟨w.heap.size,0,none⟩=some (.slice p1 m1 c1)/\w'.cell? ⟨w.heap.size,1,none⟩=some (.slice p2 m2 c2)/\w'.cell? ⟨w.heap.size+1,0,none⟩=some (.slice p3 m3 c3)/\w'.cell? ⟨w.heap.size+1,1,none⟩=some (.slice p4 m4 c4))
   (first | exact k1 | exact k2 | exact k3 | exact k4 | exact k5 | exact k6 | exact ZaW Za Za k9 _ _ | exact k9)
   (first
    | (go_at_call_of 155 (Value.slice pa ma ca);refine(ZmJ (HA4.out.after (ZoL w4.heap.size w4).drew ZpA) (HC4.out.after (ZoL w4.heap.size w4).drew ZpA) HLT.out K1.out).mono ?_;rintro e w5 ⟨vs,rfl,hv,hb⟩;obtain⟨ps,ms,cs,rfl⟩:=hv.form';have HS:=Zpz hv;have HX5:=Zpz (HX4.out.drew.below hb HX4.out.lt);have HB5:Zpt w w5:=HB4.out.drew.trans (hb.mono HB4.out.drew.size);have k5:=HX5.out.f4;clear hv hb)
    | (go_at_call_of 68 (Value.slice p2 m2 c2);refine(Zaw (H2.out.after HB5.out ZpA) (H4.out.after HB5.out ZpA) l2 l4).mono ?_;rintro e w6 ⟨vd,rfl,hv,hb⟩;obtain⟨pd,md,cd,rfl⟩:=hv.form';have HE:=Zpz hv;have HS6:=Zpz (HS.out.after hb ZpA);have HX6:=Zpz (HX5.out.below hb HX5.out.lt);have HB6:Zpt w w6:=HB5.out.trans (hb.mono HB5.out.size);have k6:=HX6.out.f4;clear hv hb)
    | (go_at_call 101;refine(ZdE HS6.out HE.out HL1.out HL2.out HD.out (HT.out.below HB6.out ZpA)).mono ?_;rintro e w9 ⟨x,y,n,rfl,hR,hb9⟩;have HR:=Zpz hR;have HX9:=Zpz (HX6.out.below hb9 HX6.out.lt);have HB9:Zpt w w9:=HB6.out.trans (hb9.mono HB6.out.size);have k9:=HX9.out.f4;have r0:=HX9.out.cell 2 0 (b:=w.heap.size+1+1) rfl rfl rfl;have r1:=HX9.out.cell 2 1 (b:=w.heap.size+1+1) rfl rfl rfl;have f0:=HX9.out.free 2 0 (b:=w.heap.size+1+1) rfl rfl;have f1:=HX9.out.free 2 1 (b:=w.heap.size+1+1) rfl rfl;clear hR hb9)
   )
  all_goals
   have q:=Zu (HX9.out.block 2 (b:=w.heap.size+1+1) rfl rfl) (.string x) (.string y)
   have HBQ:=Zpz (Zs HB9.out (b:=w.heap.size+1+1) Za (.string x) (.string y))
   obtain⟨wz,hwz⟩:=ZpB ((w9.setCell ⟨w.heap.size+1+1,0,none⟩ (.string x)).setCell ⟨w.heap.size+1+1,1,none⟩ (.string y))
   rw[hwz] at q HBQ
   obtain⟨q0,q1⟩:=q
   rw[hwz]
   clear r0 r1 f0 f1 hwz
   go_wp2
   refine ZoM (v:=.tuple #[Zpw x y,.int .i64 n]) (by simp[results,Tryz.f154,go_sem,q0,q1]) rfl ⟨_,_,_,rfl,.inr ⟨HLT.out,HR.out⟩,HBQ.out⟩
def Bi (s t u v:ByteArray) (R:ByteArray->ByteArray->Int->Prop) (x y:ByteArray) (e:Int):Prop:=
 ((okP s t && okP u v)=false/\x=str []/\y=str []/\e=2)\/((okP s t && okP u v)=true/\R x y e)
theorem ZaZ {s t:ByteArray} (h:okP s t=true):(∀ c ∈ s.data.toList,ZG c=true)/\(∀ c ∈ t.data.toList,ZG c=true)/\s.size<=1000000/\t.size<=1000000/\
  (Zp 1000000000 (Zq s.data.toList)).length<=1000/\(Zp 1000000000 (Zq t.data.toList)).length<=1000/\0<Zq t.data.toList:=by
 obtain⟨h1,h2,h3,h4⟩:=Zc0.1 h
 obtain⟨c1,l1⟩:=Zak h1
 obtain⟨c2,l2⟩:=Zak h2
 rw[Zy] at l1 l2
 exact⟨c1.dig,c2.dig,Za,Za,ZoU (Zce c1.dig (j:=70) Za) Za,ZoU (Zce c2.dig (j:=70) Za) Za,h3⟩
theorem ZfI {F:Nat} (hent:∀ args w,(callFunc F args).run Tryz.prog w=.ok (.enter F args) w) {R:ByteArray->ByteArray->Int->Prop} (s t u v:ByteArray) (w:World) (hs:s.size<=1000000) (ht:t.size<=1000000) (hu:u.size<=1000000) (hv:v.size<=1000000) (hT:Tabs w)
  (hc:okP s t=true->okP u v=true->∀ (v1 v2 v3 v4:Value) (W:World),Num W v1 (Zq s.data.toList)->Num W v2 (Zq t.data.toList)->Num W v3 (Zq u.data.toList)->Num W v4 (Zq v.data.toList)->Tabs W->Calls Tryz.prog F #[.agg #[v1,v2],.agg #[v3,v4]] W (ZL R W)) :
  Calls Tryz.prog 98 #[Zpw s t,Zpw u v,.func (.func F) #[] #[]] w (ZL (Bi s t u v R) w):=by
 have HT:=Zpz hT
 have HCC:=Zpz hc
 clear hT hc
 go_enter Tryz.func98,Tryz.ntmps98
 go_wp2_with fail
 obtain⟨w1,hw1⟩:=ZpB (((w.alloc (Zpx s t)).alloc (Zpx u v)).alloc (Zpx Zpv Zpv))
 rw[hw1]
 have HX1:Hid (Zv w.heap.size [Zpx s t,Zpx u v,Zpx Zpv Zpv] w1):=by rw[<- hw1];exact Zv.three w _ _ _
 have HB1:Zpt w w1:=by rw[<- hw1];exact(((ZoL _ w).alloc ZpA _).alloc Zc _).alloc (by simp<;>omega) _
 clear hw1
 refine(ZaU s t _ hs ht).mono ?_
 rintro e w2 ⟨rfl,hb2⟩
 have HX2:=Zpz (HX1.out.below hb2 HX1.out.lt)
 have HB2:=Zpz (HB1.out.trans (hb2.mono HB1.out.size))
 clear hb2
 cases h1:okP s t
 ·have H1:Hid ((okP s t && okP u v)=false):=by show _=_;rw[h1];rfl
  rw[ZaM h1]
  clear h1
  have r0:=HX2.out.cell 2 0 (b:=w.heap.size+1+1) rfl rfl rfl
  have r1:=HX2.out.cell 2 1 (b:=w.heap.size+1+1) rfl rfl rfl
  have f0:=HX2.out.free 2 0 (b:=w.heap.size+1+1) rfl rfl
  have f1:=HX2.out.free 2 1 (b:=w.heap.size+1+1) rfl rfl
  go_wp2
  have q:=Zu (HX2.out.block 2 (b:=w.heap.size+1+1) rfl rfl) (.string Zpv) (.string Zpv)
  have HBQ:=Zpz (Zs HB2.out (b:=w.heap.size+1+1) Za (.string Zpv) (.string Zpv))
  obtain⟨w9,hw9⟩:=ZpB ((w2.setCell ⟨w.heap.size+1+1,0,none⟩ (.string Zpv)).setCell ⟨w.heap.size+1+1,1,none⟩ (.string Zpv))
  rw[hw9] at q HBQ
  obtain⟨q0,q1⟩:=q
  rw[hw9]
  clear r0 r1 f0 f1 hw9
  go_wp2
  refine ZoM (v:=.tuple #[Zpw Zpv Zpv,.int .i64 2]) (by simp[results,Tryz.f98,go_sem,q0,q1]) rfl ⟨_,_,_,rfl,?_,HBQ.out⟩
  exact .inl ⟨H1.out,rfl,rfl,rfl⟩
 have H1:=Zpz h1
 rw[Zbj h1]
 clear h1
 have kc2:=HX2.out.cell 1 0 (b:=w.heap.size+1) rfl rfl rfl
 have kd2:=HX2.out.cell 1 1 (b:=w.heap.size+1) rfl rfl rfl
 go_wp2_with fail
 refine(ZaU u v _ hu hv).mono ?_
 rintro e w3 ⟨rfl,hb3⟩
 have HX3:=Zpz (HX2.out.below hb3 HX2.out.lt)
 have HB3:=Zpz (HB2.out.trans (hb3.mono HB2.out.size))
 clear hb3 kc2 kd2
 cases h2:okP u v
 ·have H2:Hid ((okP s t && okP u v)=false):=by show _=_;rw[h2,Bool.and_false]
  rw[ZaM h2]
  clear h2
  have r0:=HX3.out.cell 2 0 (b:=w.heap.size+1+1) rfl rfl rfl
  have r1:=HX3.out.cell 2 1 (b:=w.heap.size+1+1) rfl rfl rfl
  have f0:=HX3.out.free 2 0 (b:=w.heap.size+1+1) rfl rfl
  have f1:=HX3.out.free 2 1 (b:=w.heap.size+1+1) rfl rfl
  go_wp2
  have q:=Zu (HX3.out.block 2 (b:=w.heap.size+1+1) rfl rfl) (.string Zpv) (.string Zpv)
  have HBQ:=Zpz (Zs HB3.out (b:=w.heap.size+1+1) Za (.string Zpv) (.string Zpv))
  obtain⟨w9,hw9⟩:=ZpB ((w3.setCell ⟨w.heap.size+1+1,0,none⟩ (.string Zpv)).setCell ⟨w.heap.size+1+1,1,none⟩ (.string Zpv))
  rw[hw9] at q HBQ
  obtain⟨q0,q1⟩:=q
  rw[hw9]
  clear r0 r1 f0 f1 hw9
  go_wp2
  refine ZoM (v:=.tuple #[Zpw Zpv Zpv,.int .i64 2]) (by simp[results,Tryz.f98,go_sem,q0,q1]) rfl ⟨_,_,_,rfl,?_,HBQ.out⟩
  exact .inl ⟨H2.out,rfl,rfl,rfl⟩
 have HQ:Hid ((okP s t && okP u v)=true):=by show _=_;rw[H1.out,h2];rfl
 have HC:=Zpz (HCC.out H1.out h2)
 obtain⟨g1,g2,_⟩:=ZaZ H1.out
 obtain⟨g3,g4,_⟩:=ZaZ h2
 have HG:=Zpz (Zpq g1 (Zpq g2 (Zpq g3 g4)))
 rw[Zbj h2]
 clear h2 HCC H1 g1 g2 g3 g4
 have k3:=HX3.out.f4
 obtain⟨ka3,kb3,kc3,kd3⟩:=id k3
 go_wp2_with fail
 go_region_held3
  (fun w'=>w'.cell? ⟨w.heap.size,0,none⟩=some (.string s)/\w'.cell? ⟨w.heap.size,1,none⟩=some (.string t)/\w'.cell? ⟨w.heap.size+1,0,none⟩=some (.string u)/\w'.cell? ⟨w.heap.size+1,1,none⟩=some (.string v))
  (first | exact k3 | exact k4 | exact k5 | exact ZaW Za Za k9 _ _ | exact k9)
  (first
   | (go_at_call_of 67 (Value.agg #[.string s,.string t]);refine(Zdg s t hs ht HG.out.1 HG.out.2.1 _).mono ?_;rintro e w4 ⟨va,vb,rfl,hva,hvb,hb⟩;obtain⟨p4,m4,c4,rfl⟩:=hva.form';obtain⟨q4,n4,d4,rfl⟩:=hvb.form';have HA:=Zpz hva;have HD:=Zpz hvb;have HX4:=Zpz (HX3.out.drew.below hb HX3.out.lt);have HB4:Zpt w w4:=HB3.out.drew.trans (hb.mono HB3.out.drew.size);have k4:=HX4.out.f4;clear hva hvb hb)
   | (go_at_call_of 67 (Value.agg #[.string u,.string v]);refine(Zdg u v hu hv HG.out.2.2.1 HG.out.2.2.2 _).mono ?_;rintro e w5 ⟨vc,vd,rfl,hva,hvb,hb⟩;obtain⟨p5,m5,c5,rfl⟩:=hva.form';obtain⟨q5,n5,d5,rfl⟩:=hvb.form';have HE:=Zpz hva;have HF:=Zpz hvb;have HA5:=Zpz (HA.out.after hb ZpA);have HC5:=Zpz (HD.out.after hb ZpA);have HX5:=Zpz (HX4.out.below hb HX4.out.lt);have HB5:Zpt w w5:=HB4.out.trans (hb.mono HB4.out.size);have k5:=HX5.out.f4;clear hva hvb hb)
   | (refine(HC.out _ _ _ _ _ HA5.out HC5.out HE.out HF.out (HT.out.below HB5.out ZpA)).mono ?_;rintro e w9 ⟨x,y,n,rfl,hR,hb9⟩;have HR:=Zpz hR;have HX9:=Zpz (HX5.out.below hb9 HX5.out.lt);have HB9:Zpt w w9:=HB5.out.trans (hb9.mono HB5.out.size);have k9:=HX9.out.f4;have r0:=HX9.out.cell 2 0 (b:=w.heap.size+1+1) rfl rfl rfl;have r1:=HX9.out.cell 2 1 (b:=w.heap.size+1+1) rfl rfl rfl;have f0:=HX9.out.free 2 0 (b:=w.heap.size+1+1) rfl rfl;have f1:=HX9.out.free 2 1 (b:=w.heap.size+1+1) rfl rfl;clear hR hb9)
  )
 all_goals
  have q:=Zu (HX9.out.block 2 (b:=w.heap.size+1+1) rfl rfl) (.string x) (.string y)
  have HBQ:=Zpz (Zs HB9.out (b:=w.heap.size+1+1) Za (.string x) (.string y))
  obtain⟨wz,hwz⟩:=ZpB ((w9.setCell ⟨w.heap.size+1+1,0,none⟩ (.string x)).setCell ⟨w.heap.size+1+1,1,none⟩ (.string y))
  rw[hwz] at q HBQ
  obtain⟨q0,q1⟩:=q
  rw[hwz]
  clear r0 r1 f0 f1 hwz
  go_wp2
  refine ZoM (v:=.tuple #[Zpw x y,.int .i64 n]) (by simp[results,Tryz.f98,go_sem,q0,q1]) rfl ⟨_,_,_,rfl,.inr ⟨HQ.out,HR.out⟩,HBQ.out⟩
theorem ZnU (s t u v:ByteArray) (w:World) (hs:s.size<=1000000) (ht:t.size<=1000000) (hu:u.size<=1000000) (hv:v.size<=1000000) (hT:Tabs w) :
  Calls Tryz.prog 98 #[Zpw s t,Zpw u v,.func (.func 167) #[] #[]] w (ZL (Bi s t u v (Ans (mkRat ((Zq s.data.toList*Zq u.data.toList:Nat):Int) (Zq t.data.toList*Zq v.data.toList)))) w):=
 ZfI (enters_of Tryz.func167 Zb rfl) s t u v w hs ht hu hv hT fun h1 h2 v1 v2 v3 v4 W a b c d hT=>by
  obtain⟨_,_,_,_,l1,l2,d1⟩:=ZaZ h1
  obtain⟨_,_,_,_,l3,l4,d2⟩:=ZaZ h2
  exact ZmR a b c d l1 l2 l3 l4 d1 d2 hT
theorem ZnY (s t u v:ByteArray) (w:World) (hs:s.size<=1000000) (ht:t.size<=1000000) (hu:u.size<=1000000) (hv:v.size<=1000000) (hT:Tabs w) :
  Calls Tryz.prog 98 #[Zpw s t,Zpw u v,.func (.func 99) #[] #[]] w (ZL (Bi s t u v (Ans (mkRat ((Zq s.data.toList*Zq v.data.toList+Zq u.data.toList*Zq t.data.toList:Nat):Int) (Zq t.data.toList*Zq v.data.toList)))) w):=
 ZfI (enters_of Tryz.func99 Zb rfl) s t u v w hs ht hu hv hT fun h1 h2 v1 v2 v3 v4 W a b c d hT=>by
  obtain⟨_,_,_,_,l1,l2,d1⟩:=ZaZ h1
  obtain⟨_,_,_,_,l3,l4,d2⟩:=ZaZ h2
  exact Zni a b c d l1 l2 l3 l4 d1 d2 hT
theorem Zn3 (s t u v:ByteArray) (w:World) (hs:s.size<=1000000) (ht:t.size<=1000000) (hu:u.size<=1000000) (hv:v.size<=1000000) (hT:Tabs w) :
  Calls Tryz.prog 98 #[Zpw s t,Zpw u v,.func (.func 154) #[] #[]] w (ZL (Bi s t u v (SubR (Zq s.data.toList) (Zq t.data.toList) (Zq u.data.toList) (Zq v.data.toList))) w):=
 ZfI (enters_of Tryz.func154 Zb rfl) s t u v w hs ht hu hv hT fun h1 h2 v1 v2 v3 v4 W a b c d hT=>by
  obtain⟨_,_,_,_,l1,l2,d1⟩:=ZaZ h1
  obtain⟨_,_,_,_,l3,l4,d2⟩:=ZaZ h2
  exact Zm3 a b c d l1 l2 l3 l4 d1 d2 hT
def DivR (n1 d1 n2 d2:Nat) (s t:ByteArray) (e:Int):Prop:=
 (n2=0/\s=str []/\t=str []/\e=10)\/(0<n2/\Ans (mkRat ((n1*d2:Nat):Int) (d1*n2)) s t e)
theorem Znm {v1 v2 v3 v4:Value} {n1 d1 n2 d2:Nat} {w:World} (h1:Num w v1 n1) (h2:Num w v2 d1) (h3:Num w v3 n2) (h4:Num w v4 d2)
  (l1:(Zp 1000000000 n1).length<=1000) (l2:(Zp 1000000000 d1).length<=1000) (l3:(Zp 1000000000 n2).length<=1000) (l4:(Zp 1000000000 d2).length<=1000) (hd1:0<d1) (hd2:0<d2) (hT:Tabs w) :
  Calls Tryz.prog 205 #[.agg #[v1,v2],.agg #[v3,v4]] w (ZL (DivR n1 d1 n2 d2) w):=by
 rcases Zo0 n2 with h0 | h0
 ·refine(ZmD h1 h2 h3 h4 l1 l2 l3 l4 hd1 hd2 hT h0).mono ?_
  rintro e w' ⟨s,t,n,rfl,hr,hb⟩
  exact⟨s,t,n,rfl,.inl ⟨h0,hr⟩,hb⟩
 ·refine(Zno h1 h2 h3 h4 l1 l2 l3 l4 hd1 hd2 hT h0).mono ?_
  rintro e w' ⟨s,t,n,rfl,hr,hb⟩
  exact⟨s,t,n,rfl,.inr ⟨h0,hr⟩,hb⟩
theorem Zn9 (s t u v:ByteArray) (w:World) (hs:s.size<=1000000) (ht:t.size<=1000000) (hu:u.size<=1000000) (hv:v.size<=1000000) (hT:Tabs w) :
  Calls Tryz.prog 98 #[Zpw s t,Zpw u v,.func (.func 205) #[] #[]] w (ZL (Bi s t u v (DivR (Zq s.data.toList) (Zq t.data.toList) (Zq u.data.toList) (Zq v.data.toList))) w):=
 ZfI (enters_of Tryz.func205 Zb rfl) s t u v w hs ht hu hv hT fun h1 h2 v1 v2 v3 v4 W a b c d hT=>by
  obtain⟨_,_,_,_,l1,l2,d1⟩:=ZaZ h1
  obtain⟨_,_,_,_,l3,l4,d2⟩:=ZaZ h2
  exact Znm a b c d l1 l2 l3 l4 d1 d2 hT
def SubA (a b:Rat) (x y:ByteArray) (e:Int):Prop:=(a<b/\x=str []/\y=str []/\e=11)\/(b<=a/\Ans (a-b) x y e)
def DivA (a b:Rat) (x y:ByteArray) (e:Int):Prop:=(b=0/\x=str []/\y=str []/\e=10)\/(0<b/\Ans (a/b) x y e)
theorem Za3 {s t:ByteArray} (h:okP s t=true):0<=ratP s t/\Zq s.data.toList=(ratP s t).num.toNat/\Zq t.data.toList=(ratP s t).den:=
 ⟨(Zav h).nn,(Zav h).vals.1,(Zav h).vals.2⟩
theorem Bi.mono {s t u v x y:ByteArray} {e:Int} {R R':ByteArray->ByteArray->Int->Prop} (h:Bi s t u v R x y e) (f:okP s t=true->okP u v=true->R x y e->R' x y e):Bi s t u v R' x y e:=by
 rcases h with h | ⟨h1,h2⟩
 ·exact .inl h
 ·rw[Zpj] at h1
  exact .inr ⟨by rw[Zpj];exact h1,f h1.1 h1.2 h2⟩
theorem ZmO {s t u v x y:ByteArray} {e:Int} (h:Bi s t u v (Ans (mkRat ((Zq s.data.toList*Zq u.data.toList:Nat):Int) (Zq t.data.toList*Zq v.data.toList))) x y e):Bi s t u v (Ans (ratP s t*ratP u v)) x y e:=
 h.mono fun h1 h2 h3=>by
  obtain⟨a1,a2,a3⟩:=Za3 h1
  obtain⟨b1,b2,b3⟩:=Za3 h2
  rw[ZmH a1 b1,<- a2,<- a3,<- b2,<- b3];exact h3
theorem ZmL {s t u v x y:ByteArray} {e:Int} (h:Bi s t u v (Ans (mkRat ((Zq s.data.toList*Zq v.data.toList+Zq u.data.toList*Zq t.data.toList:Nat):Int) (Zq t.data.toList*Zq v.data.toList))) x y e):Bi s t u v (Ans (ratP s t+ratP u v)) x y e:=
 h.mono fun h1 h2 h3=>by
  obtain⟨a1,a2,a3⟩:=Za3 h1
  obtain⟨b1,b2,b3⟩:=Za3 h2
  rw[Zl4 a1 b1,<- a2,<- a3,<- b2,<- b3];exact h3
theorem Zmu {s t u v x y:ByteArray} {e:Int} (h:Bi s t u v (SubR (Zq s.data.toList) (Zq t.data.toList) (Zq u.data.toList) (Zq v.data.toList)) x y e):Bi s t u v (SubA (ratP s t) (ratP u v)) x y e:=
 h.mono fun h1 h2 h3=>by
  obtain⟨a1,a2,a3⟩:=Za3 h1
  obtain⟨b1,b2,b3⟩:=Za3 h2
  unfold SubR at h3
  rw[a2,a3,b2,b3] at h3
  rcases h3 with ⟨k,h3⟩ | ⟨k,h3⟩
  ·exact .inl ⟨(ZiJ a1 b1).2 k,h3⟩
  ·have hk:=(Ze9 b1 a1).2 k
   exact .inr ⟨hk,by rw[ZlK a1 b1 hk];exact h3⟩
theorem Zmq {s t u v x y:ByteArray} {e:Int} (h:Bi s t u v (DivR (Zq s.data.toList) (Zq t.data.toList) (Zq u.data.toList) (Zq v.data.toList)) x y e):Bi s t u v (DivA (ratP s t) (ratP u v)) x y e:=
 h.mono fun h1 h2 h3=>by
  obtain⟨a1,a2,a3⟩:=Za3 h1
  obtain⟨b1,b2,b3⟩:=Za3 h2
  unfold DivR at h3
  rw[a2,a3,b2,b3] at h3
  rcases h3 with ⟨k,h3⟩ | ⟨k,h3⟩
  ·refine .inl ⟨?_,h3⟩
   have h4:=Zab b1
   rw[k] at h4
   exact Rat.num_eq_zero.1 h4.symm
  ·have hk:0<ratP u v:=by
    refine Rat.lt_of_le_of_ne b1 fun h0=>?_
    rw[<- h0] at k
    exact Zpp k Zd
   exact .inr ⟨hk,by rw[Zmh a1 hk];exact h3⟩
theorem Zn4 (s t u v:ByteArray) (w:World) (hs:s.size<=1000000) (ht:t.size<=1000000) (hu:u.size<=1000000) (hv:v.size<=1000000) (hT:Tabs w) :
  Calls Tryz.prog 119 #[Zpw s t,Zpw u v] w (ZL (Bi s t u v (Ans (ratP s t*ratP u v))) w):=by
 have HT:=Zpz hT
 clear hT
 go_enter Tryz.func119,Tryz.ntmps119
 go_wp2_with fail
 obtain⟨w1,hw1⟩:=ZpB (((w.alloc (Zpx s t)).alloc (Zpx u v)).alloc (Zpx Zpv Zpv))
 rw[hw1]
 have HX1:Hid (Zv w.heap.size [Zpx s t,Zpx u v,Zpx Zpv Zpv] w1):=by rw[<- hw1];exact Zv.three w _ _ _
 have HB1:Zpt w w1:=by rw[<- hw1];exact(((ZoL _ w).alloc ZpA _).alloc Zc _).alloc (by simp<;>omega) _
 clear hw1
 refine(ZnU s t u v _ hs ht hu hv (HT.out.below HB1.out ZpA)).mono ?_
 rintro e w2 ⟨x,y,n,rfl,hR,hb2⟩
 have HR:=Zpz (ZmO hR)
 have HX2:=Zpz (HX1.out.below hb2 HX1.out.lt)
 have HB2:=Zpz (HB1.out.trans (hb2.mono HB1.out.size))
 clear hR hb2
 have r0:=HX2.out.cell 2 0 (b:=w.heap.size+1+1) rfl rfl rfl
 have r1:=HX2.out.cell 2 1 (b:=w.heap.size+1+1) rfl rfl rfl
 have f0:=HX2.out.free 2 0 (b:=w.heap.size+1+1) rfl rfl
 have f1:=HX2.out.free 2 1 (b:=w.heap.size+1+1) rfl rfl
 go_wp2
 have q:=Zu (HX2.out.block 2 (b:=w.heap.size+1+1) rfl rfl) (.string x) (.string y)
 have HBQ:=Zpz (Zs HB2.out (b:=w.heap.size+1+1) Za (.string x) (.string y))
 obtain⟨w9,hw9⟩:=ZpB ((w2.setCell ⟨w.heap.size+1+1,0,none⟩ (.string x)).setCell ⟨w.heap.size+1+1,1,none⟩ (.string y))
 rw[hw9] at q HBQ
 obtain⟨q0,q1⟩:=q
 rw[hw9]
 clear r0 r1 f0 f1 hw9
 go_wp2
 refine ZoM (v:=.tuple #[Zpw x y,.int .i64 n]) (by simp[results,Tryz.f119,go_sem,q0,q1]) rfl ⟨_,_,_,rfl,?_,HBQ.out⟩
 exact HR.out
theorem Zkw (s t u v:ByteArray) (w:World) (hs:s.size<=1000000) (ht:t.size<=1000000) (hu:u.size<=1000000) (hv:v.size<=1000000) (hT:Tabs w) :
  Calls Tryz.prog 42 #[Zpw s t,Zpw u v] w (ZL (Bi s t u v (Ans (ratP s t+ratP u v))) w):=by
 have HT:=Zpz hT
 clear hT
 go_enter Tryz.func42,Tryz.ntmps42
 go_wp2_with fail
 obtain⟨w1,hw1⟩:=ZpB (((w.alloc (Zpx s t)).alloc (Zpx u v)).alloc (Zpx Zpv Zpv))
 rw[hw1]
 have HX1:Hid (Zv w.heap.size [Zpx s t,Zpx u v,Zpx Zpv Zpv] w1):=by rw[<- hw1];exact Zv.three w _ _ _
 have HB1:Zpt w w1:=by rw[<- hw1];exact(((ZoL _ w).alloc ZpA _).alloc Zc _).alloc (by simp<;>omega) _
 clear hw1
 refine(ZnY s t u v _ hs ht hu hv (HT.out.below HB1.out ZpA)).mono ?_
 rintro e w2 ⟨x,y,n,rfl,hR,hb2⟩
 have HR:=Zpz (ZmL hR)
 have HX2:=Zpz (HX1.out.below hb2 HX1.out.lt)
 have HB2:=Zpz (HB1.out.trans (hb2.mono HB1.out.size))
 clear hR hb2
 have r0:=HX2.out.cell 2 0 (b:=w.heap.size+1+1) rfl rfl rfl
 have r1:=HX2.out.cell 2 1 (b:=w.heap.size+1+1) rfl rfl rfl
 have f0:=HX2.out.free 2 0 (b:=w.heap.size+1+1) rfl rfl
 have f1:=HX2.out.free 2 1 (b:=w.heap.size+1+1) rfl rfl
 go_wp2
 have q:=Zu (HX2.out.block 2 (b:=w.heap.size+1+1) rfl rfl) (.string x) (.string y)
 have HBQ:=Zpz (Zs HB2.out (b:=w.heap.size+1+1) Za (.string x) (.string y))
 obtain⟨w9,hw9⟩:=ZpB ((w2.setCell ⟨w.heap.size+1+1,0,none⟩ (.string x)).setCell ⟨w.heap.size+1+1,1,none⟩ (.string y))
 rw[hw9] at q HBQ
 obtain⟨q0,q1⟩:=q
 rw[hw9]
 clear r0 r1 f0 f1 hw9
 go_wp2
 refine ZoM (v:=.tuple #[Zpw x y,.int .i64 n]) (by simp[results,Tryz.f42,go_sem,q0,q1]) rfl ⟨_,_,_,rfl,?_,HBQ.out⟩
 exact HR.out
theorem ZnK (s t u v:ByteArray) (w:World) (hs:s.size<=1000000) (ht:t.size<=1000000) (hu:u.size<=1000000) (hv:v.size<=1000000) (hT:Tabs w) :
  Calls Tryz.prog 104 #[Zpw s t,Zpw u v] w (ZL (Bi s t u v (SubA (ratP s t) (ratP u v))) w):=by
 have HT:=Zpz hT
 clear hT
 go_enter Tryz.func104,Tryz.ntmps104
 go_wp2_with fail
 obtain⟨w1,hw1⟩:=ZpB (((w.alloc (Zpx s t)).alloc (Zpx u v)).alloc (Zpx Zpv Zpv))
 rw[hw1]
 have HX1:Hid (Zv w.heap.size [Zpx s t,Zpx u v,Zpx Zpv Zpv] w1):=by rw[<- hw1];exact Zv.three w _ _ _
 have HB1:Zpt w w1:=by rw[<- hw1];exact(((ZoL _ w).alloc ZpA _).alloc Zc _).alloc (by simp<;>omega) _
 clear hw1
 refine(Zn3 s t u v _ hs ht hu hv (HT.out.below HB1.out ZpA)).mono ?_
 rintro e w2 ⟨x,y,n,rfl,hR,hb2⟩
 have HR:=Zpz (Zmu hR)
 have HX2:=Zpz (HX1.out.below hb2 HX1.out.lt)
 have HB2:=Zpz (HB1.out.trans (hb2.mono HB1.out.size))
 clear hR hb2
 have r0:=HX2.out.cell 2 0 (b:=w.heap.size+1+1) rfl rfl rfl
 have r1:=HX2.out.cell 2 1 (b:=w.heap.size+1+1) rfl rfl rfl
 have f0:=HX2.out.free 2 0 (b:=w.heap.size+1+1) rfl rfl
 have f1:=HX2.out.free 2 1 (b:=w.heap.size+1+1) rfl rfl
 go_wp2
 have q:=Zu (HX2.out.block 2 (b:=w.heap.size+1+1) rfl rfl) (.string x) (.string y)
 have HBQ:=Zpz (Zs HB2.out (b:=w.heap.size+1+1) Za (.string x) (.string y))
 obtain⟨w9,hw9⟩:=ZpB ((w2.setCell ⟨w.heap.size+1+1,0,none⟩ (.string x)).setCell ⟨w.heap.size+1+1,1,none⟩ (.string y))
 rw[hw9] at q HBQ
 obtain⟨q0,q1⟩:=q
 rw[hw9]
 clear r0 r1 f0 f1 hw9
 go_wp2
 refine ZoM (v:=.tuple #[Zpw x y,.int .i64 n]) (by simp[results,Tryz.f104,go_sem,q0,q1]) rfl ⟨_,_,_,rfl,?_,HBQ.out⟩
 exact HR.out
theorem ZnS (s t u v:ByteArray) (w:World) (hs:s.size<=1000000) (ht:t.size<=1000000) (hu:u.size<=1000000) (hv:v.size<=1000000) (hT:Tabs w) :
  Calls Tryz.prog 169 #[Zpw s t,Zpw u v] w (ZL (Bi s t u v (DivA (ratP s t) (ratP u v))) w):=by
 have HT:=Zpz hT
 clear hT
 go_enter Tryz.func169,Tryz.ntmps169
 go_wp2_with fail
 obtain⟨w1,hw1⟩:=ZpB (((w.alloc (Zpx s t)).alloc (Zpx u v)).alloc (Zpx Zpv Zpv))
 rw[hw1]
 have HX1:Hid (Zv w.heap.size [Zpx s t,Zpx u v,Zpx Zpv Zpv] w1):=by rw[<- hw1];exact Zv.three w _ _ _
 have HB1:Zpt w w1:=by rw[<- hw1];exact(((ZoL _ w).alloc ZpA _).alloc Zc _).alloc (by simp<;>omega) _
 clear hw1
 refine(Zn9 s t u v _ hs ht hu hv (HT.out.below HB1.out ZpA)).mono ?_
 rintro e w2 ⟨x,y,n,rfl,hR,hb2⟩
 have HR:=Zpz (Zmq hR)
 have HX2:=Zpz (HX1.out.below hb2 HX1.out.lt)
 have HB2:=Zpz (HB1.out.trans (hb2.mono HB1.out.size))
 clear hR hb2
 have r0:=HX2.out.cell 2 0 (b:=w.heap.size+1+1) rfl rfl rfl
 have r1:=HX2.out.cell 2 1 (b:=w.heap.size+1+1) rfl rfl rfl
 have f0:=HX2.out.free 2 0 (b:=w.heap.size+1+1) rfl rfl
 have f1:=HX2.out.free 2 1 (b:=w.heap.size+1+1) rfl rfl
 go_wp2
 have q:=Zu (HX2.out.block 2 (b:=w.heap.size+1+1) rfl rfl) (.string x) (.string y)
 have HBQ:=Zpz (Zs HB2.out (b:=w.heap.size+1+1) Za (.string x) (.string y))
 obtain⟨w9,hw9⟩:=ZpB ((w2.setCell ⟨w.heap.size+1+1,0,none⟩ (.string x)).setCell ⟨w.heap.size+1+1,1,none⟩ (.string y))
 rw[hw9] at q HBQ
 obtain⟨q0,q1⟩:=q
 rw[hw9]
 clear r0 r1 f0 f1 hw9
 go_wp2
 refine ZoM (v:=.tuple #[Zpw x y,.int .i64 n]) (by simp[results,Tryz.f169,go_sem,q0,q1]) rfl ⟨_,_,_,rfl,?_,HBQ.out⟩
 exact HR.out
section
variable {P:Program} {ops:Array Oper} {Q:Exit->Act->World->Prop} {md:Region.Mode}
def ZdI (listed:Array Bool):Nat:=(listed.toList.filter fun b=>!b).length
theorem ZfA:∀ (l:List Bool) (i:Nat),l[i]?=some false->((l.set i true).filter fun b=>!b).length+1=(l.filter fun b=>!b).length
 | [],i,h=>by simp at h
 | b::l,0,h=>by
  simp at h;subst h;simp
 | b::l,i+1,h=>by
  have ih:=ZfA l i (by simpa using h)
  rw[List.set_cons_succ,List.filter_cons,List.filter_cons]
  cases b<;>simp<;>omega
theorem Zeu {listed:Array Bool} {i:Nat} (h:listed.getD i true=false):ZdI (listed.setIfInBounds i true)+1=ZdI listed:=by
 unfold ZdI
 rw[Array.toList_setIfInBounds]
 refine ZfA _ i ?_
 rcases ZoR i listed.size with h' | h'
 ·simp[h'] at h ⊢;exact h
 ·simp[Array.getD,Nat.not_lt.2 h'] at h
def ZeH (ops:Array Oper):Bool:=(List.range ops.size).all fun j=>match ops[j]? with | some o=>o.after.all fun e=>decide (e.on<j) | none=>true
theorem Zgw (ho:ZeH ops=true) {listed:Array Bool} (hs:listed.size=ops.size) (h:Region.ready md ops listed=[]):∀ j,j<ops.size->listed.getD j false=true:=by
 intro j
 induction j using Nat.strongRecOn with
 | _ j ih=>
  intro hj
  cases hl:listed.getD j true with
  | true=>
   have:j<listed.size:=Za
   simp[this] at hl ⊢;exact hl
  | false=>
   exfalso
   have hm:j ∈ Region.ready md ops listed:=mem_ready.2 ⟨hl,ops[j],by simp[hj],fun e he _=>by
    unfold ZeH at ho
    rw[Zpo] at ho
    have h1:=ho j (List.mem_range.2 hj)
    rw[Array.getElem?_eq_getElem hj] at h1
    have h2:=Array.all_eq_true_iff_forall_mem.1 h1 e he
    have h3:e.on<j:=of_decide_eq_true h2
    exact ih e.on h3 Za⟩
   rw[h] at hm
   cases hm
theorem ZhI (Inv:Array Bool->Act->World->Prop) (ho:ZeH ops=true)
  (hstep:∀ (listed:Array Bool) (a:Act) (w:World) (i:Nat) (o:Oper),ops[i]?=some o->listed.size=ops.size->listed.getD i true=false->(∀ e ∈ o.after,Region.binds md e=true->listed.getD e.on false=true)->
   Inv listed a w->wpOp P ops Q i (Inv (listed.setIfInBounds i true)) a w)
  (hend:∀ (listed:Array Bool) (a:Act) (w:World),(∀ j,j<ops.size->listed.getD j false=true)->Inv listed a w->Q .normal a w) :
  ∀ (fuel:Nat) (listed:Array Bool) (a:Act) (w:World),ZdI listed<=fuel->listed.size=ops.size->Inv listed a w->wpAny P md ops Q fuel listed a w
 | 0,listed,a,w,hf,hs,hi=>by
  have hr:Region.ready md ops listed=[]:=by
   rcases h:Region.ready md ops listed with _ | ⟨i,r⟩
   ·rfl
   ·have:i ∈ Region.ready md ops listed:=by rw[h];exact List.mem_cons_self
    have:=Zeu (mem_ready.1 this).1
    omega
  exact⟨hr,hend listed a w (Zgw ho hs hr) hi⟩
 | fuel+1,listed,a,w,hf,hs,hi=>by
  refine⟨fun hr=>hend listed a w (Zgw ho hs hr) hi,fun i him=>?_⟩
  obtain⟨h1,o,h2,h3⟩:=mem_ready.1 him
  refine wpOp_mono (fun a' w' h'=>ZhI Inv ho hstep hend fuel _ a' w' ?_ ?_ h') (hstep listed a w i o h2 hs h1 h3 hi)
  ·have:=Zeu h1;omega
  ·rw[Array.size_setIfInBounds];exact hs
theorem ZhZ {listed:Array Bool} {i:Nat} (h:listed.getD i true=false):(listed.setIfInBounds i true).getD i false=true:=by
 rcases ZoR i listed.size with h' | h'
 ·simp[h']
 ·simp[Array.getD,Nat.not_lt.2 h'] at h
theorem Zhn {listed:Array Bool} {i j:Nat} (h:j≠i):(listed.setIfInBounds i true).getD j false=listed.getD j false:=by
 rw[Array.getD_eq_getD_getElem?,Array.getD_eq_getD_getElem?,Array.getElem?_setIfInBounds_ne (Ne.symm h)]
theorem ZiM {listed:Array Bool} {i j:Nat} (h:listed.getD i true=false):(listed.setIfInBounds i true).getD j false=true<->j=i\/listed.getD j false=true:=by
 by_cases hj:j=i
 ·subst hj;simp only[true_or,iff_true];exact ZhZ h
 ·rw[Zhn hj];simp[hj]
theorem Zkx {l:List Oper} {id:Nat} {a:Act} {w:World} (hm:P.follows .mixedOrders=true) (ho:ZeH l.toArray=true) (Inv:(Nat->Prop)->Act->World->Prop)
  (h0:Inv (fun _=>False) a w.drew)
  (hstep:∀ (L:Nat->Prop) (a:Act) (w:World) (i:Nat) (o:Oper),l[i]?=some o->¬ L i->(∀ (k:Nat) e,o.after[k]?=some e->Region.binds .any e=true->L e.on)->
   (∀ j o',l[j]?=some o'->L j->∀ (k:Nat) e,o'.after[k]?=some e->Region.binds .any e=true->L e.on)->Inv L a w->(if Region.wanted o (yielded l.toArray a.tmps) then o.wp P a w (Inv fun j=>j=i\/L j) Q else Inv (fun j=>j=i\/L j) (a.put o.dst undef) w))
  (hend:∀ (L:Nat->Prop) (a:Act) (w:World),(∀ j,j<l.length->L j)->Inv L a w->Q .normal a w):(Code.region id l.toArray true).wp P Q a w:=by
 refine wp_region_any hm (ZhI (fun listed a w=>∃ L:Nat->Prop,(∀ j,listed.getD j false=true<->L j)/\(∀ j o',l[j]?=some o'->L j->∀ e ∈ o'.after,Region.binds .any e=true->L e.on)/\Inv L a w) ho ?_ ?_ _ _ _ _ ?_ Zc ⟨_,fun j=>?_,fun _ _ _ h=>h.elim,h0⟩)
 ·rintro listed a w i o hi hs hl he ⟨L,hL,hC,hI⟩
  have h1:=hstep L a w i o (by simpa using hi) (by
   intro hc
   have:=(hL i).2 hc
   rcases ZoR i listed.size with h' | h'
   ·simp[h'] at this hl;rw[this] at hl;cases hl
   ·simp[Array.getD,Nat.not_lt.2 h'] at hl) (fun k e he' hb=>(hL _).1 (he e (Array.mem_of_getElem? he') hb)) (fun j o' h1 h2 k e h3 h4=>hC j o' h1 h2 e (Array.mem_of_getElem? h3) h4) hI
  unfold wpOp
  simp only[hi]
  have hset:∀ j,(listed.setIfInBounds i true).getD j false=true<->(j=i\/L j):=fun j=>by rw[ZiM hl,hL]
  have hC':∀ j o',l[j]?=some o'->(j=i\/L j)->∀ e ∈ o'.after,Region.binds .any e=true->(e.on=i\/L e.on):=fun j o' hj hd e he' hb=>by
   rcases hd with rfl | hd
   ·have:o'=o:=ZoP (hj.symm.trans (by simpa using hi))
    subst this
    exact .inr ((hL _).1 (he e he' hb))
   ·exact .inr (hC j o' hj hd e he' hb)
  split at h1
  ·rename_i hw;simp only[hw,if_true];exact .inl (Oper.wp_mono (fun a' w' h'=>⟨_,hset,hC',h'⟩) h1)
  ·rename_i hw;simp only[hw];exact⟨_,hset,hC',h1⟩
 ·rintro listed a w hall ⟨L,hL,_,hI⟩
  exact hend L a w (fun j hj=>(hL j).1 (hall j (by simpa using hj))) hI
 ·unfold ZdI;simp
 ·simp[Array.getD]
theorem Zb0 {l:List Oper} {o:Oper} {a:Act} {w:World} {I:Act->World->Prop} {J:Prop} (hw:Region.wanted o (yielded l.toArray a.tmps)=true)
  (h:∀ K:Act->World->Prop,(∀ a' w',I a' w'->K a' w')->o.wp P a w K Q):if Region.wanted o (yielded l.toArray a.tmps) then o.wp P a w I Q else J:=by
 rw[if_pos hw]
 exact h I fun _ _ h=>h
end
def sgnR (a b:Rat):Int:=if a<b then -1 else if a=b then 0 else 1
def CmpA (s t u v:ByteArray) (n:Int):Prop:=((okP s t && okP u v)=false/\n=0)\/((okP s t && okP u v)=true/\n=sgnR (ratP s t) (ratP u v))
def Zi7 (s t u v:ByteArray) (w:World) (e:Ending) (w':World):Prop:=∃ n:Int,e=.returned (.int .i64 n)/\CmpA s t u v n/\Below w.heap.size w w'
theorem Zmr {a b:Rat} (ha:0<=a) (hb:0<=b) {r:Int} (h:Sign (a.num.toNat*b.den) (b.num.toNat*a.den) r):max (-1) (min 1 r)=sgnR a b:=by
 obtain⟨h1,h2,_,_⟩:=h
 unfold sgnR
 by_cases hl:a<b
 ·rw[if_pos hl]
  have:=h1.2 ((ZiJ ha hb).1 hl)
  omega
 ·rw[if_neg hl]
  by_cases he:a=b
  ·rw[if_pos he]
   have:=h2.2 ((Zmn ha hb).1 he)
   omega
  ·rw[if_neg he]
   have k1:¬ r<0:=fun h=>hl ((ZiJ ha hb).2 (h1.1 h))
   have k2:¬ r=0:=fun h=>he ((Zmn ha hb).2 (h2.1 h))
   omega
def Zcw:Obj:=.cells #[.slice none 0 0,.slice none 0 0] 112
def Zhe (a b:Value):Obj:=.cells #[a,b] 112
structure CmpInv (s t u v:ByteArray) (n1 d1 n2 d2:Nat) (w:World) (L:Nat->Prop) (t5 t6 t16 t17 t18 t19 va vb vc vd:Value) (b5 b6:Nat) (W:World):Prop where
 below:Below w.heap.size w W
 box:Zv w.heap.size [Zpx s t,Zpx u v] W
 l0:L 0->t16=Zpw s t
 l2:L 2->t18=Zpw u v
 l1:L 1->t17=.agg #[va,vb]/\Num W va n1/\Num W vb d1
 l3:L 3->t19=.agg #[vc,vd]/\Num W vc n2/\Num W vd d2
 l4:L 4->t5=.pointer (some ⟨b5,0,none⟩)/\w.heap.size+2<=b5/\b5<W.heap.size/\(¬ L 6->W.heap[b5]?=some Zcw)/\(L 6->W.heap[b5]?=some (Zhe va vb))
 l5:L 5->t6=.pointer (some ⟨b6,0,none⟩)/\w.heap.size+2<=b6/\b6<W.heap.size/\(¬ L 7->W.heap[b6]?=some Zcw)/\(L 7->W.heap[b6]?=some (Zhe vc vd))
 ne:L 4->L 5->b5≠b6
section
variable {s t u v:ByteArray} {n1 d1 n2 d2:Nat} {w:World} {L:Nat->Prop} {t5 t6 t16 t17 t18 t19 va vb vc vd:Value} {b5 b6:Nat} {W W':World}
theorem CmpInv.after (h:CmpInv s t u v n1 d1 n2 d2 w L t5 t6 t16 t17 t18 t19 va vb vc vd b5 b6 W) (hb:Below W.heap.size W W'):CmpInv s t u v n1 d1 n2 d2 w L t5 t6 t16 t17 t18 t19 va vb vc vd b5 b6 W':=by
 refine⟨h.below.trans (hb.mono h.below.size),h.box.below hb h.box.lt,h.l0,h.l2,fun k=>?_,fun k=>?_,fun k=>?_,fun k=>?_,h.ne⟩
 ·obtain⟨e,x,y⟩:=h.l1 k
  exact⟨e,x.after hb ZpA,y.after hb ZpA⟩
 ·obtain⟨e,x,y⟩:=h.l3 k
  exact⟨e,x.after hb ZpA,y.after hb ZpA⟩
 ·obtain⟨e,x,y,z,z'⟩:=h.l4 k
  have:=hb.block b5 y
  exact⟨e,x,ZoS y hb.size,fun m=>by rw[this];exact z m,fun m=>by rw[this];exact z' m⟩
 ·obtain⟨e,x,y,z,z'⟩:=h.l5 k
  have:=hb.block b6 y
  exact⟨e,x,ZoS y hb.size,fun m=>by rw[this];exact z m,fun m=>by rw[this];exact z' m⟩
theorem CmpInv.s0 (h:CmpInv s t u v n1 d1 n2 d2 w L t5 t6 t16 t17 t18 t19 va vb vc vd b5 b6 W):CmpInv s t u v n1 d1 n2 d2 w (fun j=>j=0\/L j) t5 t6 (Zpw s t) t17 t18 t19 va vb vc vd b5 b6 W:=by
 refine⟨h.below,h.box,fun _=>rfl,fun k=>h.l2 (by simpa using k),fun k=>h.l1 (by simpa using k),fun k=>h.l3 (by simpa using k),fun k=>?_,fun k=>?_,fun k m=>h.ne (by simpa using k) (by simpa using m)⟩
 ·simpa using h.l4 (by simpa using k)
 ·simpa using h.l5 (by simpa using k)
theorem CmpInv.s2 (h:CmpInv s t u v n1 d1 n2 d2 w L t5 t6 t16 t17 t18 t19 va vb vc vd b5 b6 W):CmpInv s t u v n1 d1 n2 d2 w (fun j=>j=2\/L j) t5 t6 t16 t17 (Zpw u v) t19 va vb vc vd b5 b6 W:=by
 refine⟨h.below,h.box,fun k=>h.l0 (by simpa using k),fun _=>rfl,fun k=>h.l1 (by simpa using k),fun k=>h.l3 (by simpa using k),fun k=>?_,fun k=>?_,fun k m=>h.ne (by simpa using k) (by simpa using m)⟩
 ·simpa using h.l4 (by simpa using k)
 ·simpa using h.l5 (by simpa using k)
theorem CmpInv.s1 (h:CmpInv s t u v n1 d1 n2 d2 w L t5 t6 t16 t17 t18 t19 va vb vc vd b5 b6 W) (h6:¬ L 6) {va' vb':Value} (ha:Num W va' n1) (hb:Num W vb' d1) :
  CmpInv s t u v n1 d1 n2 d2 w (fun j=>j=1\/L j) t5 t6 t16 (.agg #[va',vb']) t18 t19 va' vb' vc vd b5 b6 W:=by
 refine⟨h.below,h.box,fun k=>h.l0 (by simpa using k),fun k=>h.l2 (by simpa using k),fun _=>⟨rfl,ha,hb⟩,fun k=>h.l3 (by simpa using k),fun k=>?_,fun k=>?_,fun k m=>h.ne (by simpa using k) (by simpa using m)⟩
 ·obtain⟨e,x,y,z,z'⟩:=h.l4 (by simpa using k)
  exact⟨e,x,y,fun _=>z h6,fun m=>Zpp (by simpa using m) h6⟩
 ·simpa using h.l5 (by simpa using k)
theorem CmpInv.s3 (h:CmpInv s t u v n1 d1 n2 d2 w L t5 t6 t16 t17 t18 t19 va vb vc vd b5 b6 W) (h7:¬ L 7) {va' vb':Value} (ha:Num W va' n2) (hb:Num W vb' d2) :
  CmpInv s t u v n1 d1 n2 d2 w (fun j=>j=3\/L j) t5 t6 t16 t17 t18 (.agg #[va',vb']) va vb va' vb' b5 b6 W:=by
 refine⟨h.below,h.box,fun k=>h.l0 (by simpa using k),fun k=>h.l2 (by simpa using k),fun k=>h.l1 (by simpa using k),fun _=>⟨rfl,ha,hb⟩,fun k=>?_,fun k=>?_,fun k m=>h.ne (by simpa using k) (by simpa using m)⟩
 ·simpa using h.l4 (by simpa using k)
 ·obtain⟨e,x,y,z,z'⟩:=h.l5 (by simpa using k)
  exact⟨e,x,y,fun _=>z h7,fun m=>Zpp (by simpa using m) h7⟩
theorem CmpInv.s4 (h:CmpInv s t u v n1 d1 n2 d2 w L t5 t6 t16 t17 t18 t19 va vb vc vd b5 b6 W) (h6:¬ L 6) :
  CmpInv s t u v n1 d1 n2 d2 w (fun j=>j=4\/L j) (.pointer (some ⟨W.heap.size,0,none⟩)) t6 t16 t17 t18 t19 va vb vc vd W.heap.size b6 (W.alloc Zcw):=by
 have k:=h.after ((ZoL W.heap.size W).alloc ZpA Zcw)
 refine⟨k.below,k.box,fun m=>k.l0 (by simpa using m),fun m=>k.l2 (by simpa using m),fun m=>k.l1 (by simpa using m),fun m=>k.l3 (by simpa using m),fun m=>?_,fun m=>?_,fun _ m=>?_⟩
 ·exact⟨rfl,h.box.lt,Zc,fun _=>ZoO W _,fun m=>Zpp (by simpa using m) h6⟩
 ·simpa using k.l5 (by simpa using m)
 ·have:=(h.l5 (by simpa using m)).2.2.1;omega
theorem CmpInv.s5 (h:CmpInv s t u v n1 d1 n2 d2 w L t5 t6 t16 t17 t18 t19 va vb vc vd b5 b6 W) (h7:¬ L 7) :
  CmpInv s t u v n1 d1 n2 d2 w (fun j=>j=5\/L j) t5 (.pointer (some ⟨W.heap.size,0,none⟩)) t16 t17 t18 t19 va vb vc vd b5 W.heap.size (W.alloc Zcw):=by
 have k:=h.after ((ZoL W.heap.size W).alloc ZpA Zcw)
 refine⟨k.below,k.box,fun m=>k.l0 (by simpa using m),fun m=>k.l2 (by simpa using m),fun m=>k.l1 (by simpa using m),fun m=>k.l3 (by simpa using m),fun m=>?_,fun m=>?_,fun m _=>?_⟩
 ·simpa using k.l4 (by simpa using m)
 ·exact⟨rfl,h.box.lt,Zc,fun _=>ZoO W _,fun m=>Zpp (by simpa using m) h7⟩
 ·have:=(h.l4 (by simpa using m)).2.2.1;omega
theorem ZiI {b:Nat} (hz:W.heap[b]?=some Zcw) (x y:Value) :
  Keeps (fun i=>i≠b) W ((W.setCell ⟨b,0,none⟩ x).setCell ⟨b,1,none⟩ y)/\((W.setCell ⟨b,0,none⟩ x).setCell ⟨b,1,none⟩ y).heap[b]?=some (Zhe x y)/\
   (∀ (z:Value) (n:Nat),Num W z n->Num ((W.setCell ⟨b,0,none⟩ x).setCell ⟨b,1,none⟩ y) z n):=by
 have hk:Keeps (fun i=>i≠b) W ((W.setCell ⟨b,0,none⟩ x).setCell ⟨b,1,none⟩ y):=((Keeps.refl _ W).setCell Zc _).setCell Zc _
 exact⟨hk,Zan hz x y,fun z n h=>h.keepsBut hz (Zht _ _ (fun x h=>by cases h) (fun x h=>by cases h)) hk⟩
theorem CmpInv.s6 (h:CmpInv s t u v n1 d1 n2 d2 w L t5 t6 t16 t17 t18 t19 va vb vc vd b5 b6 W) (h6:¬ L 6) (h4:L 4) (h5:L 5) :
  CmpInv s t u v n1 d1 n2 d2 w (fun j=>j=6\/L j) t5 t6 t16 t17 t18 t19 va vb vc vd b5 b6 ((W.setCell ⟨b5,0,none⟩ va).setCell ⟨b5,1,none⟩ vb):=by
 obtain⟨e,x,y,z,z'⟩:=h.l4 h4
 obtain⟨hk,hn,hN⟩:=ZiI (z h6) va vb
 have hne:=h.ne h4 h5
 refine⟨Zs h.below Za _ _,h.box.keeps hk (fun i hi=>by have:i<2:=hi;omega),fun m=>h.l0 (by simpa using m),fun m=>h.l2 (by simpa using m),fun m=>?_,fun m=>?_,fun m=>?_,fun m=>?_,fun _ _=>hne⟩
 ·obtain⟨q1,q2,q3⟩:=h.l1 (by simpa using m)
  exact⟨q1,hN _ _ q2,hN _ _ q3⟩
 ·obtain⟨q1,q2,q3⟩:=h.l3 (by simpa using m)
  exact⟨q1,hN _ _ q2,hN _ _ q3⟩
 ·exact⟨e,x,ZoS y hk.size,fun m=>Zpp (.inl rfl) m,fun _=>hn⟩
 ·obtain⟨q1,q2,q3,q4,q5⟩:=h.l5 h5
  have hb:=hk.block b6 q3 (Ne.symm hne)
  exact⟨q1,q2,ZoS q3 hk.size,fun m=>by rw[hb];exact q4 (by simpa using m),fun m=>by rw[hb];exact q5 (by simpa using m)⟩
theorem CmpInv.s7 (h:CmpInv s t u v n1 d1 n2 d2 w L t5 t6 t16 t17 t18 t19 va vb vc vd b5 b6 W) (h7:¬ L 7) (h4:L 4) (h5:L 5) :
  CmpInv s t u v n1 d1 n2 d2 w (fun j=>j=7\/L j) t5 t6 t16 t17 t18 t19 va vb vc vd b5 b6 ((W.setCell ⟨b6,0,none⟩ vc).setCell ⟨b6,1,none⟩ vd):=by
 obtain⟨e,x,y,z,z'⟩:=h.l5 h5
 obtain⟨hk,hn,hN⟩:=ZiI (z h7) vc vd
 have hne:=h.ne h4 h5
 refine⟨Zs h.below Za _ _,h.box.keeps hk (fun i hi=>by have:i<2:=hi;omega),fun m=>h.l0 (by simpa using m),fun m=>h.l2 (by simpa using m),fun m=>?_,fun m=>?_,fun m=>?_,fun m=>?_,fun _ _=>hne⟩
 ·obtain⟨q1,q2,q3⟩:=h.l1 (by simpa using m)
  exact⟨q1,hN _ _ q2,hN _ _ q3⟩
 ·obtain⟨q1,q2,q3⟩:=h.l3 (by simpa using m)
  exact⟨q1,hN _ _ q2,hN _ _ q3⟩
 ·obtain⟨q1,q2,q3,q4,q5⟩:=h.l4 h4
  have hb:=hk.block b5 q3 hne
  exact⟨q1,q2,ZoS q3 hk.size,fun m=>by rw[hb];exact q4 (by simpa using m),fun m=>by rw[hb];exact q5 (by simpa using m)⟩
 ·exact⟨e,x,ZoS y hk.size,fun m=>Zpp (.inl rfl) m,fun _=>hn⟩
end
theorem ZjC (s t u v:ByteArray) (w:World) (hs:s.size<=1000000) (ht:t.size<=1000000) (hu:u.size<=1000000) (hv:v.size<=1000000) :
  Calls Tryz.prog 22 #[Zpw s t,Zpw u v] w (Zi7 s t u v w):=by
 cases h1:okP s t
 ·have H1:Hid (okE s t=2/\(okP s t && okP u v)=false):=⟨ZaM h1,by rw[h1];rfl⟩
  clear h1
  go_enter Tryz.func22,Tryz.ntmps22
  go_wp2_with fail
  obtain⟨w1,hw1⟩:=ZpB ((w.alloc (Zpx s t)).alloc (Zpx u v))
  rw[hw1]
  have HX1:Hid (Zv w.heap.size [Zpx s t,Zpx u v] w1):=by rw[<- hw1];exact Zv.two w _ _
  have HB1:Zpt w w1:=by rw[<- hw1];exact((ZoL _ w).alloc ZpA _).alloc Zc _
  clear hw1
  refine(ZaU s t _ hs ht).mono ?_
  rintro e w2 ⟨rfl,hb2⟩
  have HX2:=Zpz (HX1.out.below hb2 HX1.out.lt)
  have HB2:=Zpz (HB1.out.trans (hb2.mono HB1.out.size))
  clear hb2
  rw[H1.out.1]
  go_wp2
  go_ret
  exact⟨_,rfl,.inl ⟨H1.out.2,rfl⟩,HB2.out⟩
 ·cases h2:okP u v
  ·have H1:=Zpz (Zbj h1)
   have H2:Hid (okE u v=2/\(okP s t && okP u v)=false):=⟨ZaM h2,by rw[h2,Bool.and_false]⟩
   clear h1 h2
   go_enter Tryz.func22,Tryz.ntmps22
   go_wp2_with fail
   obtain⟨w1,hw1⟩:=ZpB ((w.alloc (Zpx s t)).alloc (Zpx u v))
   rw[hw1]
   have HX1:Hid (Zv w.heap.size [Zpx s t,Zpx u v] w1):=by rw[<- hw1];exact Zv.two w _ _
   have HB1:Zpt w w1:=by rw[<- hw1];exact((ZoL _ w).alloc ZpA _).alloc Zc _
   clear hw1
   refine(ZaU s t _ hs ht).mono ?_
   rintro e w2 ⟨rfl,hb2⟩
   have HX2:=Zpz (HX1.out.below hb2 HX1.out.lt)
   have HB2:=Zpz (HB1.out.trans (hb2.mono HB1.out.size))
   clear hb2
   rw[H1.out]
   have kc2:=HX2.out.cell 1 0 (b:=w.heap.size+1) rfl rfl rfl
   have kd2:=HX2.out.cell 1 1 (b:=w.heap.size+1) rfl rfl rfl
   go_wp2_with fail
   refine(ZaU u v _ hu hv).mono ?_
   rintro e w3 ⟨rfl,hb3⟩
   rw[H2.out.1]
   have HB3:=Zpz (HB2.out.trans (hb3.mono HB2.out.size))
   clear hb3 kc2 kd2
   go_wp2
   go_ret
   exact⟨_,rfl,.inl ⟨H2.out.2,rfl⟩,HB3.out⟩
  ·obtain⟨g1,g2,_,_,l1,l2,d1⟩:=ZaZ h1
   obtain⟨g3,g4,_,_,l3,l4,d2⟩:=ZaZ h2
   have HG:=Zpz (Zpq g1 (Zpq g2 (Zpq g3 g4)))
   have HD:=Zpz (Zpq d1 d2)
   have H1:=Zpz (Zbj h1)
   have H2:=Zpz (Zbj h2)
   have HQ:Hid ((okP s t && okP u v)=true):=by show _=_;rw[h1,h2];rfl
   have HV:=Zpz (Zpq (Za3 h1) (Za3 h2))
   clear h1 h2 g1 g2 g3 g4 d1 d2
   go_enter Tryz.func22,Tryz.ntmps22
   go_wp2_with fail
   obtain⟨w1,hw1⟩:=ZpB ((w.alloc (Zpx s t)).alloc (Zpx u v))
   rw[hw1]
   have HX1:Hid (Zv w.heap.size [Zpx s t,Zpx u v] w1):=by rw[<- hw1];exact Zv.two w _ _
   have HB1:Zpt w w1:=by rw[<- hw1];exact((ZoL _ w).alloc ZpA _).alloc Zc _
   clear hw1
   refine(ZaU s t _ hs ht).mono ?_
   rintro e w2 ⟨rfl,hb2⟩
   have HX2:=Zpz (HX1.out.below hb2 HX1.out.lt)
   have HB2:=Zpz (HB1.out.trans (hb2.mono HB1.out.size))
   clear hb2
   rw[H1.out]
   have kc2:=HX2.out.cell 1 0 (b:=w.heap.size+1) rfl rfl rfl
   have kd2:=HX2.out.cell 1 1 (b:=w.heap.size+1) rfl rfl rfl
   go_wp2_with fail
   refine(ZaU u v _ hu hv).mono ?_
   rintro e w3 ⟨rfl,hb3⟩
   rw[H2.out]
   have HX3:=Zpz (HX2.out.below hb3 HX2.out.lt)
   have HB3:=Zpz (HB2.out.trans (hb3.mono HB2.out.size))
   clear hb3 kc2 kd2
   have k3:=HX3.out.f4
   obtain⟨ka3,kb3,kc3,kd3⟩:=id k3
   go_wp2_with fail
   obtain⟨n1,hn1⟩:=ZpB (Zq s.data.toList)
   obtain⟨d1,hd1⟩:=ZpB (Zq t.data.toList)
   obtain⟨n2,hn2⟩:=ZpB (Zq u.data.toList)
   obtain⟨d2,hd2⟩:=ZpB (Zq v.data.toList)
   have T1:=fun W:World=>Zdg s t hs ht HG.out.1 HG.out.2.1 W
   have T2:=fun W:World=>Zdg u v hu hv HG.out.2.2.1 HG.out.2.2.2 W
   rw[hn1,hd1] at T1
   rw[hn2,hd2] at T2
   have HT1:=Zpz T1
   have HT2:=Zpz T2
   clear T1 T2 ka3 kb3 kc3 kd3
   refine Zkx Zb Zb (fun L a W=>∃ (t5 t6 t16 t17 t18 t19 va vb vc vd:Value) (b5 b6:Nat),a = { tmps:=#[Zpw s t,Zpw u v,.pointer (some ⟨w.heap.size,0,none⟩),.pointer (some ⟨w.heap.size+1,0,none⟩),.int .i64 0,t5,t6,undef,Zpw s t,.int .i64 0,.bool false,.bool false,Zpw u v,.int .i64 0,.bool false,.bool false,t16,t17,t18,t19,undef,undef,undef,undef,undef,undef,undef,undef,undef,undef,undef,undef,undef,undef],defers:=[] }/\CmpInv s t u v n1 d1 n2 d2 w L t5 t6 t16 t17 t18 t19 va vb vc vd b5 b6 W) ?h0 ?hstep ?hend
   case h0=>exact⟨_,_,_,_,_,_,undef,undef,undef,undef,0,0,rfl,⟨HB3.out.drew,HX3.out.drew,fun h=>h.elim,fun h=>h.elim,fun h=>h.elim,fun h=>h.elim,fun h=>h.elim,fun h=>h.elim,fun h=>h.elim⟩⟩
   case hstep=>
    rintro L a W i o hi hL he hC ⟨t5,t6,t16,t17,t18,t19,va,vb,vc,vd,b5,b6,rfl,hI⟩
    have HI:=Zpz hI
    have h6:¬ L 1\/¬ L 4->¬ L 6:=fun h h'=>by
     have a1:L 1:=hC 6 _ rfl h' 1 _ rfl rfl
     have a4:L 4:=hC 6 _ rfl h' 0 _ rfl rfl
     rcases h with h | h
     ·exact h a1
     ·exact h a4
    have h7:¬ L 3\/¬ L 5->¬ L 7:=fun h h'=>by
     have a3:L 3:=hC 7 _ rfl h' 1 _ rfl rfl
     have a5:L 5:=hC 7 _ rfl h' 0 _ rfl rfl
     rcases h with h | h
     ·exact h a3
     ·exact h a5
    clear hI hC
    match i,hi with
    | 0,hi=>
     obtain rfl:=ZoP hi
     have q0:=HI.out.box.cell 0 0 (b:=w.heap.size) rfl rfl rfl
     have q1:=HI.out.box.cell 0 1 (b:=w.heap.size) rfl rfl rfl
     refine Zb0 rfl fun K hK=>?_
     go_simp
     exact hK _ _ ⟨_,_,_,_,_,_,_,_,_,_,_,_,rfl,HI.out.s0⟩
    | 1,hi=>
     obtain rfl:=ZoP hi
     have h0:=HI.out.l0 (he 0 _ rfl rfl)
     have g6:=h6 (.inl hL)
     subst h0
     refine Zb0 rfl fun K hK=>?_
     go_simp
     go_at_call 67
     refine(HT1.out W).mono ?_
     rintro e W' ⟨x,y,rfl,hx,hy,hb⟩
     exact hK _ _ ⟨_,_,_,_,_,_,_,_,_,_,_,_,rfl,(HI.out.after hb).s1 g6 hx hy⟩
    | 2,hi=>
     obtain rfl:=ZoP hi
     have q0:=HI.out.box.cell 1 0 (b:=w.heap.size+1) rfl rfl rfl
     have q1:=HI.out.box.cell 1 1 (b:=w.heap.size+1) rfl rfl rfl
     refine Zb0 rfl fun K hK=>?_
     go_simp
     exact hK _ _ ⟨_,_,_,_,_,_,_,_,_,_,_,_,rfl,HI.out.s2⟩
    | 3,hi=>
     obtain rfl:=ZoP hi
     have h0:=HI.out.l2 (he 0 _ rfl rfl)
     have g7:=h7 (.inl hL)
     subst h0
     refine Zb0 rfl fun K hK=>?_
     go_simp
     go_at_call 67
     refine(HT2.out W).mono ?_
     rintro e W' ⟨x,y,rfl,hx,hy,hb⟩
     exact hK _ _ ⟨_,_,_,_,_,_,_,_,_,_,_,_,rfl,(HI.out.after hb).s3 g7 hx hy⟩
    | 4,hi=>
     obtain rfl:=ZoP hi
     have g6:=h6 (.inr hL)
     refine Zb0 rfl fun K hK=>?_
     go_simp
     exact hK _ _ ⟨_,_,_,_,_,_,_,_,_,_,_,_,rfl,HI.out.s4 g6⟩
    | 5,hi=>
     obtain rfl:=ZoP hi
     have g7:=h7 (.inr hL)
     refine Zb0 rfl fun K hK=>?_
     go_simp
     exact hK _ _ ⟨_,_,_,_,_,_,_,_,_,_,_,_,rfl,HI.out.s5 g7⟩
    | 6,hi=>
     obtain rfl:=ZoP hi
     have g4:L 4:=he 0 _ rfl rfl
     have g5:L 5:=he 8 _ rfl rfl
     obtain⟨e1,e2,e3,e4,e5⟩:=HI.out.l4 g4
     obtain⟨e6,e7,e8⟩:=HI.out.l1 (he 1 _ rfl rfl)
     have q0:=Zn (e4 hL) 0 rfl
     have q1:=Zn (e4 hL) 1 rfl
     have q2:=Zo (e4 hL) 0
     have q3:=Zo (e4 hL) 1
     subst e1
     subst e6
     obtain⟨pA,lA,cA,rfl⟩:=e7.form'
     obtain⟨pB,lB,cB,rfl⟩:=e8.form'
     clear e4 e5 e7 e8
     refine Zb0 rfl fun K hK=>?_
     go_simp
     exact hK _ _ ⟨_,_,_,_,_,_,_,_,_,_,_,_,rfl,HI.out.s6 hL g4 g5⟩
    | 7,hi=>
     obtain rfl:=ZoP hi
     have g4:L 4:=he 7 _ rfl rfl
     have g5:L 5:=he 0 _ rfl rfl
     obtain⟨e1,e2,e3,e4,e5⟩:=HI.out.l5 g5
     obtain⟨e6,e7,e8⟩:=HI.out.l3 (he 1 _ rfl rfl)
     have q0:=Zn (e4 hL) 0 rfl
     have q1:=Zn (e4 hL) 1 rfl
     have q2:=Zo (e4 hL) 0
     have q3:=Zo (e4 hL) 1
     subst e1
     subst e6
     obtain⟨pA,lA,cA,rfl⟩:=e7.form'
     obtain⟨pB,lB,cB,rfl⟩:=e8.form'
     clear e4 e5 e7 e8
     refine Zb0 rfl fun K hK=>?_
     go_simp
     exact hK _ _ ⟨_,_,_,_,_,_,_,_,_,_,_,_,rfl,HI.out.s7 hL g4 g5⟩
    | n+8,hi=>simp at hi
   case hend=>
    rintro L a W hall ⟨t5,t6,t16,t17,t18,t19,va,vb,vc,vd,b5,b6,rfl,hI⟩
    have HI:=Zpz hI
    obtain⟨e1,e2,e3,_,e5⟩:=hI.l4 (hall 4 Zc)
    obtain⟨m1,m2,m3,_,m5⟩:=hI.l5 (hall 5 Zc)
    have H5:=Zpz (e5 (hall 6 Zc))
    have H6:=Zpz (m5 (hall 7 Zc))
    have HN1:=Zpz (hI.l1 (hall 1 Zc))
    have HN3:=Zpz (hI.l3 (hall 3 Zc))
    have HBW:=Zpz hI.below
    subst e1
    subst m1
    clear hI e5 m5 hall
    obtain⟨p1,y1,c1,rfl⟩:=HN1.out.2.1.form'
    obtain⟨p2,y2,c2,rfl⟩:=HN1.out.2.2.form'
    obtain⟨p3,y3,c3,rfl⟩:=HN3.out.2.1.form'
    obtain⟨p4,y4,c4,rfl⟩:=HN3.out.2.2.form'
    have k0:=Zn H5.out 0 rfl
    have k1:=Zn H5.out 1 rfl
    have k2:=Zn H6.out 0 rfl
    have k3:=Zn H6.out 1 rfl
    have L1:Hid ((Zp 1000000000 n1).length<=1000/\(Zp 1000000000 d1).length<=1000/\(Zp 1000000000 n2).length<=1000/\(Zp 1000000000 d2).length<=1000):=by
     subst hn1;subst hd1;subst hn2;subst hd2;exact⟨l1,l2,l3,l4⟩
    have M1:Hid ((Zp 1000000000 (n1*d2)).length<=1000000):=ZoU (ZbW L1.out.1 L1.out.2.2.2) Za
    have M2:Hid ((Zp 1000000000 (n2*d1)).length<=1000000):=ZoU (ZbW L1.out.2.2.1 L1.out.2.1) Za
    go_wp2_with fail
    go_region_held3
     (fun w'=>w'.cell? ⟨b5,0,none⟩=some (.slice p1 y1 c1)/\w'.cell? ⟨b5,1,none⟩=some (.slice p2 y2 c2)/\w'.cell? ⟨b6,0,none⟩=some (.slice p3 y3 c3)/\w'.cell? ⟨b6,1,none⟩=some (.slice p4 y4 c4))
     (first | exact⟨k0,k1,k2,k3⟩ | exact⟨ka2,kb2,kc2,kd2⟩ | exact⟨ka3,kb3,kc3,kd3⟩ | exact⟨ka4,kb4,kc4,kd4⟩)
     (first
      | (go_at_call_of 68 (Value.slice p1 y1 c1);(refine(Zaw (HN1.out.2.1.after (ZoL W.heap.size W).drew ZpA) (HN3.out.2.2.after (ZoL W.heap.size W).drew ZpA) L1.out.1 L1.out.2.2.2).mono ?_;rintro e w2 ⟨xa,rfl,hv,hb⟩;obtain⟨pa,ma,ca,rfl⟩:=hv.form';have HA:=Zpz hv;have F5:=Zpz ((hb.block b5 e3).trans H5.out);have F6:=Zpz ((hb.block b6 m3).trans H6.out);have HB2:Zpt W w2:=((ZoL W.heap.size W).drew).trans hb;have ka2:=Zn F5.out 0 rfl;have kb2:=Zn F5.out 1 rfl;have kc2:=Zn F6.out 0 rfl;have kd2:=Zn F6.out 1 rfl;clear hv hb))
      | (go_at_call_of 68 (Value.slice p3 y3 c3);refine(Zaw (HN3.out.2.1.after HB2.out ZpA) (HN1.out.2.2.after HB2.out ZpA) L1.out.2.2.1 L1.out.2.1).mono ?_;rintro e w3 ⟨xb,rfl,hv,hb⟩;obtain⟨pb,mb,cb,rfl⟩:=hv.form';have HA3:=Zpz (HA.out.after hb ZpA);have HC:=Zpz hv;have HB3:Zpt W w3:=HB2.out.trans (hb.mono HB2.out.size);have F53:=Zpz ((HB3.out.block b5 e3).trans H5.out);have F63:=Zpz ((HB3.out.block b6 m3).trans H6.out);have ka3:=Zn F53.out 0 rfl;have kb3:=Zn F53.out 1 rfl;have kc3:=Zn F63.out 0 rfl;have kd3:=Zn F63.out 1 rfl;clear hv hb)
      | (go_at_call 69;refine(ZbU HA3.out HC.out M1.out M2.out).mono ?_;rintro e w4 ⟨r,rfl,hsg,hb⟩;have HSG:=Zpz hsg;have HB4:Zpt W w4:=HB3.out.trans (hb.mono HB3.out.size);have F54:=Zpz ((HB4.out.block b5 e3).trans H5.out);have F64:=Zpz ((HB4.out.block b6 m3).trans H6.out);have ka4:=Zn F54.out 0 rfl;have kb4:=Zn F54.out 1 rfl;have kc4:=Zn F64.out 0 rfl;have kd4:=Zn F64.out 1 rfl;clear hb hsg))
    clear k0 k1 k2 k3
    have HS:Hid (max (-1) (min 1 r)=sgnR (ratP s t) (ratP u v)):=Zmr (HV.out.1.1) (HV.out.2.1) (by rw[<- HV.out.1.2.1,<- HV.out.1.2.2,<- HV.out.2.2.1,<- HV.out.2.2.2,hn1,hd1,hn2,hd2];exact HSG.out)
    go_wp2
    go_ret
    exact⟨_,rfl,.inr ⟨HQ.out,HS.out⟩,HBW.out.trans (HB4.out.mono HBW.out.size)⟩
theorem Bi.both {s t u v x y:ByteArray} {e:Int} {R:ByteArray->ByteArray->Int->Prop} (h:Bi s t u v R x y e) (h1:okP s t=true) (h2:okP u v=true):R x y e:=by
 rcases h with ⟨h,_⟩ | ⟨_,h⟩
 ·rw[h1,h2] at h;cases h
 ·exact h
theorem IsP.small {q:Rat} {s t:ByteArray} (h:IsP q s t):s.size<=600/\t.size<=600:=by
 rw[h.num,h.den,Zay,Zay];exact h.fits
theorem IsP.limit {q:Rat} {s t:ByteArray} (h:IsP q s t):s.size<=1000000/\t.size<=1000000:=by
 have:=h.small;omega
abbrev PP:=ByteArray×ByteArray
def PAt (w:World) (b off:Nat) (ps:List PP):Prop:=
 ∀ j (h:j<ps.length),w.cell? ⟨b,off+j*2,none⟩=some (.string ps[j].1)/\w.cell? ⟨b,off+j*2+1,none⟩=some (.string ps[j].2)
def PL (w:World) (v:Value) (ps:List PP):Prop:=
 ∃ p cap,v=.slice p ps.length cap/\ps.length<=cap/\cap<=maxLen/\(ps≠[]->∃ b off,p=some ⟨b,off,none⟩/\b<w.heap.size/\PAt w b off ps)
theorem PAt.below {B:Nat} {w w':World} {b off:Nat} {ps:List PP} (h:PAt w b off ps) (hb:Below B w w') (hB:b<B):PAt w' b off ps:=
 fun j hj=>⟨(hb.cell (p:=⟨b,off+j*2,none⟩) hB).trans (h j hj).1,(hb.cell (p:=⟨b,off+j*2+1,none⟩) hB).trans (h j hj).2⟩
theorem PL.after {B:Nat} {w w':World} {v:Value} {ps:List PP} (h:PL w v ps) (hb:Below B w w') (hB:w.heap.size<=B):PL w' v ps:=by
 obtain⟨p,cap,h1,h2,h3,h4⟩:=h
 refine⟨p,cap,h1,h2,h3,fun hne=>?_⟩
 obtain⟨b,off,h5,h6,h7⟩:=h4 hne
 exact⟨b,off,h5,ZoS h6 hb.size,h7.below hb Za⟩
theorem PL.nil (w:World):PL w (.slice none 0 0) []:=⟨none,0,rfl,Nat.le_refl _,by simp[maxLen],Zc⟩
instance fitsDec (q:Rat):Decidable (Fits q):=inferInstanceAs (Decidable (_/\_))
end Go.Proofs.YtmpaflidennnoaaGreatDoor
