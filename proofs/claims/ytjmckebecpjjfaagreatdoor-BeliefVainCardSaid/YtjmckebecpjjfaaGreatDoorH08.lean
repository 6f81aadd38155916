/- The parts Does2, Size, Two, Ops, Inv. -/
import Derived.Test.YtjmckebecpjjfaaGreatDoorH07
set_option maxRecDepth 100000
set_option maxHeartbeats 4000000
set_option linter.unusedVariables false
set_option linter.unusedSimpArgs false
namespace Go.Proofs.YtjmckebecpjjfaaGreatDoor
open Go.RowKit Go.Shelf
attribute [local go_sem ↓] Go.wp_at_zero Go.wp_at_succ
theorem ZoW {n m k l:Nat} (h1:(Zp 1000000000 n).length<=k) (h2:(Zp 1000000000 m).length<=l):(Zp 1000000000 (n+m)).length<=k+l+1:=by
 refine Za0 Za ?_
 have a1:=Z4 (ZR (B:=1000000000) Za n)
 have a2:=Z4 (ZR (B:=1000000000) Za m)
 rw[ZO Za] at a1 a2
 have b1:(1000000000:Nat) ^ (Zp 1000000000 n).length<=1000000000 ^ (k+l):=Zp6 Za Za
 have b2:(1000000000:Nat) ^ (Zp 1000000000 m).length<=1000000000 ^ (k+l):=Zp6 Za Za
 rw[Zqs]
 omega
theorem Zn8 {v1 v2 v3 v4:Value} {n1 d1 n2 d2:Nat} {w:World} (h1:Num w v1 n1) (h2:Num w v2 d1) (h3:Num w v3 n2) (h4:Num w v4 d2)
  (l1:(Zp 1000000000 n1).length<=1000) (l2:(Zp 1000000000 d1).length<=1000) (l3:(Zp 1000000000 n2).length<=1000) (l4:(Zp 1000000000 d2).length<=1000) (hd1:0<d1) (hd2:0<d2) (hT:Tabs w) :
  Calls Tryz.prog 65 #[.agg #[v1,v2],.agg #[v3,v4]] w (Zaq (Ans (mkRat ((n1*d2+n2*d1:Nat):Int) (d1*d2))) w):=by
 obtain⟨p1,m1,c1,rfl⟩:=h1.form'
 obtain⟨p2,m2,c2,rfl⟩:=h2.form'
 obtain⟨p3,m3,c3,rfl⟩:=h3.form'
 obtain⟨p4,m4,c4,rfl⟩:=h4.form'
 have H1:=ZqH h1
 have H2:=ZqH h2
 have H3:=ZqH h3
 have H4:=ZqH h4
 have HT:=ZqH hT
 clear h1 h2 h3 h4 hT
 have M1:Hid ((Zp 1000000000 (n1*d2)).length<=2000):=Zp4 (ZgJ l1 l4) Za
 have M2:Hid ((Zp 1000000000 (n2*d1)).length<=2000):=Zp4 (ZgJ l3 l2) Za
 have K1:Hid ((Zp 1000000000 (n1*d2)).length<=100000):=Zp4 M1.out Za
 have K2:Hid ((Zp 1000000000 (n2*d1)).length<=100000):=Zp4 M2.out Za
 have HL1:Hid ((Zp 1000000000 (n1*d2+n2*d1)).length<=100000):=Zp4 (ZoW M1.out M2.out) Za
 have HL2:Hid ((Zp 1000000000 (d1*d2)).length<=100000):=Zc6 l2 l4
 have HD:Hid (0<d1*d2):=Nat.mul_pos hd1 hd2
 go_enter Tryz.func65,Tryz.ntmps65
 go_wp2_with fail
 obtain⟨w1,hw1⟩:=ZqJ (((w.alloc (.cells #[.slice p1 m1 c1,.slice p2 m2 c2] 107)).alloc (.cells #[.slice p3 m3 c3,.slice p4 m4 c4] 107)).alloc (ZqF ZqD ZqD))
 rw[hw1]
 have HX1:Hid (Zu w.heap.size [.cells #[.slice p1 m1 c1,.slice p2 m2 c2] 107,.cells #[.slice p3 m3 c3,.slice p4 m4 c4] 107,ZqF ZqD ZqD] w1):=by rw[<- hw1];exact Zu.three w _ _ _
 have HB1:ZqB w w1:=by rw[<- hw1];exact(((ZpV _ w).alloc ZqI _).alloc Zc _).alloc (by simp<;>omega) _
 clear hw1
 have k1:=HX1.out.f4
 obtain⟨ka1,kb1,kc1,kd1⟩:=id k1
 go_region_held3
  (fun w'=>w'.cell? ⟨w.heap.size,0,none⟩=some (.slice p1 m1 c1)/\w'.cell? ⟨w.heap.size,1,none⟩=some (.slice p2 m2 c2)/\w'.cell? ⟨w.heap.size+1,0,none⟩=some (.slice p3 m3 c3)/\w'.cell? ⟨w.heap.size+1,1,none⟩=some (.slice p4 m4 c4))
  (first | exact k1 | exact k2 | exact k3 | exact k4 | exact k5 | exact k6 | exact Zhw Za Za k9 _ _ | exact k9)
  (first
   | (go_at_call_of 48 (Value.slice p1 m1 c1);refine(Zbs (H1.out.after HB1.out.drew ZqI) (H4.out.after HB1.out.drew ZqI) l1 l4).mono ?_;rintro e w2 ⟨va,rfl,hv,hb⟩;obtain⟨pa,ma,ca,rfl⟩:=hv.form';have HA:=ZqH hv;have HX2:=ZqH (HX1.out.drew.below hb HX1.out.lt);have HB2:ZqB w w2:=HB1.out.drew.trans (hb.mono HB1.out.drew.size);have k2:=HX2.out.f4;clear hv hb)
   | (go_at_call_of 48 (Value.slice p3 m3 c3);refine(Zbs (H3.out.after HB2.out ZqI) (H2.out.after HB2.out ZqI) l3 l2).mono ?_;rintro e w3 ⟨vb,rfl,hv,hb⟩;obtain⟨pb,mb,cb,rfl⟩:=hv.form';have HC:=ZqH hv;have HA3:=ZqH (HA.out.after hb ZqI);have HX3:=ZqH (HX2.out.below hb HX2.out.lt);have HB3:ZqB w w3:=HB2.out.trans (hb.mono HB2.out.size);have k3:=HX3.out.f4;clear hv hb)
   | (go_at_call_of 66 (Value.slice pa ma ca);refine(Zoy HA3.out HC.out K1.out K2.out).mono ?_;rintro e w4 ⟨vs,rfl,hv,hb⟩;obtain⟨ps,ms,cs,rfl⟩:=hv.form';have HS:=ZqH hv;have HX4:=ZqH (HX3.out.below hb HX3.out.lt);have HB4:ZqB w w4:=HB3.out.trans (hb.mono HB3.out.size);have k4:=HX4.out.f4;clear hv hb)
   | (go_at_call_of 48 (Value.slice p2 m2 c2);refine(Zbs (H2.out.after HB4.out ZqI) (H4.out.after HB4.out ZqI) l2 l4).mono ?_;rintro e w5 ⟨vd,rfl,hv,hb⟩;obtain⟨pd,md,cd,rfl⟩:=hv.form';have HE:=ZqH hv;have HS5:=ZqH (HS.out.after hb ZqI);have HX5:=ZqH (HX4.out.below hb HX4.out.lt);have HB5:ZqB w w5:=HB4.out.trans (hb.mono HB4.out.size);have k5:=HX5.out.f4;clear hv hb)
   | (go_at_call 55;refine(ZeO HS5.out HE.out HL1.out HL2.out HD.out (HT.out.below HB5.out ZqI)).mono ?_;rintro e w9 ⟨x,y,n,rfl,hR,hb9⟩;have HR:=ZqH hR;have HX9:=ZqH (HX5.out.below hb9 HX5.out.lt);have HB9:ZqB w w9:=HB5.out.trans (hb9.mono HB5.out.size);have k9:=HX9.out.f4;have r0:=HX9.out.cell 2 0 (b:=w.heap.size+1+1) rfl rfl rfl;have r1:=HX9.out.cell 2 1 (b:=w.heap.size+1+1) rfl rfl rfl;have f0:=HX9.out.free 2 0 (b:=w.heap.size+1+1) rfl rfl;have f1:=HX9.out.free 2 1 (b:=w.heap.size+1+1) rfl rfl;clear hR hb9)
  )
 all_goals
  have q:=ZD (HX9.out.block 2 (b:=w.heap.size+1+1) rfl rfl) (.string x) (.string y)
  have HBQ:=ZqH (Zy HB9.out (b:=w.heap.size+1+1) Za (.string x) (.string y))
  obtain⟨wz,hwz⟩:=ZqJ ((w9.setCell ⟨w.heap.size+1+1,0,none⟩ (.string x)).setCell ⟨w.heap.size+1+1,1,none⟩ (.string y))
  rw[hwz] at q HBQ
  obtain⟨q0,q1⟩:=q
  rw[hwz]
  clear r0 r1 f0 f1 hwz
  go_wp2
  refine ZpW (v:=.tuple #[ZqE x y,.int .i64 n]) (by simp[results,Tryz.f65,go_sem,q0,q1]) rfl ⟨_,_,_,rfl,HR.out,HBQ.out⟩
end Go.Proofs.YtjmckebecpjjfaaGreatDoor
namespace Go.Proofs.YtjmckebecpjjfaaGreatDoor
open Go.Lib
theorem Zl1 {a b:Rat} (ha:0<=a) (hb:0<=b):0<=a/b:=by
 rcases Rat.le_iff_lt_or_eq.1 hb with h | h
 ·rw[Rat.div_def];exact Rat.mul_nonneg ha (Rat.le_of_lt (Rat.inv_pos.2 h))
 ·rw[<- h,Rat.div_def,Rat.inv_zero,Rat.mul_zero];exact Rat.le_refl
end Go.Proofs.YtjmckebecpjjfaaGreatDoor
namespace Go.Proofs.YtjmckebecpjjfaaGreatDoor
open Go.RowKit Go.Shelf
attribute [local go_sem ↓] Go.wp_at_zero Go.wp_at_succ
def Bi (s t u v:ByteArray) (R:ByteArray->ByteArray->Int->Prop) (x y:ByteArray) (e:Int):Prop:=
 ((okP s t && okP u v)=false/\x=str []/\y=str []/\e=2)\/((okP s t && okP u v)=true/\R x y e)
theorem Zbz {s t:ByteArray} (h:okP s t=true):(∀ c ∈ s.data.toList,ZT c=true)/\(∀ c ∈ t.data.toList,ZT c=true)/\s.size<=1000000/\t.size<=1000000/\
  (Zp 1000000000 (Zr s.data.toList)).length<=1000/\(Zp 1000000000 (Zr t.data.toList)).length<=1000/\0<Zr t.data.toList:=by
 obtain⟨h1,h2,h3,h4⟩:=ZfN.1 h
 obtain⟨c1,l1⟩:=Zaj h1
 obtain⟨c2,l2⟩:=Zaj h2
 rw[ZJ] at l1 l2
 exact⟨c1.dig,c2.dig,Za,Za,Zp4 (Zcl c1.dig (j:=70) Za) Za,Zp4 (Zcl c2.dig (j:=70) Za) Za,h3⟩
theorem Zih {F:Nat} (hent:∀ args w,(callFunc F args).run Tryz.prog w=.ok (.enter F args) w) {R:ByteArray->ByteArray->Int->Prop} (s t u v:ByteArray) (w:World) (hs:s.size<=1000000) (ht:t.size<=1000000) (hu:u.size<=1000000) (hv:v.size<=1000000) (hT:Tabs w)
  (hc:okP s t=true->okP u v=true->∀ (v1 v2 v3 v4:Value) (W:World),Num W v1 (Zr s.data.toList)->Num W v2 (Zr t.data.toList)->Num W v3 (Zr u.data.toList)->Num W v4 (Zr v.data.toList)->Tabs W->Calls Tryz.prog F #[.agg #[v1,v2],.agg #[v3,v4]] W (Zaq R W)) :
  Calls Tryz.prog 53 #[ZqE s t,ZqE u v,.func (.func F) #[] #[]] w (Zaq (Bi s t u v R) w):=by
 have HT:=ZqH hT
 have HCC:=ZqH hc
 clear hT hc
 go_enter Tryz.func53,Tryz.ntmps53
 go_wp2_with fail
 obtain⟨w1,hw1⟩:=ZqJ (((w.alloc (ZqF s t)).alloc (ZqF u v)).alloc (ZqF ZqD ZqD))
 rw[hw1]
 have HX1:Hid (Zu w.heap.size [ZqF s t,ZqF u v,ZqF ZqD ZqD] w1):=by rw[<- hw1];exact Zu.three w _ _ _
 have HB1:ZqB w w1:=by rw[<- hw1];exact(((ZpV _ w).alloc ZqI _).alloc Zc _).alloc (by simp<;>omega) _
 clear hw1
 refine(Zbd s t _ hs ht).mono ?_
 rintro e w2 ⟨rfl,hb2⟩
 have HX2:=ZqH (HX1.out.below hb2 HX1.out.lt)
 have HB2:=ZqH (HB1.out.trans (hb2.mono HB1.out.size))
 clear hb2
 cases h1:okP s t
 ·have H1:Hid ((okP s t && okP u v)=false):=by show _=_;rw[h1];rfl
  rw[Zb9 h1]
  clear h1
  have r0:=HX2.out.cell 2 0 (b:=w.heap.size+1+1) rfl rfl rfl
  have r1:=HX2.out.cell 2 1 (b:=w.heap.size+1+1) rfl rfl rfl
  have f0:=HX2.out.free 2 0 (b:=w.heap.size+1+1) rfl rfl
  have f1:=HX2.out.free 2 1 (b:=w.heap.size+1+1) rfl rfl
  go_wp2
  have q:=ZD (HX2.out.block 2 (b:=w.heap.size+1+1) rfl rfl) (.string ZqD) (.string ZqD)
  have HBQ:=ZqH (Zy HB2.out (b:=w.heap.size+1+1) Za (.string ZqD) (.string ZqD))
  obtain⟨w9,hw9⟩:=ZqJ ((w2.setCell ⟨w.heap.size+1+1,0,none⟩ (.string ZqD)).setCell ⟨w.heap.size+1+1,1,none⟩ (.string ZqD))
  rw[hw9] at q HBQ
  obtain⟨q0,q1⟩:=q
  rw[hw9]
  clear r0 r1 f0 f1 hw9
  go_wp2
  refine ZpW (v:=.tuple #[ZqE ZqD ZqD,.int .i64 2]) (by simp[results,Tryz.f53,go_sem,q0,q1]) rfl ⟨_,_,_,rfl,?_,HBQ.out⟩
  exact .inl ⟨H1.out,rfl,rfl,rfl⟩
 have H1:=ZqH h1
 rw[ZcJ h1]
 clear h1
 have kc2:=HX2.out.cell 1 0 (b:=w.heap.size+1) rfl rfl rfl
 have kd2:=HX2.out.cell 1 1 (b:=w.heap.size+1) rfl rfl rfl
 go_wp2_with fail
 refine(Zbd u v _ hu hv).mono ?_
 rintro e w3 ⟨rfl,hb3⟩
 have HX3:=ZqH (HX2.out.below hb3 HX2.out.lt)
 have HB3:=ZqH (HB2.out.trans (hb3.mono HB2.out.size))
 clear hb3 kc2 kd2
 cases h2:okP u v
 ·have H2:Hid ((okP s t && okP u v)=false):=by show _=_;rw[h2,Bool.and_false]
  rw[Zb9 h2]
  clear h2
  have r0:=HX3.out.cell 2 0 (b:=w.heap.size+1+1) rfl rfl rfl
  have r1:=HX3.out.cell 2 1 (b:=w.heap.size+1+1) rfl rfl rfl
  have f0:=HX3.out.free 2 0 (b:=w.heap.size+1+1) rfl rfl
  have f1:=HX3.out.free 2 1 (b:=w.heap.size+1+1) rfl rfl
  go_wp2
  have q:=ZD (HX3.out.block 2 (b:=w.heap.size+1+1) rfl rfl) (.string ZqD) (.string ZqD)
  have HBQ:=ZqH (Zy HB3.out (b:=w.heap.size+1+1) Za (.string ZqD) (.string ZqD))
  obtain⟨w9,hw9⟩:=ZqJ ((w3.setCell ⟨w.heap.size+1+1,0,none⟩ (.string ZqD)).setCell ⟨w.heap.size+1+1,1,none⟩ (.string ZqD))
  rw[hw9] at q HBQ
  obtain⟨q0,q1⟩:=q
  rw[hw9]
  clear r0 r1 f0 f1 hw9
  go_wp2
  refine ZpW (v:=.tuple #[ZqE ZqD ZqD,.int .i64 2]) (by simp[results,Tryz.f53,go_sem,q0,q1]) rfl ⟨_,_,_,rfl,?_,HBQ.out⟩
  exact .inl ⟨H2.out,rfl,rfl,rfl⟩
 have HQ:Hid ((okP s t && okP u v)=true):=by show _=_;rw[H1.out,h2];rfl
 have HC:=ZqH (HCC.out H1.out h2)
 obtain⟨g1,g2,_⟩:=Zbz H1.out
 obtain⟨g3,g4,_⟩:=Zbz h2
 have HG:=ZqH (Zqy g1 (Zqy g2 (Zqy g3 g4)))
 rw[ZcJ h2]
 clear h2 HCC H1 g1 g2 g3 g4
 have k3:=HX3.out.f4
 obtain⟨ka3,kb3,kc3,kd3⟩:=id k3
 go_wp2_with fail
 go_region_held3
  (fun w'=>w'.cell? ⟨w.heap.size,0,none⟩=some (.string s)/\w'.cell? ⟨w.heap.size,1,none⟩=some (.string t)/\w'.cell? ⟨w.heap.size+1,0,none⟩=some (.string u)/\w'.cell? ⟨w.heap.size+1,1,none⟩=some (.string v))
  (first | exact k3 | exact k4 | exact k5 | exact Zhw Za Za k9 _ _ | exact k9)
  (first
   | (go_at_call_of 47 (Value.agg #[.string s,.string t]);refine(Zdi s t hs ht HG.out.1 HG.out.2.1 _).mono ?_;rintro e w4 ⟨va,vb,rfl,hva,hvb,hb⟩;obtain⟨p4,m4,c4,rfl⟩:=hva.form';obtain⟨q4,n4,d4,rfl⟩:=hvb.form';have HA:=ZqH hva;have HD:=ZqH hvb;have HX4:=ZqH (HX3.out.drew.below hb HX3.out.lt);have HB4:ZqB w w4:=HB3.out.drew.trans (hb.mono HB3.out.drew.size);have k4:=HX4.out.f4;clear hva hvb hb)
   | (go_at_call_of 47 (Value.agg #[.string u,.string v]);refine(Zdi u v hu hv HG.out.2.2.1 HG.out.2.2.2 _).mono ?_;rintro e w5 ⟨vc,vd,rfl,hva,hvb,hb⟩;obtain⟨p5,m5,c5,rfl⟩:=hva.form';obtain⟨q5,n5,d5,rfl⟩:=hvb.form';have HE:=ZqH hva;have HF:=ZqH hvb;have HA5:=ZqH (HA.out.after hb ZqI);have HC5:=ZqH (HD.out.after hb ZqI);have HX5:=ZqH (HX4.out.below hb HX4.out.lt);have HB5:ZqB w w5:=HB4.out.trans (hb.mono HB4.out.size);have k5:=HX5.out.f4;clear hva hvb hb)
   | (refine(HC.out _ _ _ _ _ HA5.out HC5.out HE.out HF.out (HT.out.below HB5.out ZqI)).mono ?_;rintro e w9 ⟨x,y,n,rfl,hR,hb9⟩;have HR:=ZqH hR;have HX9:=ZqH (HX5.out.below hb9 HX5.out.lt);have HB9:ZqB w w9:=HB5.out.trans (hb9.mono HB5.out.size);have k9:=HX9.out.f4;have r0:=HX9.out.cell 2 0 (b:=w.heap.size+1+1) rfl rfl rfl;have r1:=HX9.out.cell 2 1 (b:=w.heap.size+1+1) rfl rfl rfl;have f0:=HX9.out.free 2 0 (b:=w.heap.size+1+1) rfl rfl;have f1:=HX9.out.free 2 1 (b:=w.heap.size+1+1) rfl rfl;clear hR hb9)
  )
 all_goals
  have q:=ZD (HX9.out.block 2 (b:=w.heap.size+1+1) rfl rfl) (.string x) (.string y)
  have HBQ:=ZqH (Zy HB9.out (b:=w.heap.size+1+1) Za (.string x) (.string y))
  obtain⟨wz,hwz⟩:=ZqJ ((w9.setCell ⟨w.heap.size+1+1,0,none⟩ (.string x)).setCell ⟨w.heap.size+1+1,1,none⟩ (.string y))
  rw[hwz] at q HBQ
  obtain⟨q0,q1⟩:=q
  rw[hwz]
  clear r0 r1 f0 f1 hwz
  go_wp2
  refine ZpW (v:=.tuple #[ZqE x y,.int .i64 n]) (by simp[results,Tryz.f53,go_sem,q0,q1]) rfl ⟨_,_,_,rfl,.inr ⟨HQ.out,HR.out⟩,HBQ.out⟩
theorem ZoX (s t u v:ByteArray) (w:World) (hs:s.size<=1000000) (ht:t.size<=1000000) (hu:u.size<=1000000) (hv:v.size<=1000000) (hT:Tabs w) :
  Calls Tryz.prog 53 #[ZqE s t,ZqE u v,.func (.func 67) #[] #[]] w (Zaq (Bi s t u v (Ans (mkRat ((Zr s.data.toList*Zr u.data.toList:Nat):Int) (Zr t.data.toList*Zr v.data.toList)))) w):=
 Zih (enters_of Tryz.func67 Zb rfl) s t u v w hs ht hu hv hT fun h1 h2 v1 v2 v3 v4 W a b c d hT=>by
  obtain⟨_,_,_,_,l1,l2,d1⟩:=Zbz h1
  obtain⟨_,_,_,_,l3,l4,d2⟩:=Zbz h2
  exact ZnW a b c d l1 l2 l3 l4 d1 d2 hT
theorem Zpc (s t u v:ByteArray) (w:World) (hs:s.size<=1000000) (ht:t.size<=1000000) (hu:u.size<=1000000) (hv:v.size<=1000000) (hT:Tabs w) :
  Calls Tryz.prog 53 #[ZqE s t,ZqE u v,.func (.func 65) #[] #[]] w (Zaq (Bi s t u v (Ans (mkRat ((Zr s.data.toList*Zr v.data.toList+Zr u.data.toList*Zr t.data.toList:Nat):Int) (Zr t.data.toList*Zr v.data.toList)))) w):=
 Zih (enters_of Tryz.func65 Zb rfl) s t u v w hs ht hu hv hT fun h1 h2 v1 v2 v3 v4 W a b c d hT=>by
  obtain⟨_,_,_,_,l1,l2,d1⟩:=Zbz h1
  obtain⟨_,_,_,_,l3,l4,d2⟩:=Zbz h2
  exact Zn8 a b c d l1 l2 l3 l4 d1 d2 hT
def DivR (n1 d1 n2 d2:Nat) (s t:ByteArray) (e:Int):Prop:=
 (n2=0/\s=str []/\t=str []/\e=10)\/(0<n2/\Ans (mkRat ((n1*d2:Nat):Int) (d1*n2)) s t e)
theorem ZnO {v1 v2 v3 v4:Value} {n1 d1 n2 d2:Nat} {w:World} (h1:Num w v1 n1) (h2:Num w v2 d1) (h3:Num w v3 n2) (h4:Num w v4 d2)
  (l1:(Zp 1000000000 n1).length<=1000) (l2:(Zp 1000000000 d1).length<=1000) (l3:(Zp 1000000000 n2).length<=1000) (l4:(Zp 1000000000 d2).length<=1000) (hd1:0<d1) (hd2:0<d2) (hT:Tabs w) :
  Calls Tryz.prog 54 #[.agg #[v1,v2],.agg #[v3,v4]] w (Zaq (DivR n1 d1 n2 d2) w):=by
 rcases Zqa n2 with h0 | h0
 ·refine(ZmP h1 h2 h3 h4 l1 l2 l3 l4 hd1 hd2 hT h0).mono ?_
  rintro e w' ⟨s,t,n,rfl,hr,hb⟩
  exact⟨s,t,n,rfl,.inl ⟨h0,hr⟩,hb⟩
 ·refine(Zn7 h1 h2 h3 h4 l1 l2 l3 l4 hd1 hd2 hT h0).mono ?_
  rintro e w' ⟨s,t,n,rfl,hr,hb⟩
  exact⟨s,t,n,rfl,.inr ⟨h0,hr⟩,hb⟩
theorem Zo4 (s t u v:ByteArray) (w:World) (hs:s.size<=1000000) (ht:t.size<=1000000) (hu:u.size<=1000000) (hv:v.size<=1000000) (hT:Tabs w) :
  Calls Tryz.prog 53 #[ZqE s t,ZqE u v,.func (.func 54) #[] #[]] w (Zaq (Bi s t u v (DivR (Zr s.data.toList) (Zr t.data.toList) (Zr u.data.toList) (Zr v.data.toList))) w):=
 Zih (enters_of Tryz.func54 Zb rfl) s t u v w hs ht hu hv hT fun h1 h2 v1 v2 v3 v4 W a b c d hT=>by
  obtain⟨_,_,_,_,l1,l2,d1⟩:=Zbz h1
  obtain⟨_,_,_,_,l3,l4,d2⟩:=Zbz h2
  exact ZnO a b c d l1 l2 l3 l4 d1 d2 hT
def DivA (a b:Rat) (x y:ByteArray) (e:Int):Prop:=(b=0/\x=str []/\y=str []/\e=10)\/(0<b/\Ans (a/b) x y e)
theorem ZcH {s t:ByteArray} (h:okP s t=true):0<=ratP s t/\Zr s.data.toList=(ratP s t).num.toNat/\Zr t.data.toList=(ratP s t).den:=
 ⟨(Zb8 h).nn,(Zb8 h).vals.1,(Zb8 h).vals.2⟩
theorem Bi.mono {s t u v x y:ByteArray} {e:Int} {R R':ByteArray->ByteArray->Int->Prop} (h:Bi s t u v R x y e) (f:okP s t=true->okP u v=true->R x y e->R' x y e):Bi s t u v R' x y e:=by
 rcases h with h | ⟨h1,h2⟩
 ·exact .inl h
 ·rw[Zqt] at h1
  exact .inr ⟨by rw[Zqt];exact h1,f h1.1 h1.2 h2⟩
theorem Zpw {s t u v x y:ByteArray} {e:Int} (h:Bi s t u v (Ans (mkRat ((Zr s.data.toList*Zr u.data.toList:Nat):Int) (Zr t.data.toList*Zr v.data.toList))) x y e):Bi s t u v (Ans (ratP s t*ratP u v)) x y e:=
 h.mono fun h1 h2 h3=>by
  obtain⟨a1,a2,a3⟩:=ZcH h1
  obtain⟨b1,b2,b3⟩:=ZcH h2
  rw[Zpp a1 b1,<- a2,<- a3,<- b2,<- b3];exact h3
theorem Zps {s t u v x y:ByteArray} {e:Int} (h:Bi s t u v (Ans (mkRat ((Zr s.data.toList*Zr v.data.toList+Zr u.data.toList*Zr t.data.toList:Nat):Int) (Zr t.data.toList*Zr v.data.toList))) x y e):Bi s t u v (Ans (ratP s t+ratP u v)) x y e:=
 h.mono fun h1 h2 h3=>by
  obtain⟨a1,a2,a3⟩:=ZcH h1
  obtain⟨b1,b2,b3⟩:=ZcH h2
  rw[Zpz a1 b1,<- a2,<- a3,<- b2,<- b3];exact h3
theorem ZpD {s t u v x y:ByteArray} {e:Int} (h:Bi s t u v (DivR (Zr s.data.toList) (Zr t.data.toList) (Zr u.data.toList) (Zr v.data.toList)) x y e):Bi s t u v (DivA (ratP s t) (ratP u v)) x y e:=
 h.mono fun h1 h2 h3=>by
  obtain⟨a1,a2,a3⟩:=ZcH h1
  obtain⟨b1,b2,b3⟩:=ZcH h2
  unfold DivR at h3
  rw[a2,a3,b2,b3] at h3
  rcases h3 with ⟨k,h3⟩ | ⟨k,h3⟩
  ·refine .inl ⟨?_,h3⟩
   have h4:=Zal b1
   rw[k] at h4
   exact Rat.num_eq_zero.1 h4.symm
  ·have hk:0<ratP u v:=by
    refine Rat.lt_of_le_of_ne b1 fun h0=>?_
    rw[<- h0] at k
    exact Zqx k Zd
   exact .inr ⟨hk,by rw[Zpl a1 hk];exact h3⟩
theorem Zco (s t u v:ByteArray) (w:World) (hs:s.size<=1000000) (ht:t.size<=1000000) (hu:u.size<=1000000) (hv:v.size<=1000000) (hT:Tabs w) :
  Calls Tryz.prog 24 #[ZqE s t,ZqE u v] w (Zaq (Bi s t u v (Ans (ratP s t*ratP u v))) w):=by
 have HT:=ZqH hT
 clear hT
 go_enter Tryz.func24,Tryz.ntmps24
 go_wp2_with fail
 obtain⟨w1,hw1⟩:=ZqJ (((w.alloc (ZqF s t)).alloc (ZqF u v)).alloc (ZqF ZqD ZqD))
 rw[hw1]
 have HX1:Hid (Zu w.heap.size [ZqF s t,ZqF u v,ZqF ZqD ZqD] w1):=by rw[<- hw1];exact Zu.three w _ _ _
 have HB1:ZqB w w1:=by rw[<- hw1];exact(((ZpV _ w).alloc ZqI _).alloc Zc _).alloc (by simp<;>omega) _
 clear hw1
 refine(ZoX s t u v _ hs ht hu hv (HT.out.below HB1.out ZqI)).mono ?_
 rintro e w2 ⟨x,y,n,rfl,hR,hb2⟩
 have HR:=ZqH (Zpw hR)
 have HX2:=ZqH (HX1.out.below hb2 HX1.out.lt)
 have HB2:=ZqH (HB1.out.trans (hb2.mono HB1.out.size))
 clear hR hb2
 have r0:=HX2.out.cell 2 0 (b:=w.heap.size+1+1) rfl rfl rfl
 have r1:=HX2.out.cell 2 1 (b:=w.heap.size+1+1) rfl rfl rfl
 have f0:=HX2.out.free 2 0 (b:=w.heap.size+1+1) rfl rfl
 have f1:=HX2.out.free 2 1 (b:=w.heap.size+1+1) rfl rfl
 go_wp2
 have q:=ZD (HX2.out.block 2 (b:=w.heap.size+1+1) rfl rfl) (.string x) (.string y)
 have HBQ:=ZqH (Zy HB2.out (b:=w.heap.size+1+1) Za (.string x) (.string y))
 obtain⟨w9,hw9⟩:=ZqJ ((w2.setCell ⟨w.heap.size+1+1,0,none⟩ (.string x)).setCell ⟨w.heap.size+1+1,1,none⟩ (.string y))
 rw[hw9] at q HBQ
 obtain⟨q0,q1⟩:=q
 rw[hw9]
 clear r0 r1 f0 f1 hw9
 go_wp2
 refine ZpW (v:=.tuple #[ZqE x y,.int .i64 n]) (by simp[results,Tryz.f24,go_sem,q0,q1]) rfl ⟨_,_,_,rfl,?_,HBQ.out⟩
 exact HR.out
theorem Zeh (s t u v:ByteArray) (w:World) (hs:s.size<=1000000) (ht:t.size<=1000000) (hu:u.size<=1000000) (hv:v.size<=1000000) (hT:Tabs w) :
  Calls Tryz.prog 23 #[ZqE s t,ZqE u v] w (Zaq (Bi s t u v (Ans (ratP s t+ratP u v))) w):=by
 have HT:=ZqH hT
 clear hT
 go_enter Tryz.func23,Tryz.ntmps23
 go_wp2_with fail
 obtain⟨w1,hw1⟩:=ZqJ (((w.alloc (ZqF s t)).alloc (ZqF u v)).alloc (ZqF ZqD ZqD))
 rw[hw1]
 have HX1:Hid (Zu w.heap.size [ZqF s t,ZqF u v,ZqF ZqD ZqD] w1):=by rw[<- hw1];exact Zu.three w _ _ _
 have HB1:ZqB w w1:=by rw[<- hw1];exact(((ZpV _ w).alloc ZqI _).alloc Zc _).alloc (by simp<;>omega) _
 clear hw1
 refine(Zpc s t u v _ hs ht hu hv (HT.out.below HB1.out ZqI)).mono ?_
 rintro e w2 ⟨x,y,n,rfl,hR,hb2⟩
 have HR:=ZqH (Zps hR)
 have HX2:=ZqH (HX1.out.below hb2 HX1.out.lt)
 have HB2:=ZqH (HB1.out.trans (hb2.mono HB1.out.size))
 clear hR hb2
 have r0:=HX2.out.cell 2 0 (b:=w.heap.size+1+1) rfl rfl rfl
 have r1:=HX2.out.cell 2 1 (b:=w.heap.size+1+1) rfl rfl rfl
 have f0:=HX2.out.free 2 0 (b:=w.heap.size+1+1) rfl rfl
 have f1:=HX2.out.free 2 1 (b:=w.heap.size+1+1) rfl rfl
 go_wp2
 have q:=ZD (HX2.out.block 2 (b:=w.heap.size+1+1) rfl rfl) (.string x) (.string y)
 have HBQ:=ZqH (Zy HB2.out (b:=w.heap.size+1+1) Za (.string x) (.string y))
 obtain⟨w9,hw9⟩:=ZqJ ((w2.setCell ⟨w.heap.size+1+1,0,none⟩ (.string x)).setCell ⟨w.heap.size+1+1,1,none⟩ (.string y))
 rw[hw9] at q HBQ
 obtain⟨q0,q1⟩:=q
 rw[hw9]
 clear r0 r1 f0 f1 hw9
 go_wp2
 refine ZpW (v:=.tuple #[ZqE x y,.int .i64 n]) (by simp[results,Tryz.f23,go_sem,q0,q1]) rfl ⟨_,_,_,rfl,?_,HBQ.out⟩
 exact HR.out
theorem Zh1 (s t u v:ByteArray) (w:World) (hs:s.size<=1000000) (ht:t.size<=1000000) (hu:u.size<=1000000) (hv:v.size<=1000000) (hT:Tabs w) :
  Calls Tryz.prog 20 #[ZqE s t,ZqE u v] w (Zaq (Bi s t u v (DivA (ratP s t) (ratP u v))) w):=by
 have HT:=ZqH hT
 clear hT
 go_enter Tryz.func20,Tryz.ntmps20
 go_wp2_with fail
 obtain⟨w1,hw1⟩:=ZqJ (((w.alloc (ZqF s t)).alloc (ZqF u v)).alloc (ZqF ZqD ZqD))
 rw[hw1]
 have HX1:Hid (Zu w.heap.size [ZqF s t,ZqF u v,ZqF ZqD ZqD] w1):=by rw[<- hw1];exact Zu.three w _ _ _
 have HB1:ZqB w w1:=by rw[<- hw1];exact(((ZpV _ w).alloc ZqI _).alloc Zc _).alloc (by simp<;>omega) _
 clear hw1
 refine(Zo4 s t u v _ hs ht hu hv (HT.out.below HB1.out ZqI)).mono ?_
 rintro e w2 ⟨x,y,n,rfl,hR,hb2⟩
 have HR:=ZqH (ZpD hR)
 have HX2:=ZqH (HX1.out.below hb2 HX1.out.lt)
 have HB2:=ZqH (HB1.out.trans (hb2.mono HB1.out.size))
 clear hR hb2
 have r0:=HX2.out.cell 2 0 (b:=w.heap.size+1+1) rfl rfl rfl
 have r1:=HX2.out.cell 2 1 (b:=w.heap.size+1+1) rfl rfl rfl
 have f0:=HX2.out.free 2 0 (b:=w.heap.size+1+1) rfl rfl
 have f1:=HX2.out.free 2 1 (b:=w.heap.size+1+1) rfl rfl
 go_wp2
 have q:=ZD (HX2.out.block 2 (b:=w.heap.size+1+1) rfl rfl) (.string x) (.string y)
 have HBQ:=ZqH (Zy HB2.out (b:=w.heap.size+1+1) Za (.string x) (.string y))
 obtain⟨w9,hw9⟩:=ZqJ ((w2.setCell ⟨w.heap.size+1+1,0,none⟩ (.string x)).setCell ⟨w.heap.size+1+1,1,none⟩ (.string y))
 rw[hw9] at q HBQ
 obtain⟨q0,q1⟩:=q
 rw[hw9]
 clear r0 r1 f0 f1 hw9
 go_wp2
 refine ZpW (v:=.tuple #[ZqE x y,.int .i64 n]) (by simp[results,Tryz.f20,go_sem,q0,q1]) rfl ⟨_,_,_,rfl,?_,HBQ.out⟩
 exact HR.out
section
variable {P:Program} {ops:Array Oper} {Q:Exit->Act->World->Prop} {md:Region.Mode}
def ZdK (listed:Array Bool):Nat:=(listed.toList.filter fun b=>!b).length
theorem Zfh:∀ (l:List Bool) (i:Nat),l[i]?=some false->((l.set i true).filter fun b=>!b).length+1=(l.filter fun b=>!b).length
 | [],i,h=>by simp at h
 | b::l,0,h=>by
  simp at h;subst h;simp
 | b::l,i+1,h=>by
  have ih:=Zfh l i (by simpa using h)
  rw[List.set_cons_succ,List.filter_cons,List.filter_cons]
  cases b<;>simp<;>omega
theorem Zej {listed:Array Bool} {i:Nat} (h:listed.getD i true=false):ZdK (listed.setIfInBounds i true)+1=ZdK listed:=by
 unfold ZdK
 rw[Array.toList_setIfInBounds]
 refine Zfh _ i ?_
 rcases Zp1 i listed.size with h' | h'
 ·simp[h'] at h ⊢;exact h
 ·simp[Array.getD,Nat.not_lt.2 h'] at h
def ZeH (ops:Array Oper):Bool:=(List.range ops.size).all fun j=>match ops[j]? with | some o=>o.after.all fun e=>decide (e.on<j) | none=>true
theorem Zg3 (ho:ZeH ops=true) {listed:Array Bool} (hs:listed.size=ops.size) (h:Region.ready md ops listed=[]):∀ j,j<ops.size->listed.getD j false=true:=by
 intro j
 induction j using Nat.strongRecOn with
 | _ j ih=>
  intro hj
  cases hl:listed.getD j true with
  | true=>
   have:j<listed.size:=Za
   simp[this] at hl ⊢;exact hl
  | false=>
   exfalso
   have hm:j ∈ Region.ready md ops listed:=mem_ready.2 ⟨hl,ops[j],by simp[hj],fun e he _=>by
    unfold ZeH at ho
    rw[Zqw] at ho
    have h1:=ho j (List.mem_range.2 hj)
    rw[Array.getElem?_eq_getElem hj] at h1
    have h2:=Array.all_eq_true_iff_forall_mem.1 h1 e he
    have h3:e.on<j:=of_decide_eq_true h2
    exact ih e.on h3 Za⟩
   rw[h] at hm
   cases hm
theorem ZiD (Inv:Array Bool->Act->World->Prop) (ho:ZeH ops=true)
  (hstep:∀ (listed:Array Bool) (a:Act) (w:World) (i:Nat) (o:Oper),ops[i]?=some o->listed.size=ops.size->listed.getD i true=false->(∀ e ∈ o.after,Region.binds md e=true->listed.getD e.on false=true)->
   Inv listed a w->wpOp P ops Q i (Inv (listed.setIfInBounds i true)) a w)
  (hend:∀ (listed:Array Bool) (a:Act) (w:World),(∀ j,j<ops.size->listed.getD j false=true)->Inv listed a w->Q .normal a w) :
  ∀ (fuel:Nat) (listed:Array Bool) (a:Act) (w:World),ZdK listed<=fuel->listed.size=ops.size->Inv listed a w->wpAny P md ops Q fuel listed a w
 | 0,listed,a,w,hf,hs,hi=>by
  have hr:Region.ready md ops listed=[]:=by
   rcases h:Region.ready md ops listed with _ | ⟨i,r⟩
   ·rfl
   ·have:i ∈ Region.ready md ops listed:=by rw[h];exact List.mem_cons_self
    have:=Zej (mem_ready.1 this).1
    omega
  exact⟨hr,hend listed a w (Zg3 ho hs hr) hi⟩
 | fuel+1,listed,a,w,hf,hs,hi=>by
  refine⟨fun hr=>hend listed a w (Zg3 ho hs hr) hi,fun i him=>?_⟩
  obtain⟨h1,o,h2,h3⟩:=mem_ready.1 him
  refine wpOp_mono (fun a' w' h'=>ZiD Inv ho hstep hend fuel _ a' w' ?_ ?_ h') (hstep listed a w i o h2 hs h1 h3 hi)
  ·have:=Zej h1;omega
  ·rw[Array.size_setIfInBounds];exact hs
theorem ZiT {listed:Array Bool} {i:Nat} (h:listed.getD i true=false):(listed.setIfInBounds i true).getD i false=true:=by
 rcases Zp1 i listed.size with h' | h'
 ·simp[h']
 ·simp[Array.getD,Nat.not_lt.2 h'] at h
theorem Zii {listed:Array Bool} {i j:Nat} (h:j≠i):(listed.setIfInBounds i true).getD j false=listed.getD j false:=by
 rw[Array.getD_eq_getD_getElem?,Array.getD_eq_getD_getElem?,Array.getElem?_setIfInBounds_ne (Ne.symm h)]
theorem Zje {listed:Array Bool} {i j:Nat} (h:listed.getD i true=false):(listed.setIfInBounds i true).getD j false=true<->j=i\/listed.getD j false=true:=by
 by_cases hj:j=i
 ·subst hj;simp only[true_or,iff_true];exact ZiT h
 ·rw[Zii hj];simp[hj]
theorem Zhp {l:List Oper} {id:Nat} {a:Act} {w:World} (hm:P.follows .mixedOrders=true) (ho:ZeH l.toArray=true) (Inv:(Nat->Prop)->Act->World->Prop)
  (h0:Inv (fun _=>False) a w.drew)
  (hstep:∀ (L:Nat->Prop) (a:Act) (w:World) (i:Nat) (o:Oper),l[i]?=some o->¬ L i->(∀ (k:Nat) e,o.after[k]?=some e->Region.binds .any e=true->L e.on)->
   (∀ j o',l[j]?=some o'->L j->∀ (k:Nat) e,o'.after[k]?=some e->Region.binds .any e=true->L e.on)->Inv L a w->(if Region.wanted o (yielded l.toArray a.tmps) then o.wp P a w (Inv fun j=>j=i\/L j) Q else Inv (fun j=>j=i\/L j) (a.put o.dst undef) w))
  (hend:∀ (L:Nat->Prop) (a:Act) (w:World),(∀ j,j<l.length->L j)->Inv L a w->Q .normal a w):(Code.region id l.toArray true).wp P Q a w:=by
 refine wp_region_any hm (ZiD (fun listed a w=>∃ L:Nat->Prop,(∀ j,listed.getD j false=true<->L j)/\(∀ j o',l[j]?=some o'->L j->∀ e ∈ o'.after,Region.binds .any e=true->L e.on)/\Inv L a w) ho ?_ ?_ _ _ _ _ ?_ Zc ⟨_,fun j=>?_,fun _ _ _ h=>h.elim,h0⟩)
 ·rintro listed a w i o hi hs hl he ⟨L,hL,hC,hI⟩
  have h1:=hstep L a w i o (by simpa using hi) (by
   intro hc
   have:=(hL i).2 hc
   rcases Zp1 i listed.size with h' | h'
   ·simp[h'] at this hl;rw[this] at hl;cases hl
   ·simp[Array.getD,Nat.not_lt.2 h'] at hl) (fun k e he' hb=>(hL _).1 (he e (Array.mem_of_getElem? he') hb)) (fun j o' h1 h2 k e h3 h4=>hC j o' h1 h2 e (Array.mem_of_getElem? h3) h4) hI
  unfold wpOp
  simp only[hi]
  have hset:∀ j,(listed.setIfInBounds i true).getD j false=true<->(j=i\/L j):=fun j=>by rw[Zje hl,hL]
  have hC':∀ j o',l[j]?=some o'->(j=i\/L j)->∀ e ∈ o'.after,Region.binds .any e=true->(e.on=i\/L e.on):=fun j o' hj hd e he' hb=>by
   rcases hd with rfl | hd
   ·have:o'=o:=ZpZ (hj.symm.trans (by simpa using hi))
    subst this
    exact .inr ((hL _).1 (he e he' hb))
   ·exact .inr (hC j o' hj hd e he' hb)
  split at h1
  ·rename_i hw;simp only[hw,if_true];exact .inl (Oper.wp_mono (fun a' w' h'=>⟨_,hset,hC',h'⟩) h1)
  ·rename_i hw;simp only[hw];exact⟨_,hset,hC',h1⟩
 ·rintro listed a w hall ⟨L,hL,_,hI⟩
  exact hend L a w (fun j hj=>(hL j).1 (hall j (by simpa using hj))) hI
 ·unfold ZdK;simp
 ·simp[Array.getD]
theorem ZY {l:List Oper} {o:Oper} {a:Act} {w:World} {I:Act->World->Prop} {J:Prop} (hw:Region.wanted o (yielded l.toArray a.tmps)=true)
  (h:∀ K:Act->World->Prop,(∀ a' w',I a' w'->K a' w')->o.wp P a w K Q):if Region.wanted o (yielded l.toArray a.tmps) then o.wp P a w I Q else J:=by
 rw[if_pos hw]
 exact h I fun _ _ h=>h
end
end Go.Proofs.YtjmckebecpjjfaaGreatDoor
