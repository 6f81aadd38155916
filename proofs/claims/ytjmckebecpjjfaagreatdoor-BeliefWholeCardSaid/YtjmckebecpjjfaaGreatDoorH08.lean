/- The parts Does2, Size, Two, Ops, Inv. -/
import Derived.Test.YtjmckebecpjjfaaGreatDoorH07
set_option maxRecDepth 100000
set_option maxHeartbeats 4000000
set_option linter.unusedVariables false
set_option linter.unusedSimpArgs false
namespace Go.Proofs.YtjmckebecpjjfaaGreatDoor
open Go.RowKit Go.Shelf
attribute [local go_sem ↓] Go.wp_at_zero Go.wp_at_succ
theorem Zl6 {n m k l:Nat} (h1:(Zo 1000000000 n).length<=k) (h2:(Zo 1000000000 m).length<=l):(Zo 1000000000 (n+m)).length<=k+l+1:=by
 refine Zay Za ?_
 have a1:=ZW (ZK (B:=1000000000) Za n)
 have a2:=ZW (ZK (B:=1000000000) Za m)
 rw[ZI Za] at a1 a2
 have b1:(1000000000:Nat) ^ (Zo 1000000000 n).length<=1000000000 ^ (k+l):=Zm9 Za Za
 have b2:(1000000000:Nat) ^ (Zo 1000000000 m).length<=1000000000 ^ (k+l):=Zm9 Za Za
 rw[Znv]
 omega
theorem Zlj {v1 v2 v3 v4:Value} {n1 d1 n2 d2:Nat} {w:World} (h1:Num w v1 n1) (h2:Num w v2 d1) (h3:Num w v3 n2) (h4:Num w v4 d2)
  (l1:(Zo 1000000000 n1).length<=1000) (l2:(Zo 1000000000 d1).length<=1000) (l3:(Zo 1000000000 n2).length<=1000) (l4:(Zo 1000000000 d2).length<=1000) (hd1:0<d1) (hd2:0<d2) (hT:Tabs w) :
  Calls Tryz.prog 65 #[.agg #[v1,v2],.agg #[v3,v4]] w (Z9 (Ans (mkRat ((n1*d2+n2*d1:Nat):Int) (d1*d2))) w):=by
 obtain⟨p1,m1,c1,rfl⟩:=h1.form'
 obtain⟨p2,m2,c2,rfl⟩:=h2.form'
 obtain⟨p3,m3,c3,rfl⟩:=h3.form'
 obtain⟨p4,m4,c4,rfl⟩:=h4.form'
 have H1:=ZnK h1
 have H2:=ZnK h2
 have H3:=ZnK h3
 have H4:=ZnK h4
 have HT:=ZnK hT
 clear h1 h2 h3 h4 hT
 have M1:Hid ((Zo 1000000000 (n1*d2)).length<=2000):=Zm7 (Ze7 l1 l4) Za
 have M2:Hid ((Zo 1000000000 (n2*d1)).length<=2000):=Zm7 (Ze7 l3 l2) Za
 have K1:Hid ((Zo 1000000000 (n1*d2)).length<=100000):=Zm7 M1.out Za
 have K2:Hid ((Zo 1000000000 (n2*d1)).length<=100000):=Zm7 M2.out Za
 have HL1:Hid ((Zo 1000000000 (n1*d2+n2*d1)).length<=100000):=Zm7 (Zl6 M1.out M2.out) Za
 have HL2:Hid ((Zo 1000000000 (d1*d2)).length<=100000):=Zck l2 l4
 have HD:Hid (0<d1*d2):=Nat.mul_pos hd1 hd2
 go_enter Tryz.func65,Tryz.ntmps65
 go_wp2_with fail
 obtain⟨w1,hw1⟩:=ZnM (((w.alloc (.cells #[.slice p1 m1 c1,.slice p2 m2 c2] 107)).alloc (.cells #[.slice p3 m3 c3,.slice p4 m4 c4] 107)).alloc (ZnI ZnG ZnG))
 rw[hw1]
 have HX1:Hid (Zs w.heap.size [.cells #[.slice p1 m1 c1,.slice p2 m2 c2] 107,.cells #[.slice p3 m3 c3,.slice p4 m4 c4] 107,ZnI ZnG ZnG] w1):=by rw[<- hw1];exact Zs.three w _ _ _
 have HB1:ZnE w w1:=by rw[<- hw1];exact(((ZmY _ w).alloc ZnL _).alloc Zc _).alloc (by simp<;>omega) _
 clear hw1
 have k1:=HX1.out.f4
 obtain⟨ka1,kb1,kc1,kd1⟩:=id k1
 go_region_held3
  (fun w'=>w'.cell? ⟨w.heap.size,0,none⟩=some (.slice p1 m1 c1)/\w'.cell? ⟨w.heap.size,1,none⟩=some (.slice p2 m2 c2)/\w'.cell? ⟨w.heap.size+1,0,none⟩=some (.slice p3 m3 c3)/\w'.cell? ⟨w.heap.size+1,1,none⟩=some (.slice p4 m4 c4))
  (first | exact k1 | exact k2 | exact k3 | exact k4 | exact k5 | exact k6 | exact ZfO Za Za k9 _ _ | exact k9)
  (first
   | (go_at_call_of 48 (Value.slice p1 m1 c1);refine(ZaW (H1.out.after HB1.out.drew ZnL) (H4.out.after HB1.out.drew ZnL) l1 l4).mono ?_;rintro e w2 ⟨va,rfl,hv,hb⟩;obtain⟨pa,ma,ca,rfl⟩:=hv.form';have HA:=ZnK hv;have HX2:=ZnK (HX1.out.drew.below hb HX1.out.lt);have HB2:ZnE w w2:=HB1.out.drew.trans (hb.mono HB1.out.drew.size);have k2:=HX2.out.f4;clear hv hb)
   | (go_at_call_of 48 (Value.slice p3 m3 c3);refine(ZaW (H3.out.after HB2.out ZnL) (H2.out.after HB2.out ZnL) l3 l2).mono ?_;rintro e w3 ⟨vb,rfl,hv,hb⟩;obtain⟨pb,mb,cb,rfl⟩:=hv.form';have HC:=ZnK hv;have HA3:=ZnK (HA.out.after hb ZnL);have HX3:=ZnK (HX2.out.below hb HX2.out.lt);have HB3:ZnE w w3:=HB2.out.trans (hb.mono HB2.out.size);have k3:=HX3.out.f4;clear hv hb)
   | (go_at_call_of 66 (Value.slice pa ma ca);refine(ZlJ HA3.out HC.out K1.out K2.out).mono ?_;rintro e w4 ⟨vs,rfl,hv,hb⟩;obtain⟨ps,ms,cs,rfl⟩:=hv.form';have HS:=ZnK hv;have HX4:=ZnK (HX3.out.below hb HX3.out.lt);have HB4:ZnE w w4:=HB3.out.trans (hb.mono HB3.out.size);have k4:=HX4.out.f4;clear hv hb)
   | (go_at_call_of 48 (Value.slice p2 m2 c2);refine(ZaW (H2.out.after HB4.out ZnL) (H4.out.after HB4.out ZnL) l2 l4).mono ?_;rintro e w5 ⟨vd,rfl,hv,hb⟩;obtain⟨pd,md,cd,rfl⟩:=hv.form';have HE:=ZnK hv;have HS5:=ZnK (HS.out.after hb ZnL);have HX5:=ZnK (HX4.out.below hb HX4.out.lt);have HB5:ZnE w w5:=HB4.out.trans (hb.mono HB4.out.size);have k5:=HX5.out.f4;clear hv hb)
   | (go_at_call 55;refine(ZdF HS5.out HE.out HL1.out HL2.out HD.out (HT.out.below HB5.out ZnL)).mono ?_;rintro e w9 ⟨x,y,n,rfl,hR,hb9⟩;have HR:=ZnK hR;have HX9:=ZnK (HX5.out.below hb9 HX5.out.lt);have HB9:ZnE w w9:=HB5.out.trans (hb9.mono HB5.out.size);have k9:=HX9.out.f4;have r0:=HX9.out.cell 2 0 (b:=w.heap.size+1+1) rfl rfl rfl;have r1:=HX9.out.cell 2 1 (b:=w.heap.size+1+1) rfl rfl rfl;have f0:=HX9.out.free 2 0 (b:=w.heap.size+1+1) rfl rfl;have f1:=HX9.out.free 2 1 (b:=w.heap.size+1+1) rfl rfl;clear hR hb9)
  )
 all_goals
  have q:=Zz (HX9.out.block 2 (b:=w.heap.size+1+1) rfl rfl) (.string x) (.string y)
  have HBQ:=ZnK (Zv HB9.out (b:=w.heap.size+1+1) Za (.string x) (.string y))
  obtain⟨wz,hwz⟩:=ZnM ((w9.setCell ⟨w.heap.size+1+1,0,none⟩ (.string x)).setCell ⟨w.heap.size+1+1,1,none⟩ (.string y))
  rw[hwz] at q HBQ
  obtain⟨q0,q1⟩:=q
  rw[hwz]
  clear r0 r1 f0 f1 hwz
  go_wp2
  refine ZmZ (v:=.tuple #[ZnH x y,.int .i64 n]) (by simp[results,Tryz.f65,go_sem,q0,q1]) rfl ⟨_,_,_,rfl,HR.out,HBQ.out⟩
end Go.Proofs.YtjmckebecpjjfaaGreatDoor
namespace Go.Proofs.YtjmckebecpjjfaaGreatDoor
open Go.Lib
theorem Zjv {a b:Rat} (ha:0<=a) (hb:0<=b):0<=a/b:=by
 rcases Rat.le_iff_lt_or_eq.1 hb with h | h
 ·rw[Rat.div_def];exact Rat.mul_nonneg ha (Rat.le_of_lt (Rat.inv_pos.2 h))
 ·rw[<- h,Rat.div_def,Rat.inv_zero,Rat.mul_zero];exact Rat.le_refl
end Go.Proofs.YtjmckebecpjjfaaGreatDoor
namespace Go.Proofs.YtjmckebecpjjfaaGreatDoor
open Go.RowKit Go.Shelf
attribute [local go_sem ↓] Go.wp_at_zero Go.wp_at_succ
def Bi (s t u v:ByteArray) (R:ByteArray->ByteArray->Int->Prop) (x y:ByteArray) (e:Int):Prop:=
 ((okP s t && okP u v)=false/\x=str []/\y=str []/\e=2)\/((okP s t && okP u v)=true/\R x y e)
theorem ZaZ {s t:ByteArray} (h:okP s t=true):(∀ c ∈ s.data.toList,ZM c=true)/\(∀ c ∈ t.data.toList,ZM c=true)/\s.size<=1000000/\t.size<=1000000/\
  (Zo 1000000000 (Zp s.data.toList)).length<=1000/\(Zo 1000000000 (Zp t.data.toList)).length<=1000/\0<Zp t.data.toList:=by
 obtain⟨h1,h2,h3,h4⟩:=Zer.1 h
 obtain⟨c1,l1⟩:=Z3 h1
 obtain⟨c2,l2⟩:=Z3 h2
 rw[ZE] at l1 l2
 exact⟨c1.dig,c2.dig,Za,Za,Zm7 (Zbw c1.dig (j:=70) Za) Za,Zm7 (Zbw c2.dig (j:=70) Za) Za,h3⟩
theorem Zgo {F:Nat} (hent:∀ args w,(callFunc F args).run Tryz.prog w=.ok (.enter F args) w) {R:ByteArray->ByteArray->Int->Prop} (s t u v:ByteArray) (w:World) (hs:s.size<=1000000) (ht:t.size<=1000000) (hu:u.size<=1000000) (hv:v.size<=1000000) (hT:Tabs w)
  (hc:okP s t=true->okP u v=true->∀ (v1 v2 v3 v4:Value) (W:World),Num W v1 (Zp s.data.toList)->Num W v2 (Zp t.data.toList)->Num W v3 (Zp u.data.toList)->Num W v4 (Zp v.data.toList)->Tabs W->Calls Tryz.prog F #[.agg #[v1,v2],.agg #[v3,v4]] W (Z9 R W)) :
  Calls Tryz.prog 53 #[ZnH s t,ZnH u v,.func (.func F) #[] #[]] w (Z9 (Bi s t u v R) w):=by
 have HT:=ZnK hT
 have HCC:=ZnK hc
 clear hT hc
 go_enter Tryz.func53,Tryz.ntmps53
 go_wp2_with fail
 obtain⟨w1,hw1⟩:=ZnM (((w.alloc (ZnI s t)).alloc (ZnI u v)).alloc (ZnI ZnG ZnG))
 rw[hw1]
 have HX1:Hid (Zs w.heap.size [ZnI s t,ZnI u v,ZnI ZnG ZnG] w1):=by rw[<- hw1];exact Zs.three w _ _ _
 have HB1:ZnE w w1:=by rw[<- hw1];exact(((ZmY _ w).alloc ZnL _).alloc Zc _).alloc (by simp<;>omega) _
 clear hw1
 refine(ZaJ s t _ hs ht).mono ?_
 rintro e w2 ⟨rfl,hb2⟩
 have HX2:=ZnK (HX1.out.below hb2 HX1.out.lt)
 have HB2:=ZnK (HB1.out.trans (hb2.mono HB1.out.size))
 clear hb2
 cases h1:okP s t
 ·have H1:Hid ((okP s t && okP u v)=false):=by show _=_;rw[h1];rfl
  rw[Zbr h1]
  clear h1
  have r0:=HX2.out.cell 2 0 (b:=w.heap.size+1+1) rfl rfl rfl
  have r1:=HX2.out.cell 2 1 (b:=w.heap.size+1+1) rfl rfl rfl
  have f0:=HX2.out.free 2 0 (b:=w.heap.size+1+1) rfl rfl
  have f1:=HX2.out.free 2 1 (b:=w.heap.size+1+1) rfl rfl
  go_wp2
  have q:=Zz (HX2.out.block 2 (b:=w.heap.size+1+1) rfl rfl) (.string ZnG) (.string ZnG)
  have HBQ:=ZnK (Zv HB2.out (b:=w.heap.size+1+1) Za (.string ZnG) (.string ZnG))
  obtain⟨w9,hw9⟩:=ZnM ((w2.setCell ⟨w.heap.size+1+1,0,none⟩ (.string ZnG)).setCell ⟨w.heap.size+1+1,1,none⟩ (.string ZnG))
  rw[hw9] at q HBQ
  obtain⟨q0,q1⟩:=q
  rw[hw9]
  clear r0 r1 f0 f1 hw9
  go_wp2
  refine ZmZ (v:=.tuple #[ZnH ZnG ZnG,.int .i64 2]) (by simp[results,Tryz.f53,go_sem,q0,q1]) rfl ⟨_,_,_,rfl,?_,HBQ.out⟩
  exact .inl ⟨H1.out,rfl,rfl,rfl⟩
 have H1:=ZnK h1
 rw[ZbX h1]
 clear h1
 have kc2:=HX2.out.cell 1 0 (b:=w.heap.size+1) rfl rfl rfl
 have kd2:=HX2.out.cell 1 1 (b:=w.heap.size+1) rfl rfl rfl
 go_wp2_with fail
 refine(ZaJ u v _ hu hv).mono ?_
 rintro e w3 ⟨rfl,hb3⟩
 have HX3:=ZnK (HX2.out.below hb3 HX2.out.lt)
 have HB3:=ZnK (HB2.out.trans (hb3.mono HB2.out.size))
 clear hb3 kc2 kd2
 cases h2:okP u v
 ·have H2:Hid ((okP s t && okP u v)=false):=by show _=_;rw[h2,Bool.and_false]
  rw[Zbr h2]
  clear h2
  have r0:=HX3.out.cell 2 0 (b:=w.heap.size+1+1) rfl rfl rfl
  have r1:=HX3.out.cell 2 1 (b:=w.heap.size+1+1) rfl rfl rfl
  have f0:=HX3.out.free 2 0 (b:=w.heap.size+1+1) rfl rfl
  have f1:=HX3.out.free 2 1 (b:=w.heap.size+1+1) rfl rfl
  go_wp2
  have q:=Zz (HX3.out.block 2 (b:=w.heap.size+1+1) rfl rfl) (.string ZnG) (.string ZnG)
  have HBQ:=ZnK (Zv HB3.out (b:=w.heap.size+1+1) Za (.string ZnG) (.string ZnG))
  obtain⟨w9,hw9⟩:=ZnM ((w3.setCell ⟨w.heap.size+1+1,0,none⟩ (.string ZnG)).setCell ⟨w.heap.size+1+1,1,none⟩ (.string ZnG))
  rw[hw9] at q HBQ
  obtain⟨q0,q1⟩:=q
  rw[hw9]
  clear r0 r1 f0 f1 hw9
  go_wp2
  refine ZmZ (v:=.tuple #[ZnH ZnG ZnG,.int .i64 2]) (by simp[results,Tryz.f53,go_sem,q0,q1]) rfl ⟨_,_,_,rfl,?_,HBQ.out⟩
  exact .inl ⟨H2.out,rfl,rfl,rfl⟩
 have HQ:Hid ((okP s t && okP u v)=true):=by show _=_;rw[H1.out,h2];rfl
 have HC:=ZnK (HCC.out H1.out h2)
 obtain⟨g1,g2,_⟩:=ZaZ H1.out
 obtain⟨g3,g4,_⟩:=ZaZ h2
 have HG:=ZnK (ZnB g1 (ZnB g2 (ZnB g3 g4)))
 rw[ZbX h2]
 clear h2 HCC H1 g1 g2 g3 g4
 have k3:=HX3.out.f4
 obtain⟨ka3,kb3,kc3,kd3⟩:=id k3
 go_wp2_with fail
 go_region_held3
  (fun w'=>w'.cell? ⟨w.heap.size,0,none⟩=some (.string s)/\w'.cell? ⟨w.heap.size,1,none⟩=some (.string t)/\w'.cell? ⟨w.heap.size+1,0,none⟩=some (.string u)/\w'.cell? ⟨w.heap.size+1,1,none⟩=some (.string v))
  (first | exact k3 | exact k4 | exact k5 | exact ZfO Za Za k9 _ _ | exact k9)
  (first
   | (go_at_call_of 47 (Value.agg #[.string s,.string t]);refine(Zct s t hs ht HG.out.1 HG.out.2.1 _).mono ?_;rintro e w4 ⟨va,vb,rfl,hva,hvb,hb⟩;obtain⟨p4,m4,c4,rfl⟩:=hva.form';obtain⟨q4,n4,d4,rfl⟩:=hvb.form';have HA:=ZnK hva;have HD:=ZnK hvb;have HX4:=ZnK (HX3.out.drew.below hb HX3.out.lt);have HB4:ZnE w w4:=HB3.out.drew.trans (hb.mono HB3.out.drew.size);have k4:=HX4.out.f4;clear hva hvb hb)
   | (go_at_call_of 47 (Value.agg #[.string u,.string v]);refine(Zct u v hu hv HG.out.2.2.1 HG.out.2.2.2 _).mono ?_;rintro e w5 ⟨vc,vd,rfl,hva,hvb,hb⟩;obtain⟨p5,m5,c5,rfl⟩:=hva.form';obtain⟨q5,n5,d5,rfl⟩:=hvb.form';have HE:=ZnK hva;have HF:=ZnK hvb;have HA5:=ZnK (HA.out.after hb ZnL);have HC5:=ZnK (HD.out.after hb ZnL);have HX5:=ZnK (HX4.out.below hb HX4.out.lt);have HB5:ZnE w w5:=HB4.out.trans (hb.mono HB4.out.size);have k5:=HX5.out.f4;clear hva hvb hb)
   | (refine(HC.out _ _ _ _ _ HA5.out HC5.out HE.out HF.out (HT.out.below HB5.out ZnL)).mono ?_;rintro e w9 ⟨x,y,n,rfl,hR,hb9⟩;have HR:=ZnK hR;have HX9:=ZnK (HX5.out.below hb9 HX5.out.lt);have HB9:ZnE w w9:=HB5.out.trans (hb9.mono HB5.out.size);have k9:=HX9.out.f4;have r0:=HX9.out.cell 2 0 (b:=w.heap.size+1+1) rfl rfl rfl;have r1:=HX9.out.cell 2 1 (b:=w.heap.size+1+1) rfl rfl rfl;have f0:=HX9.out.free 2 0 (b:=w.heap.size+1+1) rfl rfl;have f1:=HX9.out.free 2 1 (b:=w.heap.size+1+1) rfl rfl;clear hR hb9)
  )
 all_goals
  have q:=Zz (HX9.out.block 2 (b:=w.heap.size+1+1) rfl rfl) (.string x) (.string y)
  have HBQ:=ZnK (Zv HB9.out (b:=w.heap.size+1+1) Za (.string x) (.string y))
  obtain⟨wz,hwz⟩:=ZnM ((w9.setCell ⟨w.heap.size+1+1,0,none⟩ (.string x)).setCell ⟨w.heap.size+1+1,1,none⟩ (.string y))
  rw[hwz] at q HBQ
  obtain⟨q0,q1⟩:=q
  rw[hwz]
  clear r0 r1 f0 f1 hwz
  go_wp2
  refine ZmZ (v:=.tuple #[ZnH x y,.int .i64 n]) (by simp[results,Tryz.f53,go_sem,q0,q1]) rfl ⟨_,_,_,rfl,.inr ⟨HQ.out,HR.out⟩,HBQ.out⟩
theorem Zl7 (s t u v:ByteArray) (w:World) (hs:s.size<=1000000) (ht:t.size<=1000000) (hu:u.size<=1000000) (hv:v.size<=1000000) (hT:Tabs w) :
  Calls Tryz.prog 53 #[ZnH s t,ZnH u v,.func (.func 67) #[] #[]] w (Z9 (Bi s t u v (Ans (mkRat ((Zp s.data.toList*Zp u.data.toList:Nat):Int) (Zp t.data.toList*Zp v.data.toList)))) w):=
 Zgo (enters_of Tryz.func67 Zb rfl) s t u v w hs ht hu hv hT fun h1 h2 v1 v2 v3 v4 W a b c d hT=>by
  obtain⟨_,_,_,_,l1,l2,d1⟩:=ZaZ h1
  obtain⟨_,_,_,_,l3,l4,d2⟩:=ZaZ h2
  exact Zla a b c d l1 l2 l3 l4 d1 d2 hT
theorem Zmj (s t u v:ByteArray) (w:World) (hs:s.size<=1000000) (ht:t.size<=1000000) (hu:u.size<=1000000) (hv:v.size<=1000000) (hT:Tabs w) :
  Calls Tryz.prog 53 #[ZnH s t,ZnH u v,.func (.func 65) #[] #[]] w (Z9 (Bi s t u v (Ans (mkRat ((Zp s.data.toList*Zp v.data.toList+Zp u.data.toList*Zp t.data.toList:Nat):Int) (Zp t.data.toList*Zp v.data.toList)))) w):=
 Zgo (enters_of Tryz.func65 Zb rfl) s t u v w hs ht hu hv hT fun h1 h2 v1 v2 v3 v4 W a b c d hT=>by
  obtain⟨_,_,_,_,l1,l2,d1⟩:=ZaZ h1
  obtain⟨_,_,_,_,l3,l4,d2⟩:=ZaZ h2
  exact Zlj a b c d l1 l2 l3 l4 d1 d2 hT
def DivR (n1 d1 n2 d2:Nat) (s t:ByteArray) (e:Int):Prop:=
 (n2=0/\s=str []/\t=str []/\e=10)\/(0<n2/\Ans (mkRat ((n1*d2:Nat):Int) (d1*n2)) s t e)
theorem Zk2 {v1 v2 v3 v4:Value} {n1 d1 n2 d2:Nat} {w:World} (h1:Num w v1 n1) (h2:Num w v2 d1) (h3:Num w v3 n2) (h4:Num w v4 d2)
  (l1:(Zo 1000000000 n1).length<=1000) (l2:(Zo 1000000000 d1).length<=1000) (l3:(Zo 1000000000 n2).length<=1000) (l4:(Zo 1000000000 d2).length<=1000) (hd1:0<d1) (hd2:0<d2) (hT:Tabs w) :
  Calls Tryz.prog 54 #[.agg #[v1,v2],.agg #[v3,v4]] w (Z9 (DivR n1 d1 n2 d2) w):=by
 rcases Znd n2 with h0 | h0
 ·refine(Zke h1 h2 h3 h4 l1 l2 l3 l4 hd1 hd2 hT h0).mono ?_
  rintro e w' ⟨s,t,n,rfl,hr,hb⟩
  exact⟨s,t,n,rfl,.inl ⟨h0,hr⟩,hb⟩
 ·refine(Zli h1 h2 h3 h4 l1 l2 l3 l4 hd1 hd2 hT h0).mono ?_
  rintro e w' ⟨s,t,n,rfl,hr,hb⟩
  exact⟨s,t,n,rfl,.inr ⟨h0,hr⟩,hb⟩
theorem Zmc (s t u v:ByteArray) (w:World) (hs:s.size<=1000000) (ht:t.size<=1000000) (hu:u.size<=1000000) (hv:v.size<=1000000) (hT:Tabs w) :
  Calls Tryz.prog 53 #[ZnH s t,ZnH u v,.func (.func 54) #[] #[]] w (Z9 (Bi s t u v (DivR (Zp s.data.toList) (Zp t.data.toList) (Zp u.data.toList) (Zp v.data.toList))) w):=
 Zgo (enters_of Tryz.func54 Zb rfl) s t u v w hs ht hu hv hT fun h1 h2 v1 v2 v3 v4 W a b c d hT=>by
  obtain⟨_,_,_,_,l1,l2,d1⟩:=ZaZ h1
  obtain⟨_,_,_,_,l3,l4,d2⟩:=ZaZ h2
  exact Zk2 a b c d l1 l2 l3 l4 d1 d2 hT
def DivA (a b:Rat) (x y:ByteArray) (e:Int):Prop:=(b=0/\x=str []/\y=str []/\e=10)\/(0<b/\Ans (a/b) x y e)
theorem ZbV {s t:ByteArray} (h:okP s t=true):0<=ratP s t/\Zp s.data.toList=(ratP s t).num.toNat/\Zp t.data.toList=(ratP s t).den:=
 ⟨(ZbS h).nn,(ZbS h).vals.1,(ZbS h).vals.2⟩
theorem Bi.mono {s t u v x y:ByteArray} {e:Int} {R R':ByteArray->ByteArray->Int->Prop} (h:Bi s t u v R x y e) (f:okP s t=true->okP u v=true->R x y e->R' x y e):Bi s t u v R' x y e:=by
 rcases h with h | ⟨h1,h2⟩
 ·exact .inl h
 ·rw[Znw] at h1
  exact .inr ⟨by rw[Znw];exact h1,f h1.1 h1.2 h2⟩
theorem ZmD {s t u v x y:ByteArray} {e:Int} (h:Bi s t u v (Ans (mkRat ((Zp s.data.toList*Zp u.data.toList:Nat):Int) (Zp t.data.toList*Zp v.data.toList))) x y e):Bi s t u v (Ans (ratP s t*ratP u v)) x y e:=
 h.mono fun h1 h2 h3=>by
  obtain⟨a1,a2,a3⟩:=ZbV h1
  obtain⟨b1,b2,b3⟩:=ZbV h2
  rw[Zmx a1 b1,<- a2,<- a3,<- b2,<- b3];exact h3
theorem Zmz {s t u v x y:ByteArray} {e:Int} (h:Bi s t u v (Ans (mkRat ((Zp s.data.toList*Zp v.data.toList+Zp u.data.toList*Zp t.data.toList:Nat):Int) (Zp t.data.toList*Zp v.data.toList))) x y e):Bi s t u v (Ans (ratP s t+ratP u v)) x y e:=
 h.mono fun h1 h2 h3=>by
  obtain⟨a1,a2,a3⟩:=ZbV h1
  obtain⟨b1,b2,b3⟩:=ZbV h2
  rw[ZmG a1 b1,<- a2,<- a3,<- b2,<- b3];exact h3
theorem ZmK {s t u v x y:ByteArray} {e:Int} (h:Bi s t u v (DivR (Zp s.data.toList) (Zp t.data.toList) (Zp u.data.toList) (Zp v.data.toList)) x y e):Bi s t u v (DivA (ratP s t) (ratP u v)) x y e:=
 h.mono fun h1 h2 h3=>by
  obtain⟨a1,a2,a3⟩:=ZbV h1
  obtain⟨b1,b2,b3⟩:=ZbV h2
  unfold DivR at h3
  rw[a2,a3,b2,b3] at h3
  rcases h3 with ⟨k,h3⟩ | ⟨k,h3⟩
  ·refine .inl ⟨?_,h3⟩
   have h4:=Z4 b1
   rw[k] at h4
   exact Rat.num_eq_zero.1 h4.symm
  ·have hk:0<ratP u v:=by
    refine Rat.lt_of_le_of_ne b1 fun h0=>?_
    rw[<- h0] at k
    exact ZnA k Zd
   exact .inr ⟨hk,by rw[Zmt a1 hk];exact h3⟩
theorem Zey (s t u v:ByteArray) (w:World) (hs:s.size<=1000000) (ht:t.size<=1000000) (hu:u.size<=1000000) (hv:v.size<=1000000) (hT:Tabs w) :
  Calls Tryz.prog 24 #[ZnH s t,ZnH u v] w (Z9 (Bi s t u v (Ans (ratP s t*ratP u v))) w):=by
 have HT:=ZnK hT
 clear hT
 go_enter Tryz.func24,Tryz.ntmps24
 go_wp2_with fail
 obtain⟨w1,hw1⟩:=ZnM (((w.alloc (ZnI s t)).alloc (ZnI u v)).alloc (ZnI ZnG ZnG))
 rw[hw1]
 have HX1:Hid (Zs w.heap.size [ZnI s t,ZnI u v,ZnI ZnG ZnG] w1):=by rw[<- hw1];exact Zs.three w _ _ _
 have HB1:ZnE w w1:=by rw[<- hw1];exact(((ZmY _ w).alloc ZnL _).alloc Zc _).alloc (by simp<;>omega) _
 clear hw1
 refine(Zl7 s t u v _ hs ht hu hv (HT.out.below HB1.out ZnL)).mono ?_
 rintro e w2 ⟨x,y,n,rfl,hR,hb2⟩
 have HR:=ZnK (ZmD hR)
 have HX2:=ZnK (HX1.out.below hb2 HX1.out.lt)
 have HB2:=ZnK (HB1.out.trans (hb2.mono HB1.out.size))
 clear hR hb2
 have r0:=HX2.out.cell 2 0 (b:=w.heap.size+1+1) rfl rfl rfl
 have r1:=HX2.out.cell 2 1 (b:=w.heap.size+1+1) rfl rfl rfl
 have f0:=HX2.out.free 2 0 (b:=w.heap.size+1+1) rfl rfl
 have f1:=HX2.out.free 2 1 (b:=w.heap.size+1+1) rfl rfl
 go_wp2
 have q:=Zz (HX2.out.block 2 (b:=w.heap.size+1+1) rfl rfl) (.string x) (.string y)
 have HBQ:=ZnK (Zv HB2.out (b:=w.heap.size+1+1) Za (.string x) (.string y))
 obtain⟨w9,hw9⟩:=ZnM ((w2.setCell ⟨w.heap.size+1+1,0,none⟩ (.string x)).setCell ⟨w.heap.size+1+1,1,none⟩ (.string y))
 rw[hw9] at q HBQ
 obtain⟨q0,q1⟩:=q
 rw[hw9]
 clear r0 r1 f0 f1 hw9
 go_wp2
 refine ZmZ (v:=.tuple #[ZnH x y,.int .i64 n]) (by simp[results,Tryz.f24,go_sem,q0,q1]) rfl ⟨_,_,_,rfl,?_,HBQ.out⟩
 exact HR.out
theorem Zdf (s t u v:ByteArray) (w:World) (hs:s.size<=1000000) (ht:t.size<=1000000) (hu:u.size<=1000000) (hv:v.size<=1000000) (hT:Tabs w) :
  Calls Tryz.prog 23 #[ZnH s t,ZnH u v] w (Z9 (Bi s t u v (Ans (ratP s t+ratP u v))) w):=by
 have HT:=ZnK hT
 clear hT
 go_enter Tryz.func23,Tryz.ntmps23
 go_wp2_with fail
 obtain⟨w1,hw1⟩:=ZnM (((w.alloc (ZnI s t)).alloc (ZnI u v)).alloc (ZnI ZnG ZnG))
 rw[hw1]
 have HX1:Hid (Zs w.heap.size [ZnI s t,ZnI u v,ZnI ZnG ZnG] w1):=by rw[<- hw1];exact Zs.three w _ _ _
 have HB1:ZnE w w1:=by rw[<- hw1];exact(((ZmY _ w).alloc ZnL _).alloc Zc _).alloc (by simp<;>omega) _
 clear hw1
 refine(Zmj s t u v _ hs ht hu hv (HT.out.below HB1.out ZnL)).mono ?_
 rintro e w2 ⟨x,y,n,rfl,hR,hb2⟩
 have HR:=ZnK (Zmz hR)
 have HX2:=ZnK (HX1.out.below hb2 HX1.out.lt)
 have HB2:=ZnK (HB1.out.trans (hb2.mono HB1.out.size))
 clear hR hb2
 have r0:=HX2.out.cell 2 0 (b:=w.heap.size+1+1) rfl rfl rfl
 have r1:=HX2.out.cell 2 1 (b:=w.heap.size+1+1) rfl rfl rfl
 have f0:=HX2.out.free 2 0 (b:=w.heap.size+1+1) rfl rfl
 have f1:=HX2.out.free 2 1 (b:=w.heap.size+1+1) rfl rfl
 go_wp2
 have q:=Zz (HX2.out.block 2 (b:=w.heap.size+1+1) rfl rfl) (.string x) (.string y)
 have HBQ:=ZnK (Zv HB2.out (b:=w.heap.size+1+1) Za (.string x) (.string y))
 obtain⟨w9,hw9⟩:=ZnM ((w2.setCell ⟨w.heap.size+1+1,0,none⟩ (.string x)).setCell ⟨w.heap.size+1+1,1,none⟩ (.string y))
 rw[hw9] at q HBQ
 obtain⟨q0,q1⟩:=q
 rw[hw9]
 clear r0 r1 f0 f1 hw9
 go_wp2
 refine ZmZ (v:=.tuple #[ZnH x y,.int .i64 n]) (by simp[results,Tryz.f23,go_sem,q0,q1]) rfl ⟨_,_,_,rfl,?_,HBQ.out⟩
 exact HR.out
theorem ZiL (s t u v:ByteArray) (w:World) (hs:s.size<=1000000) (ht:t.size<=1000000) (hu:u.size<=1000000) (hv:v.size<=1000000) (hT:Tabs w) :
  Calls Tryz.prog 20 #[ZnH s t,ZnH u v] w (Z9 (Bi s t u v (DivA (ratP s t) (ratP u v))) w):=by
 have HT:=ZnK hT
 clear hT
 go_enter Tryz.func20,Tryz.ntmps20
 go_wp2_with fail
 obtain⟨w1,hw1⟩:=ZnM (((w.alloc (ZnI s t)).alloc (ZnI u v)).alloc (ZnI ZnG ZnG))
 rw[hw1]
 have HX1:Hid (Zs w.heap.size [ZnI s t,ZnI u v,ZnI ZnG ZnG] w1):=by rw[<- hw1];exact Zs.three w _ _ _
 have HB1:ZnE w w1:=by rw[<- hw1];exact(((ZmY _ w).alloc ZnL _).alloc Zc _).alloc (by simp<;>omega) _
 clear hw1
 refine(Zmc s t u v _ hs ht hu hv (HT.out.below HB1.out ZnL)).mono ?_
 rintro e w2 ⟨x,y,n,rfl,hR,hb2⟩
 have HR:=ZnK (ZmK hR)
 have HX2:=ZnK (HX1.out.below hb2 HX1.out.lt)
 have HB2:=ZnK (HB1.out.trans (hb2.mono HB1.out.size))
 clear hR hb2
 have r0:=HX2.out.cell 2 0 (b:=w.heap.size+1+1) rfl rfl rfl
 have r1:=HX2.out.cell 2 1 (b:=w.heap.size+1+1) rfl rfl rfl
 have f0:=HX2.out.free 2 0 (b:=w.heap.size+1+1) rfl rfl
 have f1:=HX2.out.free 2 1 (b:=w.heap.size+1+1) rfl rfl
 go_wp2
 have q:=Zz (HX2.out.block 2 (b:=w.heap.size+1+1) rfl rfl) (.string x) (.string y)
 have HBQ:=ZnK (Zv HB2.out (b:=w.heap.size+1+1) Za (.string x) (.string y))
 obtain⟨w9,hw9⟩:=ZnM ((w2.setCell ⟨w.heap.size+1+1,0,none⟩ (.string x)).setCell ⟨w.heap.size+1+1,1,none⟩ (.string y))
 rw[hw9] at q HBQ
 obtain⟨q0,q1⟩:=q
 rw[hw9]
 clear r0 r1 f0 f1 hw9
 go_wp2
 refine ZmZ (v:=.tuple #[ZnH x y,.int .i64 n]) (by simp[results,Tryz.f20,go_sem,q0,q1]) rfl ⟨_,_,_,rfl,?_,HBQ.out⟩
 exact HR.out
section
variable {P:Program} {ops:Array Oper} {Q:Exit->Act->World->Prop} {md:Region.Mode}
def ZcS (listed:Array Bool):Nat:=(listed.toList.filter fun b=>!b).length
theorem Zd2:∀ (l:List Bool) (i:Nat),l[i]?=some false->((l.set i true).filter fun b=>!b).length+1=(l.filter fun b=>!b).length
 | [],i,h=>by simp at h
 | b::l,0,h=>by
  simp at h;subst h;simp
 | b::l,i+1,h=>by
  have ih:=Zd2 l i (by simpa using h)
  rw[List.set_cons_succ,List.filter_cons,List.filter_cons]
  cases b<;>simp<;>omega
theorem Zdh {listed:Array Bool} {i:Nat} (h:listed.getD i true=false):ZcS (listed.setIfInBounds i true)+1=ZcS listed:=by
 unfold ZcS
 rw[Array.toList_setIfInBounds]
 refine Zd2 _ i ?_
 rcases Zm4 i listed.size with h' | h'
 ·simp[h'] at h ⊢;exact h
 ·simp[Array.getD,Nat.not_lt.2 h'] at h
def Zdz (ops:Array Oper):Bool:=(List.range ops.size).all fun j=>match ops[j]? with | some o=>o.after.all fun e=>decide (e.on<j) | none=>true
theorem Zfr (ho:Zdz ops=true) {listed:Array Bool} (hs:listed.size=ops.size) (h:Region.ready md ops listed=[]):∀ j,j<ops.size->listed.getD j false=true:=by
 intro j
 induction j using Nat.strongRecOn with
 | _ j ih=>
  intro hj
  cases hl:listed.getD j true with
  | true=>
   have:j<listed.size:=Za
   simp[this] at hl ⊢;exact hl
  | false=>
   exfalso
   have hm:j ∈ Region.ready md ops listed:=mem_ready.2 ⟨hl,ops[j],by simp[hj],fun e he _=>by
    unfold Zdz at ho
    rw[Znz] at ho
    have h1:=ho j (List.mem_range.2 hj)
    rw[Array.getElem?_eq_getElem hj] at h1
    have h2:=Array.all_eq_true_iff_forall_mem.1 h1 e he
    have h3:e.on<j:=of_decide_eq_true h2
    exact ih e.on h3 Za⟩
   rw[h] at hm
   cases hm
theorem ZgH (Inv:Array Bool->Act->World->Prop) (ho:Zdz ops=true)
  (hstep:∀ (listed:Array Bool) (a:Act) (w:World) (i:Nat) (o:Oper),ops[i]?=some o->listed.size=ops.size->listed.getD i true=false->(∀ e ∈ o.after,Region.binds md e=true->listed.getD e.on false=true)->
   Inv listed a w->wpOp P ops Q i (Inv (listed.setIfInBounds i true)) a w)
  (hend:∀ (listed:Array Bool) (a:Act) (w:World),(∀ j,j<ops.size->listed.getD j false=true)->Inv listed a w->Q .normal a w) :
  ∀ (fuel:Nat) (listed:Array Bool) (a:Act) (w:World),ZcS listed<=fuel->listed.size=ops.size->Inv listed a w->wpAny P md ops Q fuel listed a w
 | 0,listed,a,w,hf,hs,hi=>by
  have hr:Region.ready md ops listed=[]:=by
   rcases h:Region.ready md ops listed with _ | ⟨i,r⟩
   ·rfl
   ·have:i ∈ Region.ready md ops listed:=by rw[h];exact List.mem_cons_self
    have:=Zdh (mem_ready.1 this).1
    omega
  exact⟨hr,hend listed a w (Zfr ho hs hr) hi⟩
 | fuel+1,listed,a,w,hf,hs,hi=>by
  refine⟨fun hr=>hend listed a w (Zfr ho hs hr) hi,fun i him=>?_⟩
  obtain⟨h1,o,h2,h3⟩:=mem_ready.1 him
  refine wpOp_mono (fun a' w' h'=>ZgH Inv ho hstep hend fuel _ a' w' ?_ ?_ h') (hstep listed a w i o h2 hs h1 h3 hi)
  ·have:=Zdh h1;omega
  ·rw[Array.size_setIfInBounds];exact hs
theorem ZgU {listed:Array Bool} {i:Nat} (h:listed.getD i true=false):(listed.setIfInBounds i true).getD i false=true:=by
 rcases Zm4 i listed.size with h' | h'
 ·simp[h']
 ·simp[Array.getD,Nat.not_lt.2 h'] at h
theorem Zgp {listed:Array Bool} {i j:Nat} (h:j≠i):(listed.setIfInBounds i true).getD j false=listed.getD j false:=by
 rw[Array.getD_eq_getD_getElem?,Array.getD_eq_getD_getElem?,Array.getElem?_setIfInBounds_ne (Ne.symm h)]
theorem Zg8 {listed:Array Bool} {i j:Nat} (h:listed.getD i true=false):(listed.setIfInBounds i true).getD j false=true<->j=i\/listed.getD j false=true:=by
 by_cases hj:j=i
 ·subst hj;simp only[true_or,iff_true];exact ZgU h
 ·rw[Zgp hj];simp[hj]
theorem ZfI {l:List Oper} {id:Nat} {a:Act} {w:World} (hm:P.follows .mixedOrders=true) (ho:Zdz l.toArray=true) (Inv:(Nat->Prop)->Act->World->Prop)
  (h0:Inv (fun _=>False) a w.drew)
  (hstep:∀ (L:Nat->Prop) (a:Act) (w:World) (i:Nat) (o:Oper),l[i]?=some o->¬ L i->(∀ (k:Nat) e,o.after[k]?=some e->Region.binds .any e=true->L e.on)->
   (∀ j o',l[j]?=some o'->L j->∀ (k:Nat) e,o'.after[k]?=some e->Region.binds .any e=true->L e.on)->Inv L a w->(if Region.wanted o (yielded l.toArray a.tmps) then o.wp P a w (Inv fun j=>j=i\/L j) Q else Inv (fun j=>j=i\/L j) (a.put o.dst undef) w))
  (hend:∀ (L:Nat->Prop) (a:Act) (w:World),(∀ j,j<l.length->L j)->Inv L a w->Q .normal a w):(Code.region id l.toArray true).wp P Q a w:=by
 refine wp_region_any hm (ZgH (fun listed a w=>∃ L:Nat->Prop,(∀ j,listed.getD j false=true<->L j)/\(∀ j o',l[j]?=some o'->L j->∀ e ∈ o'.after,Region.binds .any e=true->L e.on)/\Inv L a w) ho ?_ ?_ _ _ _ _ ?_ Zc ⟨_,fun j=>?_,fun _ _ _ h=>h.elim,h0⟩)
 ·rintro listed a w i o hi hs hl he ⟨L,hL,hC,hI⟩
  have h1:=hstep L a w i o (by simpa using hi) (by
   intro hc
   have:=(hL i).2 hc
   rcases Zm4 i listed.size with h' | h'
   ·simp[h'] at this hl;rw[this] at hl;cases hl
   ·simp[Array.getD,Nat.not_lt.2 h'] at hl) (fun k e he' hb=>(hL _).1 (he e (Array.mem_of_getElem? he') hb)) (fun j o' h1 h2 k e h3 h4=>hC j o' h1 h2 e (Array.mem_of_getElem? h3) h4) hI
  unfold wpOp
  simp only[hi]
  have hset:∀ j,(listed.setIfInBounds i true).getD j false=true<->(j=i\/L j):=fun j=>by rw[Zg8 hl,hL]
  have hC':∀ j o',l[j]?=some o'->(j=i\/L j)->∀ e ∈ o'.after,Region.binds .any e=true->(e.on=i\/L e.on):=fun j o' hj hd e he' hb=>by
   rcases hd with rfl | hd
   ·have:o'=o:=Zm2 (hj.symm.trans (by simpa using hi))
    subst this
    exact .inr ((hL _).1 (he e he' hb))
   ·exact .inr (hC j o' hj hd e he' hb)
  split at h1
  ·rename_i hw;simp only[hw,if_true];exact .inl (Oper.wp_mono (fun a' w' h'=>⟨_,hset,hC',h'⟩) h1)
  ·rename_i hw;simp only[hw];exact⟨_,hset,hC',h1⟩
 ·rintro listed a w hall ⟨L,hL,_,hI⟩
  exact hend L a w (fun j hj=>(hL j).1 (hall j (by simpa using hj))) hI
 ·unfold ZcS;simp
 ·simp[Array.getD]
theorem ZP {l:List Oper} {o:Oper} {a:Act} {w:World} {I:Act->World->Prop} {J:Prop} (hw:Region.wanted o (yielded l.toArray a.tmps)=true)
  (h:∀ K:Act->World->Prop,(∀ a' w',I a' w'->K a' w')->o.wp P a w K Q):if Region.wanted o (yielded l.toArray a.tmps) then o.wp P a w I Q else J:=by
 rw[if_pos hw]
 exact h I fun _ _ h=>h
end
end Go.Proofs.YtjmckebecpjjfaaGreatDoor
