/- The parts Two, Ops, Inv, Order. -/
import Derived.Test.YtmpaflidennnoaaGreatDoorH08
import Derived.Deep.DeepCutAuto
set_option maxRecDepth 100000
set_option maxHeartbeats 4000000
set_option linter.unusedVariables false
set_option linter.unusedSimpArgs false
namespace Go.Proofs.YtmpaflidennnoaaGreatDoor
open Go.RowKit Go.Shelf
attribute [local go_sem ↓] Go.wp_at_zero Go.wp_at_succ
def Bi (s t u v:ByteArray) (R:ByteArray->ByteArray->Int->Prop) (x y:ByteArray) (e:Int):Prop:=
 ((okP s t && okP u v)=false/\x=str []/\y=str []/\e=2)\/((okP s t && okP u v)=true/\R x y e)
theorem ZaY {s t:ByteArray} (h:okP s t=true):(∀ c ∈ s.data.toList,ZG c=true)/\(∀ c ∈ t.data.toList,ZG c=true)/\s.size<=1000000/\t.size<=1000000/\
  (Zp 1000000000 (Zq s.data.toList)).length<=1000/\(Zp 1000000000 (Zq t.data.toList)).length<=1000/\0<Zq t.data.toList:=by
 obtain⟨h1,h2,h3,h4⟩:=ZcV.1 h
 obtain⟨c1,l1⟩:=Zak h1
 obtain⟨c2,l2⟩:=Zak h2
 rw[Zz] at l1 l2
 exact⟨c1.dig,c2.dig,Za,Za,Zoz (Zb1 c1.dig (j:=70) Za) Za,Zoz (Zb1 c2.dig (j:=70) Za) Za,h3⟩
theorem Zfw {F:Nat} (hent:∀ args w,(callFunc F args).run Tryz.prog w=.ok (.enter F args) w) {R:ByteArray->ByteArray->Int->Prop} (s t u v:ByteArray) (w:World) (hs:s.size<=1000000) (ht:t.size<=1000000) (hu:u.size<=1000000) (hv:v.size<=1000000) (hT:Tabs w)
  (hc:okP s t=true->okP u v=true->∀ (v1 v2 v3 v4:Value) (W:World),Num W v1 (Zq s.data.toList)->Num W v2 (Zq t.data.toList)->Num W v3 (Zq u.data.toList)->Num W v4 (Zq v.data.toList)->Tabs W->Calls Tryz.prog F #[.agg #[v1,v2],.agg #[v3,v4]] W (ZL R W)) :
  Calls Tryz.prog 98 #[Zpb s t,Zpb u v,.func (.func F) #[] #[]] w (ZL (Bi s t u v R) w):=by
 have HT:=Zpe hT
 have HCC:=Zpe hc
 clear hT hc
 go_enter Tryz.func98,Tryz.ntmps98
 go_wp2_with fail
 obtain⟨w1,hw1⟩:=Zpg (((w.alloc (Zpc s t)).alloc (Zpc u v)).alloc (Zpc Zpa Zpa))
 rw[hw1]
 have HX1:Hid (Zv w.heap.size [Zpc s t,Zpc u v,Zpc Zpa Zpa] w1):=by rw[<- hw1];exact Zv.three w _ _ _
 have HB1:Zo8 w w1:=by rw[<- hw1];exact(((Zoq _ w).alloc Zpf _).alloc Zc _).alloc (by simp<;>omega) _
 clear hw1
 refine(ZaS s t _ hs ht).mono ?_
 rintro e w2 ⟨rfl,hb2⟩
 have HX2:=Zpe (HX1.out.below hb2 HX1.out.lt)
 have HB2:=Zpe (HB1.out.trans (hb2.mono HB1.out.size))
 clear hb2
 cases h1:okP s t
 ·have H1:Hid ((okP s t && okP u v)=false):=by show _=_;rw[h1];rfl
  rw[ZaM h1]
  clear h1
  have r0:=HX2.out.cell 2 0 (b:=w.heap.size+1+1) rfl rfl rfl
  have r1:=HX2.out.cell 2 1 (b:=w.heap.size+1+1) rfl rfl rfl
  have f0:=HX2.out.free 2 0 (b:=w.heap.size+1+1) rfl rfl
  have f1:=HX2.out.free 2 1 (b:=w.heap.size+1+1) rfl rfl
  go_wp2
  have q:=Zu (HX2.out.block 2 (b:=w.heap.size+1+1) rfl rfl) (.string Zpa) (.string Zpa)
  have HBQ:=Zpe (Zs HB2.out (b:=w.heap.size+1+1) Za (.string Zpa) (.string Zpa))
  obtain⟨w9,hw9⟩:=Zpg ((w2.setCell ⟨w.heap.size+1+1,0,none⟩ (.string Zpa)).setCell ⟨w.heap.size+1+1,1,none⟩ (.string Zpa))
  rw[hw9] at q HBQ
  obtain⟨q0,q1⟩:=q
  rw[hw9]
  clear r0 r1 f0 f1 hw9
  go_wp2
  refine Zor (v:=.tuple #[Zpb Zpa Zpa,.int .i64 2]) (by simp[results,Tryz.f98,go_sem,q0,q1]) rfl ⟨_,_,_,rfl,?_,HBQ.out⟩
  exact .inl ⟨H1.out,rfl,rfl,rfl⟩
 have H1:=Zpe h1
 rw[Zbg h1]
 clear h1
 have kc2:=HX2.out.cell 1 0 (b:=w.heap.size+1) rfl rfl rfl
 have kd2:=HX2.out.cell 1 1 (b:=w.heap.size+1) rfl rfl rfl
 go_wp2_with fail
 refine(ZaS u v _ hu hv).mono ?_
 rintro e w3 ⟨rfl,hb3⟩
 have HX3:=Zpe (HX2.out.below hb3 HX2.out.lt)
 have HB3:=Zpe (HB2.out.trans (hb3.mono HB2.out.size))
 clear hb3 kc2 kd2
 cases h2:okP u v
 ·have H2:Hid ((okP s t && okP u v)=false):=by show _=_;rw[h2,Bool.and_false]
  rw[ZaM h2]
  clear h2
  have r0:=HX3.out.cell 2 0 (b:=w.heap.size+1+1) rfl rfl rfl
  have r1:=HX3.out.cell 2 1 (b:=w.heap.size+1+1) rfl rfl rfl
  have f0:=HX3.out.free 2 0 (b:=w.heap.size+1+1) rfl rfl
  have f1:=HX3.out.free 2 1 (b:=w.heap.size+1+1) rfl rfl
  go_wp2
  have q:=Zu (HX3.out.block 2 (b:=w.heap.size+1+1) rfl rfl) (.string Zpa) (.string Zpa)
  have HBQ:=Zpe (Zs HB3.out (b:=w.heap.size+1+1) Za (.string Zpa) (.string Zpa))
  obtain⟨w9,hw9⟩:=Zpg ((w3.setCell ⟨w.heap.size+1+1,0,none⟩ (.string Zpa)).setCell ⟨w.heap.size+1+1,1,none⟩ (.string Zpa))
  rw[hw9] at q HBQ
  obtain⟨q0,q1⟩:=q
  rw[hw9]
  clear r0 r1 f0 f1 hw9
  go_wp2
  refine Zor (v:=.tuple #[Zpb Zpa Zpa,.int .i64 2]) (by simp[results,Tryz.f98,go_sem,q0,q1]) rfl ⟨_,_,_,rfl,?_,HBQ.out⟩
  exact .inl ⟨H2.out,rfl,rfl,rfl⟩
 have HQ:Hid ((okP s t && okP u v)=true):=by show _=_;rw[H1.out,h2];rfl
 have HC:=Zpe (HCC.out H1.out h2)
 obtain⟨g1,g2,_⟩:=ZaY H1.out
 obtain⟨g3,g4,_⟩:=ZaY h2
 have HG:=Zpe (Zo5 g1 (Zo5 g2 (Zo5 g3 g4)))
 rw[Zbg h2]
 clear h2 HCC H1 g1 g2 g3 g4
 have k3:=HX3.out.f4
 obtain⟨ka3,kb3,kc3,kd3⟩:=id k3
 go_wp2_with fail
 go_region_held3
  (fun w'=>w'.cell? ⟨w.heap.size,0,none⟩=some (.string s)/\w'.cell? ⟨w.heap.size,1,none⟩=some (.string t)/\w'.cell? ⟨w.heap.size+1,0,none⟩=some (.string u)/\w'.cell? ⟨w.heap.size+1,1,none⟩=some (.string v))
  (first | exact k3 | exact k4 | exact k5 | exact ZaQ Za Za k9 _ _ | exact k9)
  (first
   | (go_at_call_of 67 (Value.agg #[.string s,.string t]);refine(Zdd s t hs ht HG.out.1 HG.out.2.1 _).mono ?_;rintro e w4 ⟨va,vb,rfl,hva,hvb,hb⟩;obtain⟨p4,m4,c4,rfl⟩:=hva.form';obtain⟨q4,n4,d4,rfl⟩:=hvb.form';have HA:=Zpe hva;have HD:=Zpe hvb;have HX4:=Zpe (HX3.out.drew.below hb HX3.out.lt);have HB4:Zo8 w w4:=HB3.out.drew.trans (hb.mono HB3.out.drew.size);have k4:=HX4.out.f4;clear hva hvb hb)
   | (go_at_call_of 67 (Value.agg #[.string u,.string v]);refine(Zdd u v hu hv HG.out.2.2.1 HG.out.2.2.2 _).mono ?_;rintro e w5 ⟨vc,vd,rfl,hva,hvb,hb⟩;obtain⟨p5,m5,c5,rfl⟩:=hva.form';obtain⟨q5,n5,d5,rfl⟩:=hvb.form';have HE:=Zpe hva;have HF:=Zpe hvb;have HA5:=Zpe (HA.out.after hb Zpf);have HC5:=Zpe (HD.out.after hb Zpf);have HX5:=Zpe (HX4.out.below hb HX4.out.lt);have HB5:Zo8 w w5:=HB4.out.trans (hb.mono HB4.out.size);have k5:=HX5.out.f4;clear hva hvb hb)
   | (refine(HC.out _ _ _ _ _ HA5.out HC5.out HE.out HF.out (HT.out.below HB5.out Zpf)).mono ?_;rintro e w9 ⟨x,y,n,rfl,hR,hb9⟩;have HR:=Zpe hR;have HX9:=Zpe (HX5.out.below hb9 HX5.out.lt);have HB9:Zo8 w w9:=HB5.out.trans (hb9.mono HB5.out.size);have k9:=HX9.out.f4;have r0:=HX9.out.cell 2 0 (b:=w.heap.size+1+1) rfl rfl rfl;have r1:=HX9.out.cell 2 1 (b:=w.heap.size+1+1) rfl rfl rfl;have f0:=HX9.out.free 2 0 (b:=w.heap.size+1+1) rfl rfl;have f1:=HX9.out.free 2 1 (b:=w.heap.size+1+1) rfl rfl;clear hR hb9)
  )
 all_goals
  have q:=Zu (HX9.out.block 2 (b:=w.heap.size+1+1) rfl rfl) (.string x) (.string y)
  have HBQ:=Zpe (Zs HB9.out (b:=w.heap.size+1+1) Za (.string x) (.string y))
  obtain⟨wz,hwz⟩:=Zpg ((w9.setCell ⟨w.heap.size+1+1,0,none⟩ (.string x)).setCell ⟨w.heap.size+1+1,1,none⟩ (.string y))
  rw[hwz] at q HBQ
  obtain⟨q0,q1⟩:=q
  rw[hwz]
  clear r0 r1 f0 f1 hwz
  go_wp2
  refine Zor (v:=.tuple #[Zpb x y,.int .i64 n]) (by simp[results,Tryz.f98,go_sem,q0,q1]) rfl ⟨_,_,_,rfl,.inr ⟨HQ.out,HR.out⟩,HBQ.out⟩
theorem ZnE (s t u v:ByteArray) (w:World) (hs:s.size<=1000000) (ht:t.size<=1000000) (hu:u.size<=1000000) (hv:v.size<=1000000) (hT:Tabs w) :
  Calls Tryz.prog 98 #[Zpb s t,Zpb u v,.func (.func 167) #[] #[]] w (ZL (Bi s t u v (Ans (mkRat ((Zq s.data.toList*Zq u.data.toList:Nat):Int) (Zq t.data.toList*Zq v.data.toList)))) w):=
 Zfw (enters_of Tryz.func167 Zb rfl) s t u v w hs ht hu hv hT fun h1 h2 v1 v2 v3 v4 W a b c d hT=>by
  obtain⟨_,_,_,_,l1,l2,d1⟩:=ZaY h1
  obtain⟨_,_,_,_,l3,l4,d2⟩:=ZaY h2
  exact Zmz a b c d l1 l2 l3 l4 d1 d2 hT
theorem ZnH (s t u v:ByteArray) (w:World) (hs:s.size<=1000000) (ht:t.size<=1000000) (hu:u.size<=1000000) (hv:v.size<=1000000) (hT:Tabs w) :
  Calls Tryz.prog 98 #[Zpb s t,Zpb u v,.func (.func 99) #[] #[]] w (ZL (Bi s t u v (Ans (mkRat ((Zq s.data.toList*Zq v.data.toList+Zq u.data.toList*Zq t.data.toList:Nat):Int) (Zq t.data.toList*Zq v.data.toList)))) w):=
 Zfw (enters_of Tryz.func99 Zb rfl) s t u v w hs ht hu hv hT fun h1 h2 v1 v2 v3 v4 W a b c d hT=>by
  obtain⟨_,_,_,_,l1,l2,d1⟩:=ZaY h1
  obtain⟨_,_,_,_,l3,l4,d2⟩:=ZaY h2
  exact ZmO a b c d l1 l2 l3 l4 d1 d2 hT
theorem ZnP (s t u v:ByteArray) (w:World) (hs:s.size<=1000000) (ht:t.size<=1000000) (hu:u.size<=1000000) (hv:v.size<=1000000) (hT:Tabs w) :
  Calls Tryz.prog 98 #[Zpb s t,Zpb u v,.func (.func 154) #[] #[]] w (ZL (Bi s t u v (SubR (Zq s.data.toList) (Zq t.data.toList) (Zq u.data.toList) (Zq v.data.toList))) w):=
 Zfw (enters_of Tryz.func154 Zb rfl) s t u v w hs ht hu hv hT fun h1 h2 v1 v2 v3 v4 W a b c d hT=>by
  obtain⟨_,_,_,_,l1,l2,d1⟩:=ZaY h1
  obtain⟨_,_,_,_,l3,l4,d2⟩:=ZaY h2
  exact Zm1 a b c d l1 l2 l3 l4 d1 d2 hT
def DivR (n1 d1 n2 d2:Nat) (s t:ByteArray) (e:Int):Prop:=
 (n2=0/\s=str []/\t=str []/\e=10)\/(0<n2/\Ans (mkRat ((n1*d2:Nat):Int) (d1*n2)) s t e)
theorem ZmH {v1 v2 v3 v4:Value} {n1 d1 n2 d2:Nat} {w:World} (h1:Num w v1 n1) (h2:Num w v2 d1) (h3:Num w v3 n2) (h4:Num w v4 d2)
  (l1:(Zp 1000000000 n1).length<=1000) (l2:(Zp 1000000000 d1).length<=1000) (l3:(Zp 1000000000 n2).length<=1000) (l4:(Zp 1000000000 d2).length<=1000) (hd1:0<d1) (hd2:0<d2) (hT:Tabs w) :
  Calls Tryz.prog 205 #[.agg #[v1,v2],.agg #[v3,v4]] w (ZL (DivR n1 d1 n2 d2) w):=by
 rcases ZoF n2 with h0 | h0
 ·refine(Zl9 h1 h2 h3 h4 l1 l2 l3 l4 hd1 hd2 hT h0).mono ?_
  rintro e w' ⟨s,t,n,rfl,hr,hb⟩
  exact⟨s,t,n,rfl,.inl ⟨h0,hr⟩,hb⟩
 ·refine(ZmJ h1 h2 h3 h4 l1 l2 l3 l4 hd1 hd2 hT h0).mono ?_
  rintro e w' ⟨s,t,n,rfl,hr,hb⟩
  exact⟨s,t,n,rfl,.inr ⟨h0,hr⟩,hb⟩
theorem ZnM (s t u v:ByteArray) (w:World) (hs:s.size<=1000000) (ht:t.size<=1000000) (hu:u.size<=1000000) (hv:v.size<=1000000) (hT:Tabs w) :
  Calls Tryz.prog 98 #[Zpb s t,Zpb u v,.func (.func 205) #[] #[]] w (ZL (Bi s t u v (DivR (Zq s.data.toList) (Zq t.data.toList) (Zq u.data.toList) (Zq v.data.toList))) w):=
 Zfw (enters_of Tryz.func205 Zb rfl) s t u v w hs ht hu hv hT fun h1 h2 v1 v2 v3 v4 W a b c d hT=>by
  obtain⟨_,_,_,_,l1,l2,d1⟩:=ZaY h1
  obtain⟨_,_,_,_,l3,l4,d2⟩:=ZaY h2
  exact ZmH a b c d l1 l2 l3 l4 d1 d2 hT
def SubA (a b:Rat) (x y:ByteArray) (e:Int):Prop:=(a<b/\x=str []/\y=str []/\e=11)\/(b<=a/\Ans (a-b) x y e)
def DivA (a b:Rat) (x y:ByteArray) (e:Int):Prop:=(b=0/\x=str []/\y=str []/\e=10)\/(0<b/\Ans (a/b) x y e)
theorem Za2 {s t:ByteArray} (h:okP s t=true):0<=ratP s t/\Zq s.data.toList=(ratP s t).num.toNat/\Zq t.data.toList=(ratP s t).den:=
 ⟨(Zav h).nn,(Zav h).vals.1,(Zav h).vals.2⟩
theorem Bi.mono {s t u v x y:ByteArray} {e:Int} {R R':ByteArray->ByteArray->Int->Prop} (h:Bi s t u v R x y e) (f:okP s t=true->okP u v=true->R x y e->R' x y e):Bi s t u v R' x y e:=by
 rcases h with h | ⟨h1,h2⟩
 ·exact .inl h
 ·rw[ZoY] at h1
  exact .inr ⟨by rw[ZoY];exact h1,f h1.1 h1.2 h2⟩
theorem Zmi {s t u v x y:ByteArray} {e:Int} (h:Bi s t u v (Ans (mkRat ((Zq s.data.toList*Zq u.data.toList:Nat):Int) (Zq t.data.toList*Zq v.data.toList))) x y e):Bi s t u v (Ans (ratP s t*ratP u v)) x y e:=
 h.mono fun h1 h2 h3=>by
  obtain⟨a1,a2,a3⟩:=Za2 h1
  obtain⟨b1,b2,b3⟩:=Za2 h2
  rw[Zmu a1 b1,<- a2,<- a3,<- b2,<- b3];exact h3
theorem ZlN {s t u v x y:ByteArray} {e:Int} (h:Bi s t u v (Ans (mkRat ((Zq s.data.toList*Zq v.data.toList+Zq u.data.toList*Zq t.data.toList:Nat):Int) (Zq t.data.toList*Zq v.data.toList))) x y e):Bi s t u v (Ans (ratP s t+ratP u v)) x y e:=
 h.mono fun h1 h2 h3=>by
  obtain⟨a1,a2,a3⟩:=Za2 h1
  obtain⟨b1,b2,b3⟩:=Za2 h2
  rw[ZlP a1 b1,<- a2,<- a3,<- b2,<- b3];exact h3
theorem Zmq {s t u v x y:ByteArray} {e:Int} (h:Bi s t u v (SubR (Zq s.data.toList) (Zq t.data.toList) (Zq u.data.toList) (Zq v.data.toList)) x y e):Bi s t u v (SubA (ratP s t) (ratP u v)) x y e:=
 h.mono fun h1 h2 h3=>by
  obtain⟨a1,a2,a3⟩:=Za2 h1
  obtain⟨b1,b2,b3⟩:=Za2 h2
  unfold SubR at h3
  rw[a2,a3,b2,b3] at h3
  rcases h3 with ⟨k,h3⟩ | ⟨k,h3⟩
  ·exact .inl ⟨(Ziv a1 b1).2 k,h3⟩
  ·have hk:=(Zfo b1 a1).2 k
   exact .inr ⟨hk,by rw[Zlu a1 b1 hk];exact h3⟩
theorem Zly {s t u v x y:ByteArray} {e:Int} (h:Bi s t u v (DivR (Zq s.data.toList) (Zq t.data.toList) (Zq u.data.toList) (Zq v.data.toList)) x y e):Bi s t u v (DivA (ratP s t) (ratP u v)) x y e:=
 h.mono fun h1 h2 h3=>by
  obtain⟨a1,a2,a3⟩:=Za2 h1
  obtain⟨b1,b2,b3⟩:=Za2 h2
  unfold DivR at h3
  rw[a2,a3,b2,b3] at h3
  rcases h3 with ⟨k,h3⟩ | ⟨k,h3⟩
  ·refine .inl ⟨?_,h3⟩
   have h4:=Zac b1
   rw[k] at h4
   exact Rat.num_eq_zero.1 h4.symm
  ·have hk:0<ratP u v:=by
    refine Rat.lt_of_le_of_ne b1 fun h0=>?_
    rw[<- h0] at k
    exact Zo4 k Zd
   exact .inr ⟨hk,by rw[ZlM a1 hk];exact h3⟩
theorem Znx (s t u v:ByteArray) (w:World) (hs:s.size<=1000000) (ht:t.size<=1000000) (hu:u.size<=1000000) (hv:v.size<=1000000) (hT:Tabs w) :
  Calls Tryz.prog 119 #[Zpb s t,Zpb u v] w (ZL (Bi s t u v (Ans (ratP s t*ratP u v))) w):=by
 have HT:=Zpe hT
 clear hT
 go_enter Tryz.func119,Tryz.ntmps119
 go_wp2_with fail
 obtain⟨w1,hw1⟩:=Zpg (((w.alloc (Zpc s t)).alloc (Zpc u v)).alloc (Zpc Zpa Zpa))
 rw[hw1]
 have HX1:Hid (Zv w.heap.size [Zpc s t,Zpc u v,Zpc Zpa Zpa] w1):=by rw[<- hw1];exact Zv.three w _ _ _
 have HB1:Zo8 w w1:=by rw[<- hw1];exact(((Zoq _ w).alloc Zpf _).alloc Zc _).alloc (by simp<;>omega) _
 clear hw1
 refine(ZnE s t u v _ hs ht hu hv (HT.out.below HB1.out Zpf)).mono ?_
 rintro e w2 ⟨x,y,n,rfl,hR,hb2⟩
 have HR:=Zpe (Zmi hR)
 have HX2:=Zpe (HX1.out.below hb2 HX1.out.lt)
 have HB2:=Zpe (HB1.out.trans (hb2.mono HB1.out.size))
 clear hR hb2
 have r0:=HX2.out.cell 2 0 (b:=w.heap.size+1+1) rfl rfl rfl
 have r1:=HX2.out.cell 2 1 (b:=w.heap.size+1+1) rfl rfl rfl
 have f0:=HX2.out.free 2 0 (b:=w.heap.size+1+1) rfl rfl
 have f1:=HX2.out.free 2 1 (b:=w.heap.size+1+1) rfl rfl
 go_wp2
 have q:=Zu (HX2.out.block 2 (b:=w.heap.size+1+1) rfl rfl) (.string x) (.string y)
 have HBQ:=Zpe (Zs HB2.out (b:=w.heap.size+1+1) Za (.string x) (.string y))
 obtain⟨w9,hw9⟩:=Zpg ((w2.setCell ⟨w.heap.size+1+1,0,none⟩ (.string x)).setCell ⟨w.heap.size+1+1,1,none⟩ (.string y))
 rw[hw9] at q HBQ
 obtain⟨q0,q1⟩:=q
 rw[hw9]
 clear r0 r1 f0 f1 hw9
 go_wp2
 refine Zor (v:=.tuple #[Zpb x y,.int .i64 n]) (by simp[results,Tryz.f119,go_sem,q0,q1]) rfl ⟨_,_,_,rfl,?_,HBQ.out⟩
 exact HR.out
theorem Zkb (s t u v:ByteArray) (w:World) (hs:s.size<=1000000) (ht:t.size<=1000000) (hu:u.size<=1000000) (hv:v.size<=1000000) (hT:Tabs w) :
  Calls Tryz.prog 42 #[Zpb s t,Zpb u v] w (ZL (Bi s t u v (Ans (ratP s t+ratP u v))) w):=by
 have HT:=Zpe hT
 clear hT
 go_enter Tryz.func42,Tryz.ntmps42
 go_wp2_with fail
 obtain⟨w1,hw1⟩:=Zpg (((w.alloc (Zpc s t)).alloc (Zpc u v)).alloc (Zpc Zpa Zpa))
 rw[hw1]
 have HX1:Hid (Zv w.heap.size [Zpc s t,Zpc u v,Zpc Zpa Zpa] w1):=by rw[<- hw1];exact Zv.three w _ _ _
 have HB1:Zo8 w w1:=by rw[<- hw1];exact(((Zoq _ w).alloc Zpf _).alloc Zc _).alloc (by simp<;>omega) _
 clear hw1
 refine(ZnH s t u v _ hs ht hu hv (HT.out.below HB1.out Zpf)).mono ?_
 rintro e w2 ⟨x,y,n,rfl,hR,hb2⟩
 have HR:=Zpe (ZlN hR)
 have HX2:=Zpe (HX1.out.below hb2 HX1.out.lt)
 have HB2:=Zpe (HB1.out.trans (hb2.mono HB1.out.size))
 clear hR hb2
 have r0:=HX2.out.cell 2 0 (b:=w.heap.size+1+1) rfl rfl rfl
 have r1:=HX2.out.cell 2 1 (b:=w.heap.size+1+1) rfl rfl rfl
 have f0:=HX2.out.free 2 0 (b:=w.heap.size+1+1) rfl rfl
 have f1:=HX2.out.free 2 1 (b:=w.heap.size+1+1) rfl rfl
 go_wp2
 have q:=Zu (HX2.out.block 2 (b:=w.heap.size+1+1) rfl rfl) (.string x) (.string y)
 have HBQ:=Zpe (Zs HB2.out (b:=w.heap.size+1+1) Za (.string x) (.string y))
 obtain⟨w9,hw9⟩:=Zpg ((w2.setCell ⟨w.heap.size+1+1,0,none⟩ (.string x)).setCell ⟨w.heap.size+1+1,1,none⟩ (.string y))
 rw[hw9] at q HBQ
 obtain⟨q0,q1⟩:=q
 rw[hw9]
 clear r0 r1 f0 f1 hw9
 go_wp2
 refine Zor (v:=.tuple #[Zpb x y,.int .i64 n]) (by simp[results,Tryz.f42,go_sem,q0,q1]) rfl ⟨_,_,_,rfl,?_,HBQ.out⟩
 exact HR.out
theorem Znw (s t u v:ByteArray) (w:World) (hs:s.size<=1000000) (ht:t.size<=1000000) (hu:u.size<=1000000) (hv:v.size<=1000000) (hT:Tabs w) :
  Calls Tryz.prog 104 #[Zpb s t,Zpb u v] w (ZL (Bi s t u v (SubA (ratP s t) (ratP u v))) w):=by
 have HT:=Zpe hT
 clear hT
 go_enter Tryz.func104,Tryz.ntmps104
 go_wp2_with fail
 obtain⟨w1,hw1⟩:=Zpg (((w.alloc (Zpc s t)).alloc (Zpc u v)).alloc (Zpc Zpa Zpa))
 rw[hw1]
 have HX1:Hid (Zv w.heap.size [Zpc s t,Zpc u v,Zpc Zpa Zpa] w1):=by rw[<- hw1];exact Zv.three w _ _ _
 have HB1:Zo8 w w1:=by rw[<- hw1];exact(((Zoq _ w).alloc Zpf _).alloc Zc _).alloc (by simp<;>omega) _
 clear hw1
 refine(ZnP s t u v _ hs ht hu hv (HT.out.below HB1.out Zpf)).mono ?_
 rintro e w2 ⟨x,y,n,rfl,hR,hb2⟩
 have HR:=Zpe (Zmq hR)
 have HX2:=Zpe (HX1.out.below hb2 HX1.out.lt)
 have HB2:=Zpe (HB1.out.trans (hb2.mono HB1.out.size))
 clear hR hb2
 have r0:=HX2.out.cell 2 0 (b:=w.heap.size+1+1) rfl rfl rfl
 have r1:=HX2.out.cell 2 1 (b:=w.heap.size+1+1) rfl rfl rfl
 have f0:=HX2.out.free 2 0 (b:=w.heap.size+1+1) rfl rfl
 have f1:=HX2.out.free 2 1 (b:=w.heap.size+1+1) rfl rfl
 go_wp2
 have q:=Zu (HX2.out.block 2 (b:=w.heap.size+1+1) rfl rfl) (.string x) (.string y)
 have HBQ:=Zpe (Zs HB2.out (b:=w.heap.size+1+1) Za (.string x) (.string y))
 obtain⟨w9,hw9⟩:=Zpg ((w2.setCell ⟨w.heap.size+1+1,0,none⟩ (.string x)).setCell ⟨w.heap.size+1+1,1,none⟩ (.string y))
 rw[hw9] at q HBQ
 obtain⟨q0,q1⟩:=q
 rw[hw9]
 clear r0 r1 f0 f1 hw9
 go_wp2
 refine Zor (v:=.tuple #[Zpb x y,.int .i64 n]) (by simp[results,Tryz.f104,go_sem,q0,q1]) rfl ⟨_,_,_,rfl,?_,HBQ.out⟩
 exact HR.out
theorem Zns (s t u v:ByteArray) (w:World) (hs:s.size<=1000000) (ht:t.size<=1000000) (hu:u.size<=1000000) (hv:v.size<=1000000) (hT:Tabs w) :
  Calls Tryz.prog 169 #[Zpb s t,Zpb u v] w (ZL (Bi s t u v (DivA (ratP s t) (ratP u v))) w):=by
 have HT:=Zpe hT
 clear hT
 go_enter Tryz.func169,Tryz.ntmps169
 go_wp2_with fail
 obtain⟨w1,hw1⟩:=Zpg (((w.alloc (Zpc s t)).alloc (Zpc u v)).alloc (Zpc Zpa Zpa))
 rw[hw1]
 have HX1:Hid (Zv w.heap.size [Zpc s t,Zpc u v,Zpc Zpa Zpa] w1):=by rw[<- hw1];exact Zv.three w _ _ _
 have HB1:Zo8 w w1:=by rw[<- hw1];exact(((Zoq _ w).alloc Zpf _).alloc Zc _).alloc (by simp<;>omega) _
 clear hw1
 refine(ZnM s t u v _ hs ht hu hv (HT.out.below HB1.out Zpf)).mono ?_
 rintro e w2 ⟨x,y,n,rfl,hR,hb2⟩
 have HR:=Zpe (Zly hR)
 have HX2:=Zpe (HX1.out.below hb2 HX1.out.lt)
 have HB2:=Zpe (HB1.out.trans (hb2.mono HB1.out.size))
 clear hR hb2
 have r0:=HX2.out.cell 2 0 (b:=w.heap.size+1+1) rfl rfl rfl
 have r1:=HX2.out.cell 2 1 (b:=w.heap.size+1+1) rfl rfl rfl
 have f0:=HX2.out.free 2 0 (b:=w.heap.size+1+1) rfl rfl
 have f1:=HX2.out.free 2 1 (b:=w.heap.size+1+1) rfl rfl
 go_wp2
 have q:=Zu (HX2.out.block 2 (b:=w.heap.size+1+1) rfl rfl) (.string x) (.string y)
 have HBQ:=Zpe (Zs HB2.out (b:=w.heap.size+1+1) Za (.string x) (.string y))
 obtain⟨w9,hw9⟩:=Zpg ((w2.setCell ⟨w.heap.size+1+1,0,none⟩ (.string x)).setCell ⟨w.heap.size+1+1,1,none⟩ (.string y))
 rw[hw9] at q HBQ
 obtain⟨q0,q1⟩:=q
 rw[hw9]
 clear r0 r1 f0 f1 hw9
 go_wp2
 refine Zor (v:=.tuple #[Zpb x y,.int .i64 n]) (by simp[results,Tryz.f169,go_sem,q0,q1]) rfl ⟨_,_,_,rfl,?_,HBQ.out⟩
 exact HR.out
section
variable {P:Program} {ops:Array Oper} {Q:Exit->Act->World->Prop} {md:Region.Mode}
def ZdQ (listed:Array Bool):Nat:=(listed.toList.filter fun b=>!b).length
theorem Zfr:∀ (l:List Bool) (i:Nat),l[i]?=some false->((l.set i true).filter fun b=>!b).length+1=(l.filter fun b=>!b).length
 | [],i,h=>by simp at h
 | b::l,0,h=>by
  simp at h;subst h;simp
 | b::l,i+1,h=>by
  have ih:=Zfr l i (by simpa using h)
  rw[List.set_cons_succ,List.filter_cons,List.filter_cons]
  cases b<;>simp<;>omega
theorem Zei {listed:Array Bool} {i:Nat} (h:listed.getD i true=false):ZdQ (listed.setIfInBounds i true)+1=ZdQ listed:=by
 unfold ZdQ
 rw[Array.toList_setIfInBounds]
 refine Zfr _ i ?_
 rcases Zow i listed.size with h' | h'
 ·simp[h'] at h ⊢;exact h
 ·simp[Array.getD,Nat.not_lt.2 h'] at h
def Zeu (ops:Array Oper):Bool:=(List.range ops.size).all fun j=>match ops[j]? with | some o=>o.after.all fun e=>decide (e.on<j) | none=>true
theorem Zgu (ho:Zeu ops=true) {listed:Array Bool} (hs:listed.size=ops.size) (h:Region.ready md ops listed=[]):∀ j,j<ops.size->listed.getD j false=true:=by
 intro j
 induction j using Nat.strongRecOn with
 | _ j ih=>
  intro hj
  cases hl:listed.getD j true with
  | true=>
   have:j<listed.size:=Za
   simp[this] at hl ⊢;exact hl
  | false=>
   exfalso
   have hm:j ∈ Region.ready md ops listed:=mem_ready.2 ⟨hl,ops[j],by simp[hj],fun e he _=>by
    unfold Zeu at ho
    rw[Zo3] at ho
    have h1:=ho j (List.mem_range.2 hj)
    rw[Array.getElem?_eq_getElem hj] at h1
    have h2:=Array.all_eq_true_iff_forall_mem.1 h1 e he
    have h3:e.on<j:=of_decide_eq_true h2
    exact ih e.on h3 Za⟩
   rw[h] at hm
   cases hm
theorem Zht (Inv:Array Bool->Act->World->Prop) (ho:Zeu ops=true)
  (hstep:∀ (listed:Array Bool) (a:Act) (w:World) (i:Nat) (o:Oper),ops[i]?=some o->listed.size=ops.size->listed.getD i true=false->(∀ e ∈ o.after,Region.binds md e=true->listed.getD e.on false=true)->
   Inv listed a w->wpOp P ops Q i (Inv (listed.setIfInBounds i true)) a w)
  (hend:∀ (listed:Array Bool) (a:Act) (w:World),(∀ j,j<ops.size->listed.getD j false=true)->Inv listed a w->Q .normal a w) :
  ∀ (fuel:Nat) (listed:Array Bool) (a:Act) (w:World),ZdQ listed<=fuel->listed.size=ops.size->Inv listed a w->wpAny P md ops Q fuel listed a w
 | 0,listed,a,w,hf,hs,hi=>by
  have hr:Region.ready md ops listed=[]:=by
   rcases h:Region.ready md ops listed with _ | ⟨i,r⟩
   ·rfl
   ·have:i ∈ Region.ready md ops listed:=by rw[h];exact List.mem_cons_self
    have:=Zei (mem_ready.1 this).1
    omega
  exact⟨hr,hend listed a w (Zgu ho hs hr) hi⟩
 | fuel+1,listed,a,w,hf,hs,hi=>by
  refine⟨fun hr=>hend listed a w (Zgu ho hs hr) hi,fun i him=>?_⟩
  obtain⟨h1,o,h2,h3⟩:=mem_ready.1 him
  refine wpOp_mono (fun a' w' h'=>Zht Inv ho hstep hend fuel _ a' w' ?_ ?_ h') (hstep listed a w i o h2 hs h1 h3 hi)
  ·have:=Zei h1;omega
  ·rw[Array.size_setIfInBounds];exact hs
theorem ZhO {listed:Array Bool} {i:Nat} (h:listed.getD i true=false):(listed.setIfInBounds i true).getD i false=true:=by
 rcases Zow i listed.size with h' | h'
 ·simp[h']
 ·simp[Array.getD,Nat.not_lt.2 h'] at h
theorem Zg8 {listed:Array Bool} {i j:Nat} (h:j≠i):(listed.setIfInBounds i true).getD j false=listed.getD j false:=by
 rw[Array.getD_eq_getD_getElem?,Array.getD_eq_getD_getElem?,Array.getElem?_setIfInBounds_ne (Ne.symm h)]
theorem Ziz {listed:Array Bool} {i j:Nat} (h:listed.getD i true=false):(listed.setIfInBounds i true).getD j false=true<->j=i\/listed.getD j false=true:=by
 by_cases hj:j=i
 ·subst hj;simp only[true_or,iff_true];exact ZhO h
 ·rw[Zg8 hj];simp[hj]
theorem Zks {l:List Oper} {id:Nat} {a:Act} {w:World} (hm:P.follows .mixedOrders=true) (ho:Zeu l.toArray=true) (Inv:(Nat->Prop)->Act->World->Prop)
  (h0:Inv (fun _=>False) a w.drew)
  (hstep:∀ (L:Nat->Prop) (a:Act) (w:World) (i:Nat) (o:Oper),l[i]?=some o->¬ L i->(∀ (k:Nat) e,o.after[k]?=some e->Region.binds .any e=true->L e.on)->
   (∀ j o',l[j]?=some o'->L j->∀ (k:Nat) e,o'.after[k]?=some e->Region.binds .any e=true->L e.on)->Inv L a w->(if Region.wanted o (yielded l.toArray a.tmps) then o.wp P a w (Inv fun j=>j=i\/L j) Q else Inv (fun j=>j=i\/L j) (a.put o.dst undef) w))
  (hend:∀ (L:Nat->Prop) (a:Act) (w:World),(∀ j,j<l.length->L j)->Inv L a w->Q .normal a w):(Code.region id l.toArray true).wp P Q a w:=by
 refine wp_region_any hm (Zht (fun listed a w=>∃ L:Nat->Prop,(∀ j,listed.getD j false=true<->L j)/\(∀ j o',l[j]?=some o'->L j->∀ e ∈ o'.after,Region.binds .any e=true->L e.on)/\Inv L a w) ho ?_ ?_ _ _ _ _ ?_ Zc ⟨_,fun j=>?_,fun _ _ _ h=>h.elim,h0⟩)
 ·rintro listed a w i o hi hs hl he ⟨L,hL,hC,hI⟩
  have h1:=hstep L a w i o (by simpa using hi) (by
   intro hc
   have:=(hL i).2 hc
   rcases Zow i listed.size with h' | h'
   ·simp[h'] at this hl;rw[this] at hl;cases hl
   ·simp[Array.getD,Nat.not_lt.2 h'] at hl) (fun k e he' hb=>(hL _).1 (he e (Array.mem_of_getElem? he') hb)) (fun j o' h1 h2 k e h3 h4=>hC j o' h1 h2 e (Array.mem_of_getElem? h3) h4) hI
  unfold wpOp
  simp only[hi]
  have hset:∀ j,(listed.setIfInBounds i true).getD j false=true<->(j=i\/L j):=fun j=>by rw[Ziz hl,hL]
  have hC':∀ j o',l[j]?=some o'->(j=i\/L j)->∀ e ∈ o'.after,Region.binds .any e=true->(e.on=i\/L e.on):=fun j o' hj hd e he' hb=>by
   rcases hd with rfl | hd
   ·have:o'=o:=Zou (hj.symm.trans (by simpa using hi))
    subst this
    exact .inr ((hL _).1 (he e he' hb))
   ·exact .inr (hC j o' hj hd e he' hb)
  split at h1
  ·rename_i hw;simp only[hw,if_true];exact .inl (Oper.wp_mono (fun a' w' h'=>⟨_,hset,hC',h'⟩) h1)
  ·rename_i hw;simp only[hw];exact⟨_,hset,hC',h1⟩
 ·rintro listed a w hall ⟨L,hL,_,hI⟩
  exact hend L a w (fun j hj=>(hL j).1 (hall j (by simpa using hj))) hI
 ·unfold ZdQ;simp
 ·simp[Array.getD]
theorem ZbU {l:List Oper} {o:Oper} {a:Act} {w:World} {I:Act->World->Prop} {J:Prop} (hw:Region.wanted o (yielded l.toArray a.tmps)=true)
  (h:∀ K:Act->World->Prop,(∀ a' w',I a' w'->K a' w')->o.wp P a w K Q):if Region.wanted o (yielded l.toArray a.tmps) then o.wp P a w I Q else J:=by
 rw[if_pos hw]
 exact h I fun _ _ h=>h
end
def sgnR (a b:Rat):Int:=if a<b then -1 else if a=b then 0 else 1
def CmpA (s t u v:ByteArray) (n:Int):Prop:=((okP s t && okP u v)=false/\n=0)\/((okP s t && okP u v)=true/\n=sgnR (ratP s t) (ratP u v))
def ZiE (s t u v:ByteArray) (w:World) (e:Ending) (w':World):Prop:=∃ n:Int,e=.returned (.int .i64 n)/\CmpA s t u v n/\Below w.heap.size w w'
theorem Zml {a b:Rat} (ha:0<=a) (hb:0<=b) {r:Int} (h:Sign (a.num.toNat*b.den) (b.num.toNat*a.den) r):max (-1) (min 1 r)=sgnR a b:=by
 obtain⟨h1,h2,_,_⟩:=h
 unfold sgnR
 by_cases hl:a<b
 ·rw[if_pos hl]
  have:=h1.2 ((Ziv ha hb).1 hl)
  omega
 ·rw[if_neg hl]
  by_cases he:a=b
  ·rw[if_pos he]
   have:=h2.2 ((Zl6 ha hb).1 he)
   omega
  ·rw[if_neg he]
   have k1:¬ r<0:=fun h=>hl ((Ziv ha hb).2 (h1.1 h))
   have k2:¬ r=0:=fun h=>he ((Zl6 ha hb).2 (h2.1 h))
   omega
def Zcq:Obj:=.cells #[.slice none 0 0,.slice none 0 0] 112
def Zhl (a b:Value):Obj:=.cells #[a,b] 112
structure CmpInv (s t u v:ByteArray) (n1 d1 n2 d2:Nat) (w:World) (L:Nat->Prop) (t5 t6 t16 t17 t18 t19 va vb vc vd:Value) (b5 b6:Nat) (W:World):Prop where
 below:Below w.heap.size w W
 box:Zv w.heap.size [Zpc s t,Zpc u v] W
 l0:L 0->t16=Zpb s t
 l2:L 2->t18=Zpb u v
 l1:L 1->t17=.agg #[va,vb]/\Num W va n1/\Num W vb d1
 l3:L 3->t19=.agg #[vc,vd]/\Num W vc n2/\Num W vd d2
 l4:L 4->t5=.pointer (some ⟨b5,0,none⟩)/\w.heap.size+2<=b5/\b5<W.heap.size/\(¬ L 6->W.heap[b5]?=some Zcq)/\(L 6->W.heap[b5]?=some (Zhl va vb))
 l5:L 5->t6=.pointer (some ⟨b6,0,none⟩)/\w.heap.size+2<=b6/\b6<W.heap.size/\(¬ L 7->W.heap[b6]?=some Zcq)/\(L 7->W.heap[b6]?=some (Zhl vc vd))
 ne:L 4->L 5->b5≠b6
section
variable {s t u v:ByteArray} {n1 d1 n2 d2:Nat} {w:World} {L:Nat->Prop} {t5 t6 t16 t17 t18 t19 va vb vc vd:Value} {b5 b6:Nat} {W W':World}
theorem CmpInv.after (h:CmpInv s t u v n1 d1 n2 d2 w L t5 t6 t16 t17 t18 t19 va vb vc vd b5 b6 W) (hb:Below W.heap.size W W'):CmpInv s t u v n1 d1 n2 d2 w L t5 t6 t16 t17 t18 t19 va vb vc vd b5 b6 W':=by
 refine⟨h.below.trans (hb.mono h.below.size),h.box.below hb h.box.lt,h.l0,h.l2,fun k=>?_,fun k=>?_,fun k=>?_,fun k=>?_,h.ne⟩
 ·obtain⟨e,x,y⟩:=h.l1 k
  exact⟨e,x.after hb Zpf,y.after hb Zpf⟩
 ·obtain⟨e,x,y⟩:=h.l3 k
  exact⟨e,x.after hb Zpf,y.after hb Zpf⟩
 ·obtain⟨e,x,y,z,z'⟩:=h.l4 k
  have:=hb.block b5 y
  exact⟨e,x,Zox y hb.size,fun m=>by rw[this];exact z m,fun m=>by rw[this];exact z' m⟩
 ·obtain⟨e,x,y,z,z'⟩:=h.l5 k
  have:=hb.block b6 y
  exact⟨e,x,Zox y hb.size,fun m=>by rw[this];exact z m,fun m=>by rw[this];exact z' m⟩
theorem CmpInv.s0 (h:CmpInv s t u v n1 d1 n2 d2 w L t5 t6 t16 t17 t18 t19 va vb vc vd b5 b6 W):CmpInv s t u v n1 d1 n2 d2 w (fun j=>j=0\/L j) t5 t6 (Zpb s t) t17 t18 t19 va vb vc vd b5 b6 W:=by
 refine⟨h.below,h.box,fun _=>rfl,fun k=>h.l2 (by simpa using k),fun k=>h.l1 (by simpa using k),fun k=>h.l3 (by simpa using k),fun k=>?_,fun k=>?_,fun k m=>h.ne (by simpa using k) (by simpa using m)⟩
 ·simpa using h.l4 (by simpa using k)
 ·simpa using h.l5 (by simpa using k)
theorem CmpInv.s2 (h:CmpInv s t u v n1 d1 n2 d2 w L t5 t6 t16 t17 t18 t19 va vb vc vd b5 b6 W):CmpInv s t u v n1 d1 n2 d2 w (fun j=>j=2\/L j) t5 t6 t16 t17 (Zpb u v) t19 va vb vc vd b5 b6 W:=by
 refine⟨h.below,h.box,fun k=>h.l0 (by simpa using k),fun _=>rfl,fun k=>h.l1 (by simpa using k),fun k=>h.l3 (by simpa using k),fun k=>?_,fun k=>?_,fun k m=>h.ne (by simpa using k) (by simpa using m)⟩
 ·simpa using h.l4 (by simpa using k)
 ·simpa using h.l5 (by simpa using k)
theorem CmpInv.s1 (h:CmpInv s t u v n1 d1 n2 d2 w L t5 t6 t16 t17 t18 t19 va vb vc vd b5 b6 W) (h6:¬ L 6) {va' vb':Value} (ha:Num W va' n1) (hb:Num W vb' d1) :
  CmpInv s t u v n1 d1 n2 d2 w (fun j=>j=1\/L j) t5 t6 t16 (.agg #[va',vb']) t18 t19 va' vb' vc vd b5 b6 W:=by
 refine⟨h.below,h.box,fun k=>h.l0 (by simpa using k),fun k=>h.l2 (by simpa using k),fun _=>⟨rfl,ha,hb⟩,fun k=>h.l3 (by simpa using k),fun k=>?_,fun k=>?_,fun k m=>h.ne (by simpa using k) (by simpa using m)⟩
 ·obtain⟨e,x,y,z,z'⟩:=h.l4 (by simpa using k)
  exact⟨e,x,y,fun _=>z h6,fun m=>Zo4 (by simpa using m) h6⟩
 ·simpa using h.l5 (by simpa using k)
theorem CmpInv.s3 (h:CmpInv s t u v n1 d1 n2 d2 w L t5 t6 t16 t17 t18 t19 va vb vc vd b5 b6 W) (h7:¬ L 7) {va' vb':Value} (ha:Num W va' n2) (hb:Num W vb' d2) :
  CmpInv s t u v n1 d1 n2 d2 w (fun j=>j=3\/L j) t5 t6 t16 t17 t18 (.agg #[va',vb']) va vb va' vb' b5 b6 W:=by
 refine⟨h.below,h.box,fun k=>h.l0 (by simpa using k),fun k=>h.l2 (by simpa using k),fun k=>h.l1 (by simpa using k),fun _=>⟨rfl,ha,hb⟩,fun k=>?_,fun k=>?_,fun k m=>h.ne (by simpa using k) (by simpa using m)⟩
 ·simpa using h.l4 (by simpa using k)
 ·obtain⟨e,x,y,z,z'⟩:=h.l5 (by simpa using k)
  exact⟨e,x,y,fun _=>z h7,fun m=>Zo4 (by simpa using m) h7⟩
theorem CmpInv.s4 (h:CmpInv s t u v n1 d1 n2 d2 w L t5 t6 t16 t17 t18 t19 va vb vc vd b5 b6 W) (h6:¬ L 6) :
  CmpInv s t u v n1 d1 n2 d2 w (fun j=>j=4\/L j) (.pointer (some ⟨W.heap.size,0,none⟩)) t6 t16 t17 t18 t19 va vb vc vd W.heap.size b6 (W.alloc Zcq):=by
 have k:=h.after ((Zoq W.heap.size W).alloc Zpf Zcq)
 refine⟨k.below,k.box,fun m=>k.l0 (by simpa using m),fun m=>k.l2 (by simpa using m),fun m=>k.l1 (by simpa using m),fun m=>k.l3 (by simpa using m),fun m=>?_,fun m=>?_,fun _ m=>?_⟩
 ·exact⟨rfl,h.box.lt,Zc,fun _=>Zot W _,fun m=>Zo4 (by simpa using m) h6⟩
 ·simpa using k.l5 (by simpa using m)
 ·have:=(h.l5 (by simpa using m)).2.2.1;omega
theorem CmpInv.s5 (h:CmpInv s t u v n1 d1 n2 d2 w L t5 t6 t16 t17 t18 t19 va vb vc vd b5 b6 W) (h7:¬ L 7) :
  CmpInv s t u v n1 d1 n2 d2 w (fun j=>j=5\/L j) t5 (.pointer (some ⟨W.heap.size,0,none⟩)) t16 t17 t18 t19 va vb vc vd b5 W.heap.size (W.alloc Zcq):=by
 have k:=h.after ((Zoq W.heap.size W).alloc Zpf Zcq)
 refine⟨k.below,k.box,fun m=>k.l0 (by simpa using m),fun m=>k.l2 (by simpa using m),fun m=>k.l1 (by simpa using m),fun m=>k.l3 (by simpa using m),fun m=>?_,fun m=>?_,fun m _=>?_⟩
 ·simpa using k.l4 (by simpa using m)
 ·exact⟨rfl,h.box.lt,Zc,fun _=>Zot W _,fun m=>Zo4 (by simpa using m) h7⟩
 ·have:=(h.l4 (by simpa using m)).2.2.1;omega
theorem ZiU {b:Nat} (hz:W.heap[b]?=some Zcq) (x y:Value) :
  Keeps (fun i=>i≠b) W ((W.setCell ⟨b,0,none⟩ x).setCell ⟨b,1,none⟩ y)/\((W.setCell ⟨b,0,none⟩ x).setCell ⟨b,1,none⟩ y).heap[b]?=some (Zhl x y)/\
   (∀ (z:Value) (n:Nat),Num W z n->Num ((W.setCell ⟨b,0,none⟩ x).setCell ⟨b,1,none⟩ y) z n):=by
 have hk:Keeps (fun i=>i≠b) W ((W.setCell ⟨b,0,none⟩ x).setCell ⟨b,1,none⟩ y):=((Keeps.refl _ W).setCell Zc _).setCell Zc _
 exact⟨hk,Zah hz x y,fun z n h=>h.keepsBut hz (Zhh _ _ (fun x h=>by cases h) (fun x h=>by cases h)) hk⟩
theorem CmpInv.s6 (h:CmpInv s t u v n1 d1 n2 d2 w L t5 t6 t16 t17 t18 t19 va vb vc vd b5 b6 W) (h6:¬ L 6) (h4:L 4) (h5:L 5) :
  CmpInv s t u v n1 d1 n2 d2 w (fun j=>j=6\/L j) t5 t6 t16 t17 t18 t19 va vb vc vd b5 b6 ((W.setCell ⟨b5,0,none⟩ va).setCell ⟨b5,1,none⟩ vb):=by
 obtain⟨e,x,y,z,z'⟩:=h.l4 h4
 obtain⟨hk,hn,hN⟩:=ZiU (z h6) va vb
 have hne:=h.ne h4 h5
 refine⟨Zs h.below Za _ _,h.box.keeps hk (fun i hi=>by have:i<2:=hi;omega),fun m=>h.l0 (by simpa using m),fun m=>h.l2 (by simpa using m),fun m=>?_,fun m=>?_,fun m=>?_,fun m=>?_,fun _ _=>hne⟩
 ·obtain⟨q1,q2,q3⟩:=h.l1 (by simpa using m)
  exact⟨q1,hN _ _ q2,hN _ _ q3⟩
 ·obtain⟨q1,q2,q3⟩:=h.l3 (by simpa using m)
  exact⟨q1,hN _ _ q2,hN _ _ q3⟩
 ·exact⟨e,x,Zox y hk.size,fun m=>Zo4 (.inl rfl) m,fun _=>hn⟩
 ·obtain⟨q1,q2,q3,q4,q5⟩:=h.l5 h5
  have hb:=hk.block b6 q3 (Ne.symm hne)
  exact⟨q1,q2,Zox q3 hk.size,fun m=>by rw[hb];exact q4 (by simpa using m),fun m=>by rw[hb];exact q5 (by simpa using m)⟩
theorem CmpInv.s7 (h:CmpInv s t u v n1 d1 n2 d2 w L t5 t6 t16 t17 t18 t19 va vb vc vd b5 b6 W) (h7:¬ L 7) (h4:L 4) (h5:L 5) :
  CmpInv s t u v n1 d1 n2 d2 w (fun j=>j=7\/L j) t5 t6 t16 t17 t18 t19 va vb vc vd b5 b6 ((W.setCell ⟨b6,0,none⟩ vc).setCell ⟨b6,1,none⟩ vd):=by
 obtain⟨e,x,y,z,z'⟩:=h.l5 h5
 obtain⟨hk,hn,hN⟩:=ZiU (z h7) vc vd
 have hne:=h.ne h4 h5
 refine⟨Zs h.below Za _ _,h.box.keeps hk (fun i hi=>by have:i<2:=hi;omega),fun m=>h.l0 (by simpa using m),fun m=>h.l2 (by simpa using m),fun m=>?_,fun m=>?_,fun m=>?_,fun m=>?_,fun _ _=>hne⟩
 ·obtain⟨q1,q2,q3⟩:=h.l1 (by simpa using m)
  exact⟨q1,hN _ _ q2,hN _ _ q3⟩
 ·obtain⟨q1,q2,q3⟩:=h.l3 (by simpa using m)
  exact⟨q1,hN _ _ q2,hN _ _ q3⟩
 ·obtain⟨q1,q2,q3,q4,q5⟩:=h.l4 h4
  have hb:=hk.block b5 q3 hne
  exact⟨q1,q2,Zox q3 hk.size,fun m=>by rw[hb];exact q4 (by simpa using m),fun m=>by rw[hb];exact q5 (by simpa using m)⟩
 ·exact⟨e,x,Zox y hk.size,fun m=>Zo4 (.inl rfl) m,fun _=>hn⟩
end
theorem ZjB (s t u v:ByteArray) (w:World) (hs:s.size<=1000000) (ht:t.size<=1000000) (hu:u.size<=1000000) (hv:v.size<=1000000) :
  Calls Tryz.prog 22 #[Zpb s t,Zpb u v] w (ZiE s t u v w):=by
 cases h1:okP s t
 ·have H1:Hid (okE s t=2/\(okP s t && okP u v)=false):=⟨ZaM h1,by rw[h1];rfl⟩
  clear h1
  go_enter Tryz.func22,Tryz.ntmps22
  go_wp2_with fail
  obtain⟨w1,hw1⟩:=Zpg ((w.alloc (Zpc s t)).alloc (Zpc u v))
  rw[hw1]
  have HX1:Hid (Zv w.heap.size [Zpc s t,Zpc u v] w1):=by rw[<- hw1];exact Zv.two w _ _
  have HB1:Zo8 w w1:=by rw[<- hw1];exact((Zoq _ w).alloc Zpf _).alloc Zc _
  clear hw1
  refine(ZaS s t _ hs ht).mono ?_
  rintro e w2 ⟨rfl,hb2⟩
  have HX2:=Zpe (HX1.out.below hb2 HX1.out.lt)
  have HB2:=Zpe (HB1.out.trans (hb2.mono HB1.out.size))
  clear hb2
  rw[H1.out.1]
  go_wp2
  go_ret
  exact⟨_,rfl,.inl ⟨H1.out.2,rfl⟩,HB2.out⟩
 ·cases h2:okP u v
  ·have H1:=Zpe (Zbg h1)
   have H2:Hid (okE u v=2/\(okP s t && okP u v)=false):=⟨ZaM h2,by rw[h2,Bool.and_false]⟩
   clear h1 h2
   go_enter Tryz.func22,Tryz.ntmps22
   go_wp2_with fail
   obtain⟨w1,hw1⟩:=Zpg ((w.alloc (Zpc s t)).alloc (Zpc u v))
   rw[hw1]
   have HX1:Hid (Zv w.heap.size [Zpc s t,Zpc u v] w1):=by rw[<- hw1];exact Zv.two w _ _
   have HB1:Zo8 w w1:=by rw[<- hw1];exact((Zoq _ w).alloc Zpf _).alloc Zc _
   clear hw1
   refine(ZaS s t _ hs ht).mono ?_
   rintro e w2 ⟨rfl,hb2⟩
   have HX2:=Zpe (HX1.out.below hb2 HX1.out.lt)
   have HB2:=Zpe (HB1.out.trans (hb2.mono HB1.out.size))
   clear hb2
   rw[H1.out]
   have kc2:=HX2.out.cell 1 0 (b:=w.heap.size+1) rfl rfl rfl
   have kd2:=HX2.out.cell 1 1 (b:=w.heap.size+1) rfl rfl rfl
   go_wp2_with fail
   refine(ZaS u v _ hu hv).mono ?_
   rintro e w3 ⟨rfl,hb3⟩
   rw[H2.out.1]
   have HB3:=Zpe (HB2.out.trans (hb3.mono HB2.out.size))
   clear hb3 kc2 kd2
   go_wp2
   go_ret
   exact⟨_,rfl,.inl ⟨H2.out.2,rfl⟩,HB3.out⟩
  ·obtain⟨g1,g2,_,_,l1,l2,d1⟩:=ZaY h1
   obtain⟨g3,g4,_,_,l3,l4,d2⟩:=ZaY h2
   have HG:=Zpe (Zo5 g1 (Zo5 g2 (Zo5 g3 g4)))
   have HD:=Zpe (Zo5 d1 d2)
   have H1:=Zpe (Zbg h1)
   have H2:=Zpe (Zbg h2)
   have HQ:Hid ((okP s t && okP u v)=true):=by show _=_;rw[h1,h2];rfl
   have HV:=Zpe (Zo5 (Za2 h1) (Za2 h2))
   clear h1 h2 g1 g2 g3 g4 d1 d2
   go_enter Tryz.func22,Tryz.ntmps22
   go_wp2_with fail
   obtain⟨w1,hw1⟩:=Zpg ((w.alloc (Zpc s t)).alloc (Zpc u v))
   rw[hw1]
   have HX1:Hid (Zv w.heap.size [Zpc s t,Zpc u v] w1):=by rw[<- hw1];exact Zv.two w _ _
   have HB1:Zo8 w w1:=by rw[<- hw1];exact((Zoq _ w).alloc Zpf _).alloc Zc _
   clear hw1
   refine(ZaS s t _ hs ht).mono ?_
   rintro e w2 ⟨rfl,hb2⟩
   have HX2:=Zpe (HX1.out.below hb2 HX1.out.lt)
   have HB2:=Zpe (HB1.out.trans (hb2.mono HB1.out.size))
   clear hb2
   rw[H1.out]
   have kc2:=HX2.out.cell 1 0 (b:=w.heap.size+1) rfl rfl rfl
   have kd2:=HX2.out.cell 1 1 (b:=w.heap.size+1) rfl rfl rfl
   go_wp2_with fail
   refine(ZaS u v _ hu hv).mono ?_
   rintro e w3 ⟨rfl,hb3⟩
   rw[H2.out]
   have HX3:=Zpe (HX2.out.below hb3 HX2.out.lt)
   have HB3:=Zpe (HB2.out.trans (hb3.mono HB2.out.size))
   clear hb3 kc2 kd2
   have k3:=HX3.out.f4
   obtain⟨ka3,kb3,kc3,kd3⟩:=id k3
   go_wp2_with fail
   obtain⟨n1,hn1⟩:=Zpg (Zq s.data.toList)
   obtain⟨d1,hd1⟩:=Zpg (Zq t.data.toList)
   obtain⟨n2,hn2⟩:=Zpg (Zq u.data.toList)
   obtain⟨d2,hd2⟩:=Zpg (Zq v.data.toList)
   have T1:=fun W:World=>Zdd s t hs ht HG.out.1 HG.out.2.1 W
   have T2:=fun W:World=>Zdd u v hu hv HG.out.2.2.1 HG.out.2.2.2 W
   rw[hn1,hd1] at T1
   rw[hn2,hd2] at T2
   have HT1:=Zpe T1
   have HT2:=Zpe T2
   clear T1 T2 ka3 kb3 kc3 kd3
   refine Zks Zb Zb (fun L a W=>∃ (t5 t6 t16 t17 t18 t19 va vb vc vd:Value) (b5 b6:Nat),a = { tmps:=#[Zpb s t,Zpb u v,.pointer (some ⟨w.heap.size,0,none⟩),.pointer (some ⟨w.heap.size+1,0,none⟩),.int .i64 0,t5,t6,undef,Zpb s t,.int .i64 0,.bool false,.bool false,Zpb u v,.int .i64 0,.bool false,.bool false,t16,t17,t18,t19,undef,undef,undef,undef,undef,undef,undef,undef,undef,undef,undef,undef,undef,undef],defers:=[] }/\CmpInv s t u v n1 d1 n2 d2 w L t5 t6 t16 t17 t18 t19 va vb vc vd b5 b6 W) ?h0 ?hstep ?hend
   case h0=>exact⟨_,_,_,_,_,_,undef,undef,undef,undef,0,0,rfl,⟨HB3.out.drew,HX3.out.drew,fun h=>h.elim,fun h=>h.elim,fun h=>h.elim,fun h=>h.elim,fun h=>h.elim,fun h=>h.elim,fun h=>h.elim⟩⟩
   case hstep=>
    rintro L a W i o hi hL he hC ⟨t5,t6,t16,t17,t18,t19,va,vb,vc,vd,b5,b6,rfl,hI⟩
    have HI:=Zpe hI
    have h6:¬ L 1\/¬ L 4->¬ L 6:=fun h h'=>by
     have a1:L 1:=hC 6 _ rfl h' 1 _ rfl rfl
     have a4:L 4:=hC 6 _ rfl h' 0 _ rfl rfl
     rcases h with h | h
     ·exact h a1
     ·exact h a4
    have h7:¬ L 3\/¬ L 5->¬ L 7:=fun h h'=>by
     have a3:L 3:=hC 7 _ rfl h' 1 _ rfl rfl
     have a5:L 5:=hC 7 _ rfl h' 0 _ rfl rfl
     rcases h with h | h
     ·exact h a3
     ·exact h a5
    clear hI hC
    match i,hi with
    | 0,hi=>
     obtain rfl:=Zou hi
     have q0:=HI.out.box.cell 0 0 (b:=w.heap.size) rfl rfl rfl
     have q1:=HI.out.box.cell 0 1 (b:=w.heap.size) rfl rfl rfl
     refine ZbU rfl fun K hK=>?_
     go_simp
     exact hK _ _ ⟨_,_,_,_,_,_,_,_,_,_,_,_,rfl,HI.out.s0⟩
    | 1,hi=>
     obtain rfl:=Zou hi
     have h0:=HI.out.l0 (he 0 _ rfl rfl)
     have g6:=h6 (.inl hL)
     subst h0
     refine ZbU rfl fun K hK=>?_
     go_simp
     go_at_call 67
     refine(HT1.out W).mono ?_
     rintro e W' ⟨x,y,rfl,hx,hy,hb⟩
     exact hK _ _ ⟨_,_,_,_,_,_,_,_,_,_,_,_,rfl,(HI.out.after hb).s1 g6 hx hy⟩
    | 2,hi=>
     obtain rfl:=Zou hi
     have q0:=HI.out.box.cell 1 0 (b:=w.heap.size+1) rfl rfl rfl
     have q1:=HI.out.box.cell 1 1 (b:=w.heap.size+1) rfl rfl rfl
     refine ZbU rfl fun K hK=>?_
     go_simp
     exact hK _ _ ⟨_,_,_,_,_,_,_,_,_,_,_,_,rfl,HI.out.s2⟩
    | 3,hi=>
     obtain rfl:=Zou hi
     have h0:=HI.out.l2 (he 0 _ rfl rfl)
     have g7:=h7 (.inl hL)
     subst h0
     refine ZbU rfl fun K hK=>?_
     go_simp
     go_at_call 67
     refine(HT2.out W).mono ?_
     rintro e W' ⟨x,y,rfl,hx,hy,hb⟩
     exact hK _ _ ⟨_,_,_,_,_,_,_,_,_,_,_,_,rfl,(HI.out.after hb).s3 g7 hx hy⟩
    | 4,hi=>
     obtain rfl:=Zou hi
     have g6:=h6 (.inr hL)
     refine ZbU rfl fun K hK=>?_
     go_simp
     exact hK _ _ ⟨_,_,_,_,_,_,_,_,_,_,_,_,rfl,HI.out.s4 g6⟩
    | 5,hi=>
     obtain rfl:=Zou hi
     have g7:=h7 (.inr hL)
     refine ZbU rfl fun K hK=>?_
     go_simp
     exact hK _ _ ⟨_,_,_,_,_,_,_,_,_,_,_,_,rfl,HI.out.s5 g7⟩
    | 6,hi=>
     obtain rfl:=Zou hi
     have g4:L 4:=he 0 _ rfl rfl
     have g5:L 5:=he 8 _ rfl rfl
     obtain⟨e1,e2,e3,e4,e5⟩:=HI.out.l4 g4
     obtain⟨e6,e7,e8⟩:=HI.out.l1 (he 1 _ rfl rfl)
     have q0:=Zn (e4 hL) 0 rfl
     have q1:=Zn (e4 hL) 1 rfl
     have q2:=Zo (e4 hL) 0
     have q3:=Zo (e4 hL) 1
     subst e1
     subst e6
     obtain⟨pA,lA,cA,rfl⟩:=e7.form'
     obtain⟨pB,lB,cB,rfl⟩:=e8.form'
     clear e4 e5 e7 e8
     refine ZbU rfl fun K hK=>?_
     go_simp
     exact hK _ _ ⟨_,_,_,_,_,_,_,_,_,_,_,_,rfl,HI.out.s6 hL g4 g5⟩
    | 7,hi=>
     obtain rfl:=Zou hi
     have g4:L 4:=he 7 _ rfl rfl
     have g5:L 5:=he 0 _ rfl rfl
     obtain⟨e1,e2,e3,e4,e5⟩:=HI.out.l5 g5
     obtain⟨e6,e7,e8⟩:=HI.out.l3 (he 1 _ rfl rfl)
     have q0:=Zn (e4 hL) 0 rfl
     have q1:=Zn (e4 hL) 1 rfl
     have q2:=Zo (e4 hL) 0
     have q3:=Zo (e4 hL) 1
     subst e1
     subst e6
     obtain⟨pA,lA,cA,rfl⟩:=e7.form'
     obtain⟨pB,lB,cB,rfl⟩:=e8.form'
     clear e4 e5 e7 e8
     refine ZbU rfl fun K hK=>?_
     go_simp
     exact hK _ _ ⟨_,_,_,_,_,_,_,_,_,_,_,_,rfl,HI.out.s7 hL g4 g5⟩
    | n+8,hi=>simp at hi
   case hend=>
    rintro L a W hall ⟨t5,t6,t16,t17,t18,t19,va,vb,vc,vd,b5,b6,rfl,hI⟩
    have HI:=Zpe hI
    obtain⟨e1,e2,e3,_,e5⟩:=hI.l4 (hall 4 Zc)
    obtain⟨m1,m2,m3,_,m5⟩:=hI.l5 (hall 5 Zc)
    have H5:=Zpe (e5 (hall 6 Zc))
    have H6:=Zpe (m5 (hall 7 Zc))
    have HN1:=Zpe (hI.l1 (hall 1 Zc))
    have HN3:=Zpe (hI.l3 (hall 3 Zc))
    have HBW:=Zpe hI.below
    subst e1
    subst m1
    clear hI e5 m5 hall
    obtain⟨p1,y1,c1,rfl⟩:=HN1.out.2.1.form'
    obtain⟨p2,y2,c2,rfl⟩:=HN1.out.2.2.form'
    obtain⟨p3,y3,c3,rfl⟩:=HN3.out.2.1.form'
    obtain⟨p4,y4,c4,rfl⟩:=HN3.out.2.2.form'
    have k0:=Zn H5.out 0 rfl
    have k1:=Zn H5.out 1 rfl
    have k2:=Zn H6.out 0 rfl
    have k3:=Zn H6.out 1 rfl
    have L1:Hid ((Zp 1000000000 n1).length<=1000/\(Zp 1000000000 d1).length<=1000/\(Zp 1000000000 n2).length<=1000/\(Zp 1000000000 d2).length<=1000):=by
     subst hn1;subst hd1;subst hn2;subst hd2;exact⟨l1,l2,l3,l4⟩
    have M1:Hid ((Zp 1000000000 (n1*d2)).length<=1000000):=Zoz (ZbM L1.out.1 L1.out.2.2.2) Za
    have M2:Hid ((Zp 1000000000 (n2*d1)).length<=1000000):=Zoz (ZbM L1.out.2.2.1 L1.out.2.1) Za
    go_wp2_with fail
    go_region_held3
     (fun w'=>w'.cell? ⟨b5,0,none⟩=some (.slice p1 y1 c1)/\w'.cell? ⟨b5,1,none⟩=some (.slice p2 y2 c2)/\w'.cell? ⟨b6,0,none⟩=some (.slice p3 y3 c3)/\w'.cell? ⟨b6,1,none⟩=some (.slice p4 y4 c4))
     (first | exact⟨k0,k1,k2,k3⟩ | exact⟨ka2,kb2,kc2,kd2⟩ | exact⟨ka3,kb3,kc3,kd3⟩ | exact⟨ka4,kb4,kc4,kd4⟩)
     (first
      | (go_at_call_of 68 (Value.slice p1 y1 c1);(refine(Zau (HN1.out.2.1.after (Zoq W.heap.size W).drew Zpf) (HN3.out.2.2.after (Zoq W.heap.size W).drew Zpf) L1.out.1 L1.out.2.2.2).mono ?_;rintro e w2 ⟨xa,rfl,hv,hb⟩;obtain⟨pa,ma,ca,rfl⟩:=hv.form';have HA:=Zpe hv;have F5:=Zpe ((hb.block b5 e3).trans H5.out);have F6:=Zpe ((hb.block b6 m3).trans H6.out);have HB2:Zo8 W w2:=((Zoq W.heap.size W).drew).trans hb;have ka2:=Zn F5.out 0 rfl;have kb2:=Zn F5.out 1 rfl;have kc2:=Zn F6.out 0 rfl;have kd2:=Zn F6.out 1 rfl;clear hv hb))
      | (go_at_call_of 68 (Value.slice p3 y3 c3);refine(Zau (HN3.out.2.1.after HB2.out Zpf) (HN1.out.2.2.after HB2.out Zpf) L1.out.2.2.1 L1.out.2.1).mono ?_;rintro e w3 ⟨xb,rfl,hv,hb⟩;obtain⟨pb,mb,cb,rfl⟩:=hv.form';have HA3:=Zpe (HA.out.after hb Zpf);have HC:=Zpe hv;have HB3:Zo8 W w3:=HB2.out.trans (hb.mono HB2.out.size);have F53:=Zpe ((HB3.out.block b5 e3).trans H5.out);have F63:=Zpe ((HB3.out.block b6 m3).trans H6.out);have ka3:=Zn F53.out 0 rfl;have kb3:=Zn F53.out 1 rfl;have kc3:=Zn F63.out 0 rfl;have kd3:=Zn F63.out 1 rfl;clear hv hb)
      | (go_at_call 69;refine(ZbN HA3.out HC.out M1.out M2.out).mono ?_;rintro e w4 ⟨r,rfl,hsg,hb⟩;have HSG:=Zpe hsg;have HB4:Zo8 W w4:=HB3.out.trans (hb.mono HB3.out.size);have F54:=Zpe ((HB4.out.block b5 e3).trans H5.out);have F64:=Zpe ((HB4.out.block b6 m3).trans H6.out);have ka4:=Zn F54.out 0 rfl;have kb4:=Zn F54.out 1 rfl;have kc4:=Zn F64.out 0 rfl;have kd4:=Zn F64.out 1 rfl;clear hb hsg))
    clear k0 k1 k2 k3
    have HS:Hid (max (-1) (min 1 r)=sgnR (ratP s t) (ratP u v)):=Zml (HV.out.1.1) (HV.out.2.1) (by rw[<- HV.out.1.2.1,<- HV.out.1.2.2,<- HV.out.2.2.1,<- HV.out.2.2.2,hn1,hd1,hn2,hd2];exact HSG.out)
    go_wp2
    go_ret
    exact⟨_,rfl,.inr ⟨HQ.out,HS.out⟩,HBW.out.trans (HB4.out.mono HBW.out.size)⟩
end Go.Proofs.YtmpaflidennnoaaGreatDoor
