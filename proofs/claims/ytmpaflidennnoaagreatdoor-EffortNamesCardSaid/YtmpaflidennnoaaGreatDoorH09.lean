/- The parts Two, Ops, Inv of a proof, put together by program (merge7.py). -/
import Derived.Test.YtmpaflidennnoaaGreatDoorH08
import Derived.Test.YtmpaflidennnoaaGreatDoorH02
import Derived.Test.YtmpaflidennnoaaGreatDoorH03
import Derived.OrdersHeld
set_option maxRecDepth 100000
set_option maxHeartbeats 4000000
set_option linter.unusedVariables false
set_option linter.unusedSimpArgs false
namespace Go.Proofs.YtmpaflidennnoaaGreatDoor
open Go.RowKit Go.Shelf
attribute [local go_sem ↓] Go.wp_at_zero Go.wp_at_succ
def Bi (s t u v:ByteArray) (R:ByteArray→ByteArray→Int→Prop) (x y:ByteArray) (e:Int):Prop:=
 ((okP s t && okP u v)=false∧x=str []∧y=str []∧e=2)∨((okP s t && okP u v)=true∧R x y e)
theorem ZaD {s t:ByteArray} (h:okP s t=true):(∀ c ∈ s.data.toList,ZB c=true)∧(∀ c ∈ t.data.toList,ZB c=true)∧s.size≤1000000∧t.size≤1000000∧
  (Zd 1000000000 (Zg s.data.toList)).length≤1000∧(Zd 1000000000 (Zg t.data.toList)).length≤1000∧0<Zg t.data.toList:=by
 obtain⟨h1,h2,h3,h4⟩:=Zfb.1 h
 obtain⟨c1,l1⟩:=Z6 h1
 obtain⟨c2,l2⟩:=Z6 h2
 rw[Zs] at l1 l2
 exact⟨c1.dig,c2.dig,by omega,by omega,Nat.le_trans (ZbG c1.dig (j:=70) (by omega)) (by omega),Nat.le_trans (ZbG c2.dig (j:=70) (by omega)) (by omega),h3⟩
theorem Zfh {F:Nat} (hent:∀ args w,(callFunc F args).run Tryz.prog w=.ok (.enter F args) w) {R:ByteArray→ByteArray→Int→Prop} (s t u v:ByteArray) (w:World) (hs:s.size≤1000000) (ht:t.size≤1000000) (hu:u.size≤1000000) (hv:v.size≤1000000) (hT:Tabs w)
  (hc:okP s t=true→okP u v=true→∀ (v1 v2 v3 v4:Value) (W:World),Num W v1 (Zg s.data.toList)→Num W v2 (Zg t.data.toList)→Num W v3 (Zg u.data.toList)→Num W v4 (Zg v.data.toList)→Tabs W→Calls Tryz.prog F #[.agg #[v1,v2],.agg #[v3,v4]] W (Zx R W)) :
  Calls Tryz.prog 98 #[.agg #[.string s,.string t],.agg #[.string u,.string v],.func (.func F) #[] #[]] w (Zx (Bi s t u v R) w):=by
 have HT:=Lib.hid hT
 have HCC:=Lib.hid hc
 clear hT hc
 go_enter Tryz.func98,Tryz.ntmps98
 go_wp2_with fail
 obtain⟨w1,hw1⟩:∃ w1,((w.alloc (.cells #[.string s,.string t] 41)).alloc (.cells #[.string u,.string v] 41)).alloc (.cells #[.string ⟨#[]⟩,.string ⟨#[]⟩] 41)=w1:=⟨_,rfl⟩
 rw[hw1]
 have HX1:Hid (Zk w.heap.size [.cells #[.string s,.string t] 41,.cells #[.string u,.string v] 41,.cells #[.string ⟨#[]⟩,.string ⟨#[]⟩] 41] w1):=by rw[← hw1];exact Zk.three w _ _ _
 have HB1:Hid (Below w.heap.size w w1):=by rw[← hw1];exact(((Below.refl _ w).alloc (Nat.le_refl _) _).alloc (by simp) _).alloc (by simp<;>omega) _
 clear hw1
 refine(Zay s t _ hs ht).mono ?_
 rintro e w2 ⟨rfl,hb2⟩
 have HX2:=Lib.hid (HX1.out.below hb2 HX1.out.lt)
 have HB2:=Lib.hid (HB1.out.trans (hb2.mono HB1.out.size))
 clear hb2
 cases h1:okP s t
 ·have H1:Hid ((okP s t && okP u v)=false):=by show _=_;rw[h1];rfl
  rw[Zbv h1]
  clear h1
  have r0:=HX2.out.cell 2 0 (b:=w.heap.size+1+1) rfl rfl rfl
  have r1:=HX2.out.cell 2 1 (b:=w.heap.size+1+1) rfl rfl rfl
  have f0:=HX2.out.free 2 0 (b:=w.heap.size+1+1) rfl rfl
  have f1:=HX2.out.free 2 1 (b:=w.heap.size+1+1) rfl rfl
  go_wp2
  have q:=Zh (HX2.out.block 2 (b:=w.heap.size+1+1) rfl rfl) (.string ⟨#[]⟩) (.string ⟨#[]⟩)
  have HBQ:=Lib.hid (Zf HB2.out (b:=w.heap.size+1+1) (by omega) (.string ⟨#[]⟩) (.string ⟨#[]⟩))
  obtain⟨w9,hw9⟩:∃ w9,(w2.setCell ⟨w.heap.size+1+1,0,none⟩ (.string ⟨#[]⟩)).setCell ⟨w.heap.size+1+1,1,none⟩ (.string ⟨#[]⟩)=w9:=⟨_,rfl⟩
  rw[hw9] at q HBQ
  obtain⟨q0,q1⟩:=q
  rw[hw9]
  clear r0 r1 f0 f1 hw9
  go_wp2
  refine bodyPost_ret (v:=.tuple #[.agg #[.string ⟨#[]⟩,.string ⟨#[]⟩],.int .i64 2]) (by simp[results,Tryz.f98,go_sem,q0,q1]) rfl ⟨_,_,_,rfl,?_,HBQ.out⟩
  exact .inl ⟨H1.out,rfl,rfl,rfl⟩
 have H1:=Lib.hid h1
 rw[Zb8 h1]
 clear h1
 have kc2:=HX2.out.cell 1 0 (b:=w.heap.size+1) rfl rfl rfl
 have kd2:=HX2.out.cell 1 1 (b:=w.heap.size+1) rfl rfl rfl
 go_wp2_with fail
 refine(Zay u v _ hu hv).mono ?_
 rintro e w3 ⟨rfl,hb3⟩
 have HX3:=Lib.hid (HX2.out.below hb3 HX2.out.lt)
 have HB3:=Lib.hid (HB2.out.trans (hb3.mono HB2.out.size))
 clear hb3 kc2 kd2
 cases h2:okP u v
 ·have H2:Hid ((okP s t && okP u v)=false):=by show _=_;rw[h2,Bool.and_false]
  rw[Zbv h2]
  clear h2
  have r0:=HX3.out.cell 2 0 (b:=w.heap.size+1+1) rfl rfl rfl
  have r1:=HX3.out.cell 2 1 (b:=w.heap.size+1+1) rfl rfl rfl
  have f0:=HX3.out.free 2 0 (b:=w.heap.size+1+1) rfl rfl
  have f1:=HX3.out.free 2 1 (b:=w.heap.size+1+1) rfl rfl
  go_wp2
  have q:=Zh (HX3.out.block 2 (b:=w.heap.size+1+1) rfl rfl) (.string ⟨#[]⟩) (.string ⟨#[]⟩)
  have HBQ:=Lib.hid (Zf HB3.out (b:=w.heap.size+1+1) (by omega) (.string ⟨#[]⟩) (.string ⟨#[]⟩))
  obtain⟨w9,hw9⟩:∃ w9,(w3.setCell ⟨w.heap.size+1+1,0,none⟩ (.string ⟨#[]⟩)).setCell ⟨w.heap.size+1+1,1,none⟩ (.string ⟨#[]⟩)=w9:=⟨_,rfl⟩
  rw[hw9] at q HBQ
  obtain⟨q0,q1⟩:=q
  rw[hw9]
  clear r0 r1 f0 f1 hw9
  go_wp2
  refine bodyPost_ret (v:=.tuple #[.agg #[.string ⟨#[]⟩,.string ⟨#[]⟩],.int .i64 2]) (by simp[results,Tryz.f98,go_sem,q0,q1]) rfl ⟨_,_,_,rfl,?_,HBQ.out⟩
  exact .inl ⟨H2.out,rfl,rfl,rfl⟩
 have HQ:Hid ((okP s t && okP u v)=true):=by show _=_;rw[H1.out,h2];rfl
 have HC:=Lib.hid (HCC.out H1.out h2)
 obtain⟨g1,g2,_⟩:=ZaD H1.out
 obtain⟨g3,g4,_⟩:=ZaD h2
 have HG:=Lib.hid (And.intro g1 (And.intro g2 (And.intro g3 g4)))
 rw[Zb8 h2]
 clear h2 HCC H1 g1 g2 g3 g4
 have ka3:=HX3.out.cell 0 0 (b:=w.heap.size) rfl rfl rfl
 have kb3:=HX3.out.cell 0 1 (b:=w.heap.size) rfl rfl rfl
 have kc3:=HX3.out.cell 1 0 (b:=w.heap.size+1) rfl rfl rfl
 have kd3:=HX3.out.cell 1 1 (b:=w.heap.size+1) rfl rfl rfl
 go_wp2_with fail
 go_region_held3
  (fun w'=>w'.cell? ⟨w.heap.size,0,none⟩=some (.string s)∧w'.cell? ⟨w.heap.size,1,none⟩=some (.string t)∧w'.cell? ⟨w.heap.size+1,0,none⟩=some (.string u)∧w'.cell? ⟨w.heap.size+1,1,none⟩=some (.string v))
  (first | exact⟨ka3,kb3,kc3,kd3⟩ | exact⟨ka4,kb4,kc4,kd4⟩ | exact⟨ka5,kb5,kc5,kd5⟩ | exact⟨(Zy _ _ _ (by omega) _).trans ka9,(Zy _ _ _ (by omega) _).trans kb9,(Zy _ _ _ (by omega) _).trans kc9,(Zy _ _ _ (by omega) _).trans kd9⟩ | exact⟨ka9,kb9,kc9,kd9⟩)
  (first
   | (go_at_call_of 67 (Value.agg #[.string s,.string t]);refine(ZcR s t hs ht HG.out.1 HG.out.2.1 _).mono ?_;rintro e w4 ⟨va,vb,rfl,hva,hvb,hb⟩;obtain⟨p4,m4,c4,rfl⟩:=hva.form';obtain⟨q4,n4,d4,rfl⟩:=hvb.form';have HA:=Lib.hid hva;have HD:=Lib.hid hvb;have HX4:=Lib.hid (HX3.out.drew.below hb HX3.out.lt);have HB4:Hid (Below w.heap.size w w4):=HB3.out.drew.trans (hb.mono HB3.out.drew.size);have ka4:=HX4.out.cell 0 0 (b:=w.heap.size) rfl rfl rfl;have kb4:=HX4.out.cell 0 1 (b:=w.heap.size) rfl rfl rfl;have kc4:=HX4.out.cell 1 0 (b:=w.heap.size+1) rfl rfl rfl;have kd4:=HX4.out.cell 1 1 (b:=w.heap.size+1) rfl rfl rfl;clear hva hvb hb)
   | (go_at_call_of 67 (Value.agg #[.string u,.string v]);refine(ZcR u v hu hv HG.out.2.2.1 HG.out.2.2.2 _).mono ?_;rintro e w5 ⟨vc,vd,rfl,hva,hvb,hb⟩;obtain⟨p5,m5,c5,rfl⟩:=hva.form';obtain⟨q5,n5,d5,rfl⟩:=hvb.form';have HE:=Lib.hid hva;have HF:=Lib.hid hvb;have HA5:=Lib.hid (HA.out.after hb (Nat.le_refl _));have HC5:=Lib.hid (HD.out.after hb (Nat.le_refl _));have HX5:=Lib.hid (HX4.out.below hb HX4.out.lt);have HB5:Hid (Below w.heap.size w w5):=HB4.out.trans (hb.mono HB4.out.size);have ka5:=HX5.out.cell 0 0 (b:=w.heap.size) rfl rfl rfl;have kb5:=HX5.out.cell 0 1 (b:=w.heap.size) rfl rfl rfl;have kc5:=HX5.out.cell 1 0 (b:=w.heap.size+1) rfl rfl rfl;have kd5:=HX5.out.cell 1 1 (b:=w.heap.size+1) rfl rfl rfl;clear hva hvb hb)
   | (refine(HC.out _ _ _ _ _ HA5.out HC5.out HE.out HF.out (HT.out.below HB5.out (Nat.le_refl _))).mono ?_;rintro e w9 ⟨x,y,n,rfl,hR,hb9⟩;have HR:=Lib.hid hR;have HX9:=Lib.hid (HX5.out.below hb9 HX5.out.lt);have HB9:Hid (Below w.heap.size w w9):=HB5.out.trans (hb9.mono HB5.out.size);have ka9:=HX9.out.cell 0 0 (b:=w.heap.size) rfl rfl rfl;have kb9:=HX9.out.cell 0 1 (b:=w.heap.size) rfl rfl rfl;have kc9:=HX9.out.cell 1 0 (b:=w.heap.size+1) rfl rfl rfl;have kd9:=HX9.out.cell 1 1 (b:=w.heap.size+1) rfl rfl rfl;have r0:=HX9.out.cell 2 0 (b:=w.heap.size+1+1) rfl rfl rfl;have r1:=HX9.out.cell 2 1 (b:=w.heap.size+1+1) rfl rfl rfl;have f0:=HX9.out.free 2 0 (b:=w.heap.size+1+1) rfl rfl;have f1:=HX9.out.free 2 1 (b:=w.heap.size+1+1) rfl rfl;clear hR hb9)
  )
 all_goals
  have q:=Zh (HX9.out.block 2 (b:=w.heap.size+1+1) rfl rfl) (.string x) (.string y)
  have HBQ:=Lib.hid (Zf HB9.out (b:=w.heap.size+1+1) (by omega) (.string x) (.string y))
  obtain⟨wz,hwz⟩:∃ wz,(w9.setCell ⟨w.heap.size+1+1,0,none⟩ (.string x)).setCell ⟨w.heap.size+1+1,1,none⟩ (.string y)=wz:=⟨_,rfl⟩
  rw[hwz] at q HBQ
  obtain⟨q0,q1⟩:=q
  rw[hwz]
  clear r0 r1 f0 f1 hwz
  go_wp2
  refine bodyPost_ret (v:=.tuple #[.agg #[.string x,.string y],.int .i64 n]) (by simp[results,Tryz.f98,go_sem,q0,q1]) rfl ⟨_,_,_,rfl,.inr ⟨HQ.out,HR.out⟩,HBQ.out⟩
theorem Zmv (s t u v:ByteArray) (w:World) (hs:s.size≤1000000) (ht:t.size≤1000000) (hu:u.size≤1000000) (hv:v.size≤1000000) (hT:Tabs w) :
  Calls Tryz.prog 98 #[.agg #[.string s,.string t],.agg #[.string u,.string v],.func (.func 167) #[] #[]] w (Zx (Bi s t u v (Ans (mkRat ((Zg s.data.toList*Zg u.data.toList:Nat):Int) (Zg t.data.toList*Zg v.data.toList)))) w):=
 Zfh (enters_of Tryz.func167 (by kernel_rfl) rfl) s t u v w hs ht hu hv hT fun h1 h2 v1 v2 v3 v4 W a b c d hT=>by
  obtain⟨_,_,_,_,l1,l2,d1⟩:=ZaD h1
  obtain⟨_,_,_,_,l3,l4,d2⟩:=ZaD h2
  exact Zl6 a b c d l1 l2 l3 l4 d1 d2 hT
theorem Zmg (s t u v:ByteArray) (w:World) (hs:s.size≤1000000) (ht:t.size≤1000000) (hu:u.size≤1000000) (hv:v.size≤1000000) (hT:Tabs w) :
  Calls Tryz.prog 98 #[.agg #[.string s,.string t],.agg #[.string u,.string v],.func (.func 99) #[] #[]] w (Zx (Bi s t u v (Ans (mkRat ((Zg s.data.toList*Zg v.data.toList+Zg u.data.toList*Zg t.data.toList:Nat):Int) (Zg t.data.toList*Zg v.data.toList)))) w):=
 Zfh (enters_of Tryz.func99 (by kernel_rfl) rfl) s t u v w hs ht hu hv hT fun h1 h2 v1 v2 v3 v4 W a b c d hT=>by
  obtain⟨_,_,_,_,l1,l2,d1⟩:=ZaD h1
  obtain⟨_,_,_,_,l3,l4,d2⟩:=ZaD h2
  exact Zl2 a b c d l1 l2 l3 l4 d1 d2 hT
theorem Zmc (s t u v:ByteArray) (w:World) (hs:s.size≤1000000) (ht:t.size≤1000000) (hu:u.size≤1000000) (hv:v.size≤1000000) (hT:Tabs w) :
  Calls Tryz.prog 98 #[.agg #[.string s,.string t],.agg #[.string u,.string v],.func (.func 154) #[] #[]] w (Zx (Bi s t u v (SubR (Zg s.data.toList) (Zg t.data.toList) (Zg u.data.toList) (Zg v.data.toList))) w):=
 Zfh (enters_of Tryz.func154 (by kernel_rfl) rfl) s t u v w hs ht hu hv hT fun h1 h2 v1 v2 v3 v4 W a b c d hT=>by
  obtain⟨_,_,_,_,l1,l2,d1⟩:=ZaD h1
  obtain⟨_,_,_,_,l3,l4,d2⟩:=ZaD h2
  exact ZlQ a b c d l1 l2 l3 l4 d1 d2 hT
def DivR (n1 d1 n2 d2:Nat) (s t:ByteArray) (e:Int):Prop:=
 (n2=0∧s=str []∧t=str []∧e=10)∨(0<n2∧Ans (mkRat ((n1*d2:Nat):Int) (d1*n2)) s t e)
theorem ZlU {v1 v2 v3 v4:Value} {n1 d1 n2 d2:Nat} {w:World} (h1:Num w v1 n1) (h2:Num w v2 d1) (h3:Num w v3 n2) (h4:Num w v4 d2)
  (l1:(Zd 1000000000 n1).length≤1000) (l2:(Zd 1000000000 d1).length≤1000) (l3:(Zd 1000000000 n2).length≤1000) (l4:(Zd 1000000000 d2).length≤1000) (hd1:0<d1) (hd2:0<d2) (hT:Tabs w) :
  Calls Tryz.prog 205 #[.agg #[v1,v2],.agg #[v3,v4]] w (Zx (DivR n1 d1 n2 d2) w):=by
 rcases Nat.eq_zero_or_pos n2 with h0 | h0
 ·refine(Zlm h1 h2 h3 h4 l1 l2 l3 l4 hd1 hd2 hT h0).mono ?_
  rintro e w' ⟨s,t,n,rfl,hr,hb⟩
  exact⟨s,t,n,rfl,.inl ⟨h0,hr⟩,hb⟩
 ·refine(ZlJ h1 h2 h3 h4 l1 l2 l3 l4 hd1 hd2 hT h0).mono ?_
  rintro e w' ⟨s,t,n,rfl,hr,hb⟩
  exact⟨s,t,n,rfl,.inr ⟨h0,hr⟩,hb⟩
theorem ZmC (s t u v:ByteArray) (w:World) (hs:s.size≤1000000) (ht:t.size≤1000000) (hu:u.size≤1000000) (hv:v.size≤1000000) (hT:Tabs w) :
  Calls Tryz.prog 98 #[.agg #[.string s,.string t],.agg #[.string u,.string v],.func (.func 205) #[] #[]] w (Zx (Bi s t u v (DivR (Zg s.data.toList) (Zg t.data.toList) (Zg u.data.toList) (Zg v.data.toList))) w):=
 Zfh (enters_of Tryz.func205 (by kernel_rfl) rfl) s t u v w hs ht hu hv hT fun h1 h2 v1 v2 v3 v4 W a b c d hT=>by
  obtain⟨_,_,_,_,l1,l2,d1⟩:=ZaD h1
  obtain⟨_,_,_,_,l3,l4,d2⟩:=ZaD h2
  exact ZlU a b c d l1 l2 l3 l4 d1 d2 hT
def SubA (a b:Rat) (x y:ByteArray) (e:Int):Prop:=(a<b∧x=str []∧y=str []∧e=11)∨(b≤a∧Ans (a-b) x y e)
def DivA (a b:Rat) (x y:ByteArray) (e:Int):Prop:=(b=0∧x=str []∧y=str []∧e=10)∨(0<b∧Ans (a/b) x y e)
theorem Zbr {s t:ByteArray} (h:okP s t=true):0≤ratP s t∧Zg s.data.toList=(ratP s t).num.toNat∧Zg t.data.toList=(ratP s t).den:=
 ⟨(ZaA h).nn,(ZaA h).vals.1,(ZaA h).vals.2⟩
theorem Bi.mono {s t u v x y:ByteArray} {e:Int} {R R':ByteArray→ByteArray→Int→Prop} (h:Bi s t u v R x y e) (f:okP s t=true→okP u v=true→R x y e→R' x y e):Bi s t u v R' x y e:=by
 rcases h with h | ⟨h1,h2⟩
 ·exact .inl h
 ·rw[Bool.and_eq_true] at h1
  exact .inr ⟨by rw[Bool.and_eq_true];exact h1,f h1.1 h1.2 h2⟩
theorem ZmL {s t u v x y:ByteArray} {e:Int} (h:Bi s t u v (Ans (mkRat ((Zg s.data.toList*Zg u.data.toList:Nat):Int) (Zg t.data.toList*Zg v.data.toList))) x y e):Bi s t u v (Ans (ratP s t*ratP u v)) x y e:=
 h.mono fun h1 h2 h3=>by
  obtain⟨a1,a2,a3⟩:=Zbr h1
  obtain⟨b1,b2,b3⟩:=Zbr h2
  rw[Zlk a1 b1,← a2,← a3,← b2,← b3];exact h3
theorem ZmK {s t u v x y:ByteArray} {e:Int} (h:Bi s t u v (Ans (mkRat ((Zg s.data.toList*Zg v.data.toList+Zg u.data.toList*Zg t.data.toList:Nat):Int) (Zg t.data.toList*Zg v.data.toList))) x y e):Bi s t u v (Ans (ratP s t+ratP u v)) x y e:=
 h.mono fun h1 h2 h3=>by
  obtain⟨a1,a2,a3⟩:=Zbr h1
  obtain⟨b1,b2,b3⟩:=Zbr h2
  rw[ZkK a1 b1,← a2,← a3,← b2,← b3];exact h3
theorem ZmO {s t u v x y:ByteArray} {e:Int} (h:Bi s t u v (SubR (Zg s.data.toList) (Zg t.data.toList) (Zg u.data.toList) (Zg v.data.toList)) x y e):Bi s t u v (SubA (ratP s t) (ratP u v)) x y e:=
 h.mono fun h1 h2 h3=>by
  obtain⟨a1,a2,a3⟩:=Zbr h1
  obtain⟨b1,b2,b3⟩:=Zbr h2
  unfold SubR at h3
  rw[a2,a3,b2,b3] at h3
  rcases h3 with ⟨k,h3⟩ | ⟨k,h3⟩
  ·exact .inl ⟨(Zim a1 b1).2 k,h3⟩
  ·have hk:=(Ze2 b1 a1).2 k
   exact .inr ⟨hk,by rw[Zle a1 b1 hk];exact h3⟩
theorem ZmS {s t u v x y:ByteArray} {e:Int} (h:Bi s t u v (DivR (Zg s.data.toList) (Zg t.data.toList) (Zg u.data.toList) (Zg v.data.toList)) x y e):Bi s t u v (DivA (ratP s t) (ratP u v)) x y e:=
 h.mono fun h1 h2 h3=>by
  obtain⟨a1,a2,a3⟩:=Zbr h1
  obtain⟨b1,b2,b3⟩:=Zbr h2
  unfold DivR at h3
  rw[a2,a3,b2,b3] at h3
  rcases h3 with ⟨k,h3⟩ | ⟨k,h3⟩
  ·refine .inl ⟨?_,h3⟩
   have h4:=ZO b1
   rw[k] at h4
   exact Rat.num_eq_zero.1 h4.symm
  ·have hk:0<ratP u v:=by
    refine Rat.lt_of_le_of_ne b1 fun h0=>?_
    rw[← h0] at k
    exact absurd k (by decide)
   exact .inr ⟨hk,by rw[ZkY a1 hk];exact h3⟩
theorem ZmD (s t u v:ByteArray) (w:World) (hs:s.size≤1000000) (ht:t.size≤1000000) (hu:u.size≤1000000) (hv:v.size≤1000000) (hT:Tabs w) :
  Calls Tryz.prog 119 #[.agg #[.string s,.string t],.agg #[.string u,.string v]] w (Zx (Bi s t u v (Ans (ratP s t*ratP u v))) w):=by
 have HT:=Lib.hid hT
 clear hT
 go_enter Tryz.func119,Tryz.ntmps119
 go_wp2_with fail
 obtain⟨w1,hw1⟩:∃ w1,((w.alloc (.cells #[.string s,.string t] 41)).alloc (.cells #[.string u,.string v] 41)).alloc (.cells #[.string ⟨#[]⟩,.string ⟨#[]⟩] 41)=w1:=⟨_,rfl⟩
 rw[hw1]
 have HX1:Hid (Zk w.heap.size [.cells #[.string s,.string t] 41,.cells #[.string u,.string v] 41,.cells #[.string ⟨#[]⟩,.string ⟨#[]⟩] 41] w1):=by rw[← hw1];exact Zk.three w _ _ _
 have HB1:Hid (Below w.heap.size w w1):=by rw[← hw1];exact(((Below.refl _ w).alloc (Nat.le_refl _) _).alloc (by simp) _).alloc (by simp<;>omega) _
 clear hw1
 refine(Zmv s t u v _ hs ht hu hv (HT.out.below HB1.out (Nat.le_refl _))).mono ?_
 rintro e w2 ⟨x,y,n,rfl,hR,hb2⟩
 have HR:=Lib.hid (ZmL hR)
 have HX2:=Lib.hid (HX1.out.below hb2 HX1.out.lt)
 have HB2:=Lib.hid (HB1.out.trans (hb2.mono HB1.out.size))
 clear hR hb2
 have r0:=HX2.out.cell 2 0 (b:=w.heap.size+1+1) rfl rfl rfl
 have r1:=HX2.out.cell 2 1 (b:=w.heap.size+1+1) rfl rfl rfl
 have f0:=HX2.out.free 2 0 (b:=w.heap.size+1+1) rfl rfl
 have f1:=HX2.out.free 2 1 (b:=w.heap.size+1+1) rfl rfl
 go_wp2
 have q:=Zh (HX2.out.block 2 (b:=w.heap.size+1+1) rfl rfl) (.string x) (.string y)
 have HBQ:=Lib.hid (Zf HB2.out (b:=w.heap.size+1+1) (by omega) (.string x) (.string y))
 obtain⟨w9,hw9⟩:∃ w9,(w2.setCell ⟨w.heap.size+1+1,0,none⟩ (.string x)).setCell ⟨w.heap.size+1+1,1,none⟩ (.string y)=w9:=⟨_,rfl⟩
 rw[hw9] at q HBQ
 obtain⟨q0,q1⟩:=q
 rw[hw9]
 clear r0 r1 f0 f1 hw9
 go_wp2
 refine bodyPost_ret (v:=.tuple #[.agg #[.string x,.string y],.int .i64 n]) (by simp[results,Tryz.f119,go_sem,q0,q1]) rfl ⟨_,_,_,rfl,?_,HBQ.out⟩
 exact HR.out
theorem Zju (s t u v:ByteArray) (w:World) (hs:s.size≤1000000) (ht:t.size≤1000000) (hu:u.size≤1000000) (hv:v.size≤1000000) (hT:Tabs w) :
  Calls Tryz.prog 42 #[.agg #[.string s,.string t],.agg #[.string u,.string v]] w (Zx (Bi s t u v (Ans (ratP s t+ratP u v))) w):=by
 have HT:=Lib.hid hT
 clear hT
 go_enter Tryz.func42,Tryz.ntmps42
 go_wp2_with fail
 obtain⟨w1,hw1⟩:∃ w1,((w.alloc (.cells #[.string s,.string t] 41)).alloc (.cells #[.string u,.string v] 41)).alloc (.cells #[.string ⟨#[]⟩,.string ⟨#[]⟩] 41)=w1:=⟨_,rfl⟩
 rw[hw1]
 have HX1:Hid (Zk w.heap.size [.cells #[.string s,.string t] 41,.cells #[.string u,.string v] 41,.cells #[.string ⟨#[]⟩,.string ⟨#[]⟩] 41] w1):=by rw[← hw1];exact Zk.three w _ _ _
 have HB1:Hid (Below w.heap.size w w1):=by rw[← hw1];exact(((Below.refl _ w).alloc (Nat.le_refl _) _).alloc (by simp) _).alloc (by simp<;>omega) _
 clear hw1
 refine(Zmg s t u v _ hs ht hu hv (HT.out.below HB1.out (Nat.le_refl _))).mono ?_
 rintro e w2 ⟨x,y,n,rfl,hR,hb2⟩
 have HR:=Lib.hid (ZmK hR)
 have HX2:=Lib.hid (HX1.out.below hb2 HX1.out.lt)
 have HB2:=Lib.hid (HB1.out.trans (hb2.mono HB1.out.size))
 clear hR hb2
 have r0:=HX2.out.cell 2 0 (b:=w.heap.size+1+1) rfl rfl rfl
 have r1:=HX2.out.cell 2 1 (b:=w.heap.size+1+1) rfl rfl rfl
 have f0:=HX2.out.free 2 0 (b:=w.heap.size+1+1) rfl rfl
 have f1:=HX2.out.free 2 1 (b:=w.heap.size+1+1) rfl rfl
 go_wp2
 have q:=Zh (HX2.out.block 2 (b:=w.heap.size+1+1) rfl rfl) (.string x) (.string y)
 have HBQ:=Lib.hid (Zf HB2.out (b:=w.heap.size+1+1) (by omega) (.string x) (.string y))
 obtain⟨w9,hw9⟩:∃ w9,(w2.setCell ⟨w.heap.size+1+1,0,none⟩ (.string x)).setCell ⟨w.heap.size+1+1,1,none⟩ (.string y)=w9:=⟨_,rfl⟩
 rw[hw9] at q HBQ
 obtain⟨q0,q1⟩:=q
 rw[hw9]
 clear r0 r1 f0 f1 hw9
 go_wp2
 refine bodyPost_ret (v:=.tuple #[.agg #[.string x,.string y],.int .i64 n]) (by simp[results,Tryz.f42,go_sem,q0,q1]) rfl ⟨_,_,_,rfl,?_,HBQ.out⟩
 exact HR.out
theorem ZjF (s t u v:ByteArray) (w:World) (hs:s.size≤1000000) (ht:t.size≤1000000) (hu:u.size≤1000000) (hv:v.size≤1000000) (hT:Tabs w) :
  Calls Tryz.prog 104 #[.agg #[.string s,.string t],.agg #[.string u,.string v]] w (Zx (Bi s t u v (SubA (ratP s t) (ratP u v))) w):=by
 have HT:=Lib.hid hT
 clear hT
 go_enter Tryz.func104,Tryz.ntmps104
 go_wp2_with fail
 obtain⟨w1,hw1⟩:∃ w1,((w.alloc (.cells #[.string s,.string t] 41)).alloc (.cells #[.string u,.string v] 41)).alloc (.cells #[.string ⟨#[]⟩,.string ⟨#[]⟩] 41)=w1:=⟨_,rfl⟩
 rw[hw1]
 have HX1:Hid (Zk w.heap.size [.cells #[.string s,.string t] 41,.cells #[.string u,.string v] 41,.cells #[.string ⟨#[]⟩,.string ⟨#[]⟩] 41] w1):=by rw[← hw1];exact Zk.three w _ _ _
 have HB1:Hid (Below w.heap.size w w1):=by rw[← hw1];exact(((Below.refl _ w).alloc (Nat.le_refl _) _).alloc (by simp) _).alloc (by simp<;>omega) _
 clear hw1
 refine(Zmc s t u v _ hs ht hu hv (HT.out.below HB1.out (Nat.le_refl _))).mono ?_
 rintro e w2 ⟨x,y,n,rfl,hR,hb2⟩
 have HR:=Lib.hid (ZmO hR)
 have HX2:=Lib.hid (HX1.out.below hb2 HX1.out.lt)
 have HB2:=Lib.hid (HB1.out.trans (hb2.mono HB1.out.size))
 clear hR hb2
 have r0:=HX2.out.cell 2 0 (b:=w.heap.size+1+1) rfl rfl rfl
 have r1:=HX2.out.cell 2 1 (b:=w.heap.size+1+1) rfl rfl rfl
 have f0:=HX2.out.free 2 0 (b:=w.heap.size+1+1) rfl rfl
 have f1:=HX2.out.free 2 1 (b:=w.heap.size+1+1) rfl rfl
 go_wp2
 have q:=Zh (HX2.out.block 2 (b:=w.heap.size+1+1) rfl rfl) (.string x) (.string y)
 have HBQ:=Lib.hid (Zf HB2.out (b:=w.heap.size+1+1) (by omega) (.string x) (.string y))
 obtain⟨w9,hw9⟩:∃ w9,(w2.setCell ⟨w.heap.size+1+1,0,none⟩ (.string x)).setCell ⟨w.heap.size+1+1,1,none⟩ (.string y)=w9:=⟨_,rfl⟩
 rw[hw9] at q HBQ
 obtain⟨q0,q1⟩:=q
 rw[hw9]
 clear r0 r1 f0 f1 hw9
 go_wp2
 refine bodyPost_ret (v:=.tuple #[.agg #[.string x,.string y],.int .i64 n]) (by simp[results,Tryz.f104,go_sem,q0,q1]) rfl ⟨_,_,_,rfl,?_,HBQ.out⟩
 exact HR.out
theorem Zmw (s t u v:ByteArray) (w:World) (hs:s.size≤1000000) (ht:t.size≤1000000) (hu:u.size≤1000000) (hv:v.size≤1000000) (hT:Tabs w) :
  Calls Tryz.prog 169 #[.agg #[.string s,.string t],.agg #[.string u,.string v]] w (Zx (Bi s t u v (DivA (ratP s t) (ratP u v))) w):=by
 have HT:=Lib.hid hT
 clear hT
 go_enter Tryz.func169,Tryz.ntmps169
 go_wp2_with fail
 obtain⟨w1,hw1⟩:∃ w1,((w.alloc (.cells #[.string s,.string t] 41)).alloc (.cells #[.string u,.string v] 41)).alloc (.cells #[.string ⟨#[]⟩,.string ⟨#[]⟩] 41)=w1:=⟨_,rfl⟩
 rw[hw1]
 have HX1:Hid (Zk w.heap.size [.cells #[.string s,.string t] 41,.cells #[.string u,.string v] 41,.cells #[.string ⟨#[]⟩,.string ⟨#[]⟩] 41] w1):=by rw[← hw1];exact Zk.three w _ _ _
 have HB1:Hid (Below w.heap.size w w1):=by rw[← hw1];exact(((Below.refl _ w).alloc (Nat.le_refl _) _).alloc (by simp) _).alloc (by simp<;>omega) _
 clear hw1
 refine(ZmC s t u v _ hs ht hu hv (HT.out.below HB1.out (Nat.le_refl _))).mono ?_
 rintro e w2 ⟨x,y,n,rfl,hR,hb2⟩
 have HR:=Lib.hid (ZmS hR)
 have HX2:=Lib.hid (HX1.out.below hb2 HX1.out.lt)
 have HB2:=Lib.hid (HB1.out.trans (hb2.mono HB1.out.size))
 clear hR hb2
 have r0:=HX2.out.cell 2 0 (b:=w.heap.size+1+1) rfl rfl rfl
 have r1:=HX2.out.cell 2 1 (b:=w.heap.size+1+1) rfl rfl rfl
 have f0:=HX2.out.free 2 0 (b:=w.heap.size+1+1) rfl rfl
 have f1:=HX2.out.free 2 1 (b:=w.heap.size+1+1) rfl rfl
 go_wp2
 have q:=Zh (HX2.out.block 2 (b:=w.heap.size+1+1) rfl rfl) (.string x) (.string y)
 have HBQ:=Lib.hid (Zf HB2.out (b:=w.heap.size+1+1) (by omega) (.string x) (.string y))
 obtain⟨w9,hw9⟩:∃ w9,(w2.setCell ⟨w.heap.size+1+1,0,none⟩ (.string x)).setCell ⟨w.heap.size+1+1,1,none⟩ (.string y)=w9:=⟨_,rfl⟩
 rw[hw9] at q HBQ
 obtain⟨q0,q1⟩:=q
 rw[hw9]
 clear r0 r1 f0 f1 hw9
 go_wp2
 refine bodyPost_ret (v:=.tuple #[.agg #[.string x,.string y],.int .i64 n]) (by simp[results,Tryz.f169,go_sem,q0,q1]) rfl ⟨_,_,_,rfl,?_,HBQ.out⟩
 exact HR.out
end Go.Proofs.YtmpaflidennnoaaGreatDoor
namespace Go.Proofs.YtmpaflidennnoaaGreatDoor
open Go.RowKit
section
variable {P:Program} {ops:Array Oper} {Q:Exit→Act→World→Prop} {md:Region.Mode}
def Zdm (listed:Array Bool):Nat:=(listed.toList.filter fun b=>!b).length
theorem Ze3:∀ (l:List Bool) (i:Nat),l[i]?=some false→((l.set i true).filter fun b=>!b).length+1=(l.filter fun b=>!b).length
 | [],i,h=>by simp at h
 | b::l,0,h=>by
  simp at h;subst h;simp
 | b::l,i+1,h=>by
  have ih:=Ze3 l i (by simpa using h)
  rw[List.set_cons_succ,List.filter_cons,List.filter_cons]
  cases b<;>simp<;>omega
theorem ZdX {listed:Array Bool} {i:Nat} (h:listed.getD i true=false):Zdm (listed.setIfInBounds i true)+1=Zdm listed:=by
 unfold Zdm
 rw[Array.toList_setIfInBounds]
 refine Ze3 _ i ?_
 rcases Nat.lt_or_ge i listed.size with h' | h'
 ·simp[h'] at h ⊢;exact h
 ·simp[Array.getD,Nat.not_lt.2 h'] at h
def Zd8 (ops:Array Oper):Bool:=(List.range ops.size).all fun j=>match ops[j]? with | some o=>o.after.all fun e=>decide (e.on<j) | none=>true
theorem Zf4 (ho:Zd8 ops=true) {listed:Array Bool} (hs:listed.size=ops.size) (h:Region.ready md ops listed=[]):∀ j,j<ops.size→listed.getD j false=true:=by
 intro j
 induction j using Nat.strongRecOn with
 | _ j ih=>
  intro hj
  cases hl:listed.getD j true with
  | true=>
   have:j<listed.size:=by omega
   simp[this] at hl ⊢;exact hl
  | false=>
   exfalso
   have hm:j ∈ Region.ready md ops listed:=mem_ready.2 ⟨hl,ops[j],by simp[hj],fun e he _=>by
    unfold Zd8 at ho
    rw[List.all_eq_true] at ho
    have h1:=ho j (List.mem_range.2 hj)
    rw[Array.getElem?_eq_getElem hj] at h1
    have h2:=Array.all_eq_true_iff_forall_mem.1 h1 e he
    have h3:e.on<j:=of_decide_eq_true h2
    exact ih e.on h3 (by omega)⟩
   rw[h] at hm
   cases hm
theorem Zg5 (Inv:Array Bool→Act→World→Prop) (ho:Zd8 ops=true)
  (hstep:∀ (listed:Array Bool) (a:Act) (w:World) (i:Nat) (o:Oper),ops[i]?=some o→listed.size=ops.size→listed.getD i true=false→(∀ e ∈ o.after,Region.binds md e=true→listed.getD e.on false=true)→
   Inv listed a w→wpOp P ops Q i (Inv (listed.setIfInBounds i true)) a w)
  (hend:∀ (listed:Array Bool) (a:Act) (w:World),(∀ j,j<ops.size→listed.getD j false=true)→Inv listed a w→Q .normal a w) :
  ∀ (fuel:Nat) (listed:Array Bool) (a:Act) (w:World),Zdm listed≤fuel→listed.size=ops.size→Inv listed a w→wpAny P md ops Q fuel listed a w
 | 0,listed,a,w,hf,hs,hi=>by
  have hr:Region.ready md ops listed=[]:=by
   rcases h:Region.ready md ops listed with _ | ⟨i,r⟩
   ·rfl
   ·have:i ∈ Region.ready md ops listed:=by rw[h];exact List.mem_cons_self
    have:=ZdX (mem_ready.1 this).1
    omega
  exact⟨hr,hend listed a w (Zf4 ho hs hr) hi⟩
 | fuel+1,listed,a,w,hf,hs,hi=>by
  refine⟨fun hr=>hend listed a w (Zf4 ho hs hr) hi,fun i him=>?_⟩
  obtain⟨h1,o,h2,h3⟩:=mem_ready.1 him
  refine wpOp_mono (fun a' w' h'=>Zg5 Inv ho hstep hend fuel _ a' w' ?_ ?_ h') (hstep listed a w i o h2 hs h1 h3 hi)
  ·have:=ZdX h1;omega
  ·rw[Array.size_setIfInBounds];exact hs
theorem ZhA {listed:Array Bool} {i:Nat} (h:listed.getD i true=false):(listed.setIfInBounds i true).getD i false=true:=by
 rcases Nat.lt_or_ge i listed.size with h' | h'
 ·simp[h']
 ·simp[Array.getD,Nat.not_lt.2 h'] at h
theorem ZgY {listed:Array Bool} {i j:Nat} (h:j≠i):(listed.setIfInBounds i true).getD j false=listed.getD j false:=by
 rw[Array.getD_eq_getD_getElem?,Array.getD_eq_getD_getElem?,Array.getElem?_setIfInBounds_ne (Ne.symm h)]
theorem ZhY {listed:Array Bool} {i j:Nat} (h:listed.getD i true=false):(listed.setIfInBounds i true).getD j false=true↔j=i∨listed.getD j false=true:=by
 by_cases hj:j=i
 ·subst hj;simp only[true_or,iff_true];exact ZhA h
 ·rw[ZgY hj];simp[hj]
theorem ZkF {l:List Oper} {id:Nat} {a:Act} {w:World} (hm:P.follows .mixedOrders=true) (ho:Zd8 l.toArray=true) (Inv:(Nat→Prop)→Act→World→Prop)
  (h0:Inv (fun _=>False) a w.drew)
  (hstep:∀ (L:Nat→Prop) (a:Act) (w:World) (i:Nat) (o:Oper),l[i]?=some o→¬ L i→(∀ (k:Nat) e,o.after[k]?=some e→Region.binds .any e=true→L e.on)→
   (∀ j o',l[j]?=some o'→L j→∀ (k:Nat) e,o'.after[k]?=some e→Region.binds .any e=true→L e.on)→Inv L a w→(if Region.wanted o (yielded l.toArray a.tmps) then o.wp P a w (Inv fun j=>j=i∨L j) Q else Inv (fun j=>j=i∨L j) (a.put o.dst undef) w))
  (hend:∀ (L:Nat→Prop) (a:Act) (w:World),(∀ j,j<l.length→L j)→Inv L a w→Q .normal a w):(Code.region id l.toArray true).wp P Q a w:=by
 refine wp_region_any hm (Zg5 (fun listed a w=>∃ L:Nat→Prop,(∀ j,listed.getD j false=true↔L j)∧(∀ j o',l[j]?=some o'→L j→∀ e ∈ o'.after,Region.binds .any e=true→L e.on)∧Inv L a w) ho ?_ ?_ _ _ _ _ ?_ (by simp) ⟨_,fun j=>?_,fun _ _ _ h=>h.elim,h0⟩)
 ·rintro listed a w i o hi hs hl he ⟨L,hL,hC,hI⟩
  have h1:=hstep L a w i o (by simpa using hi) (by
   intro hc
   have:=(hL i).2 hc
   rcases Nat.lt_or_ge i listed.size with h' | h'
   ·simp[h'] at this hl;rw[this] at hl;cases hl
   ·simp[Array.getD,Nat.not_lt.2 h'] at hl) (fun k e he' hb=>(hL _).1 (he e (Array.mem_of_getElem? he') hb)) (fun j o' h1 h2 k e h3 h4=>hC j o' h1 h2 e (Array.mem_of_getElem? h3) h4) hI
  unfold wpOp
  simp only[hi]
  have hset:∀ j,(listed.setIfInBounds i true).getD j false=true↔(j=i∨L j):=fun j=>by rw[ZhY hl,hL]
  have hC':∀ j o',l[j]?=some o'→(j=i∨L j)→∀ e ∈ o'.after,Region.binds .any e=true→(e.on=i∨L e.on):=fun j o' hj hd e he' hb=>by
   rcases hd with rfl | hd
   ·have:o'=o:=Option.some.inj (hj.symm.trans (by simpa using hi))
    subst this
    exact .inr ((hL _).1 (he e he' hb))
   ·exact .inr (hC j o' hj hd e he' hb)
  split at h1
  ·rename_i hw;simp only[hw,if_true];exact .inl (Oper.wp_mono (fun a' w' h'=>⟨_,hset,hC',h'⟩) h1)
  ·rename_i hw;simp only[hw];exact⟨_,hset,hC',h1⟩
 ·rintro listed a w hall ⟨L,hL,_,hI⟩
  exact hend L a w (fun j hj=>(hL j).1 (hall j (by simpa using hj))) hI
 ·unfold Zdm;simp
 ·simp[Array.getD]
theorem ZbD {l:List Oper} {o:Oper} {a:Act} {w:World} {I:Act→World→Prop} {J:Prop} (hw:Region.wanted o (yielded l.toArray a.tmps)=true)
  (h:∀ K:Act→World→Prop,(∀ a' w',I a' w'→K a' w')→o.wp P a w K Q):if Region.wanted o (yielded l.toArray a.tmps) then o.wp P a w I Q else J:=by
 rw[if_pos hw]
 exact h I fun _ _ h=>h
end
end Go.Proofs.YtmpaflidennnoaaGreatDoor
