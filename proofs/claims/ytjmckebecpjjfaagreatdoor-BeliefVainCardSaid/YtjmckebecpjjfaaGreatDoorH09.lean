/- The parts Order, Must, List, Share, Sum. -/
import Derived.Test.YtjmckebecpjjfaaGreatDoorH08
import Derived.Deep.DeepCutAuto
import Derived.Recover
set_option maxRecDepth 100000
set_option maxHeartbeats 4000000
set_option linter.unusedVariables false
set_option linter.unusedSimpArgs false
namespace Go.Proofs.YtjmckebecpjjfaaGreatDoor
open Go.RowKit Go.Shelf
attribute [local go_sem ↓] Go.wp_at_zero Go.wp_at_succ
def sgnR (a b:Rat):Int:=if a<b then -1 else if a=b then 0 else 1
def CmpA (s t u v:ByteArray) (n:Int):Prop:=((okP s t && okP u v)=false/\n=0)\/((okP s t && okP u v)=true/\n=sgnR (ratP s t) (ratP u v))
def ZnV (s t u v:ByteArray) (w:World) (e:Ending) (w':World):Prop:=∃ n:Int,e=.returned (.int .i64 n)/\CmpA s t u v n/\Below w.heap.size w w'
theorem ZpE {a b:Rat} (ha:0<=a) (hb:0<=b) {r:Int} (h:Sign (a.num.toNat*b.den) (b.num.toNat*a.den) r):max (-1) (min 1 r)=sgnR a b:=by
 obtain⟨h1,h2,_,_⟩:=h
 unfold sgnR
 by_cases hl:a<b
 ·rw[if_pos hl]
  have:=h1.2 ((ZnE ha hb).1 hl)
  omega
 ·rw[if_neg hl]
  by_cases he:a=b
  ·rw[if_pos he]
   have:=h2.2 ((ZnI ha hb).1 he)
   omega
  ·rw[if_neg he]
   have k1:¬ r<0:=fun h=>hl ((ZnE ha hb).2 (h1.1 h))
   have k2:¬ r=0:=fun h=>he ((ZnI ha hb).2 (h2.1 h))
   omega
def ZcD:Obj:=.cells #[.slice none 0 0,.slice none 0 0] 107
def ZhO (a b:Value):Obj:=.cells #[a,b] 107
structure CmpInv (s t u v:ByteArray) (n1 d1 n2 d2:Nat) (w:World) (L:Nat->Prop) (t5 t6 t16 t17 t18 t19 va vb vc vd:Value) (b5 b6:Nat) (W:World):Prop where
 below:Below w.heap.size w W
 box:Zu w.heap.size [ZqF s t,ZqF u v] W
 l0:L 0->t16=ZqE s t
 l2:L 2->t18=ZqE u v
 l1:L 1->t17=.agg #[va,vb]/\Num W va n1/\Num W vb d1
 l3:L 3->t19=.agg #[vc,vd]/\Num W vc n2/\Num W vd d2
 l4:L 4->t5=.pointer (some ⟨b5,0,none⟩)/\w.heap.size+2<=b5/\b5<W.heap.size/\(¬ L 6->W.heap[b5]?=some ZcD)/\(L 6->W.heap[b5]?=some (ZhO va vb))
 l5:L 5->t6=.pointer (some ⟨b6,0,none⟩)/\w.heap.size+2<=b6/\b6<W.heap.size/\(¬ L 7->W.heap[b6]?=some ZcD)/\(L 7->W.heap[b6]?=some (ZhO vc vd))
 ne:L 4->L 5->b5≠b6
section
variable {s t u v:ByteArray} {n1 d1 n2 d2:Nat} {w:World} {L:Nat->Prop} {t5 t6 t16 t17 t18 t19 va vb vc vd:Value} {b5 b6:Nat} {W W':World}
theorem CmpInv.after (h:CmpInv s t u v n1 d1 n2 d2 w L t5 t6 t16 t17 t18 t19 va vb vc vd b5 b6 W) (hb:Below W.heap.size W W'):CmpInv s t u v n1 d1 n2 d2 w L t5 t6 t16 t17 t18 t19 va vb vc vd b5 b6 W':=by
 refine⟨h.below.trans (hb.mono h.below.size),h.box.below hb h.box.lt,h.l0,h.l2,fun k=>?_,fun k=>?_,fun k=>?_,fun k=>?_,h.ne⟩
 ·obtain⟨e,x,y⟩:=h.l1 k
  exact⟨e,x.after hb ZqI,y.after hb ZqI⟩
 ·obtain⟨e,x,y⟩:=h.l3 k
  exact⟨e,x.after hb ZqI,y.after hb ZqI⟩
 ·obtain⟨e,x,y,z,z'⟩:=h.l4 k
  have:=hb.block b5 y
  exact⟨e,x,Zp2 y hb.size,fun m=>by rw[this];exact z m,fun m=>by rw[this];exact z' m⟩
 ·obtain⟨e,x,y,z,z'⟩:=h.l5 k
  have:=hb.block b6 y
  exact⟨e,x,Zp2 y hb.size,fun m=>by rw[this];exact z m,fun m=>by rw[this];exact z' m⟩
theorem CmpInv.s0 (h:CmpInv s t u v n1 d1 n2 d2 w L t5 t6 t16 t17 t18 t19 va vb vc vd b5 b6 W):CmpInv s t u v n1 d1 n2 d2 w (fun j=>j=0\/L j) t5 t6 (ZqE s t) t17 t18 t19 va vb vc vd b5 b6 W:=by
 refine⟨h.below,h.box,fun _=>rfl,fun k=>h.l2 (by simpa using k),fun k=>h.l1 (by simpa using k),fun k=>h.l3 (by simpa using k),fun k=>?_,fun k=>?_,fun k m=>h.ne (by simpa using k) (by simpa using m)⟩
 ·simpa using h.l4 (by simpa using k)
 ·simpa using h.l5 (by simpa using k)
theorem CmpInv.s2 (h:CmpInv s t u v n1 d1 n2 d2 w L t5 t6 t16 t17 t18 t19 va vb vc vd b5 b6 W):CmpInv s t u v n1 d1 n2 d2 w (fun j=>j=2\/L j) t5 t6 t16 t17 (ZqE u v) t19 va vb vc vd b5 b6 W:=by
 refine⟨h.below,h.box,fun k=>h.l0 (by simpa using k),fun _=>rfl,fun k=>h.l1 (by simpa using k),fun k=>h.l3 (by simpa using k),fun k=>?_,fun k=>?_,fun k m=>h.ne (by simpa using k) (by simpa using m)⟩
 ·simpa using h.l4 (by simpa using k)
 ·simpa using h.l5 (by simpa using k)
theorem CmpInv.s1 (h:CmpInv s t u v n1 d1 n2 d2 w L t5 t6 t16 t17 t18 t19 va vb vc vd b5 b6 W) (h6:¬ L 6) {va' vb':Value} (ha:Num W va' n1) (hb:Num W vb' d1) :
  CmpInv s t u v n1 d1 n2 d2 w (fun j=>j=1\/L j) t5 t6 t16 (.agg #[va',vb']) t18 t19 va' vb' vc vd b5 b6 W:=by
 refine⟨h.below,h.box,fun k=>h.l0 (by simpa using k),fun k=>h.l2 (by simpa using k),fun _=>⟨rfl,ha,hb⟩,fun k=>h.l3 (by simpa using k),fun k=>?_,fun k=>?_,fun k m=>h.ne (by simpa using k) (by simpa using m)⟩
 ·obtain⟨e,x,y,z,z'⟩:=h.l4 (by simpa using k)
  exact⟨e,x,y,fun _=>z h6,fun m=>Zqx (by simpa using m) h6⟩
 ·simpa using h.l5 (by simpa using k)
theorem CmpInv.s3 (h:CmpInv s t u v n1 d1 n2 d2 w L t5 t6 t16 t17 t18 t19 va vb vc vd b5 b6 W) (h7:¬ L 7) {va' vb':Value} (ha:Num W va' n2) (hb:Num W vb' d2) :
  CmpInv s t u v n1 d1 n2 d2 w (fun j=>j=3\/L j) t5 t6 t16 t17 t18 (.agg #[va',vb']) va vb va' vb' b5 b6 W:=by
 refine⟨h.below,h.box,fun k=>h.l0 (by simpa using k),fun k=>h.l2 (by simpa using k),fun k=>h.l1 (by simpa using k),fun _=>⟨rfl,ha,hb⟩,fun k=>?_,fun k=>?_,fun k m=>h.ne (by simpa using k) (by simpa using m)⟩
 ·simpa using h.l4 (by simpa using k)
 ·obtain⟨e,x,y,z,z'⟩:=h.l5 (by simpa using k)
  exact⟨e,x,y,fun _=>z h7,fun m=>Zqx (by simpa using m) h7⟩
theorem CmpInv.s4 (h:CmpInv s t u v n1 d1 n2 d2 w L t5 t6 t16 t17 t18 t19 va vb vc vd b5 b6 W) (h6:¬ L 6) :
  CmpInv s t u v n1 d1 n2 d2 w (fun j=>j=4\/L j) (.pointer (some ⟨W.heap.size,0,none⟩)) t6 t16 t17 t18 t19 va vb vc vd W.heap.size b6 (W.alloc ZcD):=by
 have k:=h.after ((ZpV W.heap.size W).alloc ZqI ZcD)
 refine⟨k.below,k.box,fun m=>k.l0 (by simpa using m),fun m=>k.l2 (by simpa using m),fun m=>k.l1 (by simpa using m),fun m=>k.l3 (by simpa using m),fun m=>?_,fun m=>?_,fun _ m=>?_⟩
 ·exact⟨rfl,h.box.lt,Zc,fun _=>ZpY W _,fun m=>Zqx (by simpa using m) h6⟩
 ·simpa using k.l5 (by simpa using m)
 ·have:=(h.l5 (by simpa using m)).2.2.1;omega
theorem CmpInv.s5 (h:CmpInv s t u v n1 d1 n2 d2 w L t5 t6 t16 t17 t18 t19 va vb vc vd b5 b6 W) (h7:¬ L 7) :
  CmpInv s t u v n1 d1 n2 d2 w (fun j=>j=5\/L j) t5 (.pointer (some ⟨W.heap.size,0,none⟩)) t16 t17 t18 t19 va vb vc vd b5 W.heap.size (W.alloc ZcD):=by
 have k:=h.after ((ZpV W.heap.size W).alloc ZqI ZcD)
 refine⟨k.below,k.box,fun m=>k.l0 (by simpa using m),fun m=>k.l2 (by simpa using m),fun m=>k.l1 (by simpa using m),fun m=>k.l3 (by simpa using m),fun m=>?_,fun m=>?_,fun m _=>?_⟩
 ·simpa using k.l4 (by simpa using m)
 ·exact⟨rfl,h.box.lt,Zc,fun _=>ZpY W _,fun m=>Zqx (by simpa using m) h7⟩
 ·have:=(h.l4 (by simpa using m)).2.2.1;omega
theorem Zjl {b:Nat} (hz:W.heap[b]?=some ZcD) (x y:Value) :
  Keeps (fun i=>i≠b) W ((W.setCell ⟨b,0,none⟩ x).setCell ⟨b,1,none⟩ y)/\((W.setCell ⟨b,0,none⟩ x).setCell ⟨b,1,none⟩ y).heap[b]?=some (ZhO x y)/\
   (∀ (z:Value) (n:Nat),Num W z n->Num ((W.setCell ⟨b,0,none⟩ x).setCell ⟨b,1,none⟩ y) z n):=by
 have hk:Keeps (fun i=>i≠b) W ((W.setCell ⟨b,0,none⟩ x).setCell ⟨b,1,none⟩ y):=((Keeps.refl _ W).setCell Zc _).setCell Zc _
 exact⟨hk,ZQ hz x y,fun z n h=>h.keepsBut hz (ZhT _ _ (fun x h=>by cases h) (fun x h=>by cases h)) hk⟩
theorem CmpInv.s6 (h:CmpInv s t u v n1 d1 n2 d2 w L t5 t6 t16 t17 t18 t19 va vb vc vd b5 b6 W) (h6:¬ L 6) (h4:L 4) (h5:L 5) :
  CmpInv s t u v n1 d1 n2 d2 w (fun j=>j=6\/L j) t5 t6 t16 t17 t18 t19 va vb vc vd b5 b6 ((W.setCell ⟨b5,0,none⟩ va).setCell ⟨b5,1,none⟩ vb):=by
 obtain⟨e,x,y,z,z'⟩:=h.l4 h4
 obtain⟨hk,hn,hN⟩:=Zjl (z h6) va vb
 have hne:=h.ne h4 h5
 refine⟨Zy h.below Za _ _,h.box.keeps hk (fun i hi=>by have:i<2:=hi;omega),fun m=>h.l0 (by simpa using m),fun m=>h.l2 (by simpa using m),fun m=>?_,fun m=>?_,fun m=>?_,fun m=>?_,fun _ _=>hne⟩
 ·obtain⟨q1,q2,q3⟩:=h.l1 (by simpa using m)
  exact⟨q1,hN _ _ q2,hN _ _ q3⟩
 ·obtain⟨q1,q2,q3⟩:=h.l3 (by simpa using m)
  exact⟨q1,hN _ _ q2,hN _ _ q3⟩
 ·exact⟨e,x,Zp2 y hk.size,fun m=>Zqx (.inl rfl) m,fun _=>hn⟩
 ·obtain⟨q1,q2,q3,q4,q5⟩:=h.l5 h5
  have hb:=hk.block b6 q3 (Ne.symm hne)
  exact⟨q1,q2,Zp2 q3 hk.size,fun m=>by rw[hb];exact q4 (by simpa using m),fun m=>by rw[hb];exact q5 (by simpa using m)⟩
theorem CmpInv.s7 (h:CmpInv s t u v n1 d1 n2 d2 w L t5 t6 t16 t17 t18 t19 va vb vc vd b5 b6 W) (h7:¬ L 7) (h4:L 4) (h5:L 5) :
  CmpInv s t u v n1 d1 n2 d2 w (fun j=>j=7\/L j) t5 t6 t16 t17 t18 t19 va vb vc vd b5 b6 ((W.setCell ⟨b6,0,none⟩ vc).setCell ⟨b6,1,none⟩ vd):=by
 obtain⟨e,x,y,z,z'⟩:=h.l5 h5
 obtain⟨hk,hn,hN⟩:=Zjl (z h7) vc vd
 have hne:=h.ne h4 h5
 refine⟨Zy h.below Za _ _,h.box.keeps hk (fun i hi=>by have:i<2:=hi;omega),fun m=>h.l0 (by simpa using m),fun m=>h.l2 (by simpa using m),fun m=>?_,fun m=>?_,fun m=>?_,fun m=>?_,fun _ _=>hne⟩
 ·obtain⟨q1,q2,q3⟩:=h.l1 (by simpa using m)
  exact⟨q1,hN _ _ q2,hN _ _ q3⟩
 ·obtain⟨q1,q2,q3⟩:=h.l3 (by simpa using m)
  exact⟨q1,hN _ _ q2,hN _ _ q3⟩
 ·obtain⟨q1,q2,q3,q4,q5⟩:=h.l4 h4
  have hb:=hk.block b5 q3 hne
  exact⟨q1,q2,Zp2 q3 hk.size,fun m=>by rw[hb];exact q4 (by simpa using m),fun m=>by rw[hb];exact q5 (by simpa using m)⟩
 ·exact⟨e,x,Zp2 y hk.size,fun m=>Zqx (.inl rfl) m,fun _=>hn⟩
end
theorem Zgu (s t u v:ByteArray) (w:World) (hs:s.size<=1000000) (ht:t.size<=1000000) (hu:u.size<=1000000) (hv:v.size<=1000000) :
  Calls Tryz.prog 18 #[ZqE s t,ZqE u v] w (ZnV s t u v w):=by
 cases h1:okP s t
 ·have H1:Hid (okE s t=2/\(okP s t && okP u v)=false):=⟨Zb9 h1,by rw[h1];rfl⟩
  clear h1
  go_enter Tryz.func18,Tryz.ntmps18
  go_wp2_with fail
  obtain⟨w1,hw1⟩:=ZqJ ((w.alloc (ZqF s t)).alloc (ZqF u v))
  rw[hw1]
  have HX1:Hid (Zu w.heap.size [ZqF s t,ZqF u v] w1):=by rw[<- hw1];exact Zu.two w _ _
  have HB1:ZqB w w1:=by rw[<- hw1];exact((ZpV _ w).alloc ZqI _).alloc Zc _
  clear hw1
  refine(Zbd s t _ hs ht).mono ?_
  rintro e w2 ⟨rfl,hb2⟩
  have HX2:=ZqH (HX1.out.below hb2 HX1.out.lt)
  have HB2:=ZqH (HB1.out.trans (hb2.mono HB1.out.size))
  clear hb2
  rw[H1.out.1]
  go_wp2
  go_ret
  exact⟨_,rfl,.inl ⟨H1.out.2,rfl⟩,HB2.out⟩
 ·cases h2:okP u v
  ·have H1:=ZqH (ZcJ h1)
   have H2:Hid (okE u v=2/\(okP s t && okP u v)=false):=⟨Zb9 h2,by rw[h2,Bool.and_false]⟩
   clear h1 h2
   go_enter Tryz.func18,Tryz.ntmps18
   go_wp2_with fail
   obtain⟨w1,hw1⟩:=ZqJ ((w.alloc (ZqF s t)).alloc (ZqF u v))
   rw[hw1]
   have HX1:Hid (Zu w.heap.size [ZqF s t,ZqF u v] w1):=by rw[<- hw1];exact Zu.two w _ _
   have HB1:ZqB w w1:=by rw[<- hw1];exact((ZpV _ w).alloc ZqI _).alloc Zc _
   clear hw1
   refine(Zbd s t _ hs ht).mono ?_
   rintro e w2 ⟨rfl,hb2⟩
   have HX2:=ZqH (HX1.out.below hb2 HX1.out.lt)
   have HB2:=ZqH (HB1.out.trans (hb2.mono HB1.out.size))
   clear hb2
   rw[H1.out]
   have kc2:=HX2.out.cell 1 0 (b:=w.heap.size+1) rfl rfl rfl
   have kd2:=HX2.out.cell 1 1 (b:=w.heap.size+1) rfl rfl rfl
   go_wp2_with fail
   refine(Zbd u v _ hu hv).mono ?_
   rintro e w3 ⟨rfl,hb3⟩
   rw[H2.out.1]
   have HB3:=ZqH (HB2.out.trans (hb3.mono HB2.out.size))
   clear hb3 kc2 kd2
   go_wp2
   go_ret
   exact⟨_,rfl,.inl ⟨H2.out.2,rfl⟩,HB3.out⟩
  ·obtain⟨g1,g2,_,_,l1,l2,d1⟩:=Zbz h1
   obtain⟨g3,g4,_,_,l3,l4,d2⟩:=Zbz h2
   have HG:=ZqH (Zqy g1 (Zqy g2 (Zqy g3 g4)))
   have HD:=ZqH (Zqy d1 d2)
   have H1:=ZqH (ZcJ h1)
   have H2:=ZqH (ZcJ h2)
   have HQ:Hid ((okP s t && okP u v)=true):=by show _=_;rw[h1,h2];rfl
   have HV:=ZqH (Zqy (ZcH h1) (ZcH h2))
   clear h1 h2 g1 g2 g3 g4 d1 d2
   go_enter Tryz.func18,Tryz.ntmps18
   go_wp2_with fail
   obtain⟨w1,hw1⟩:=ZqJ ((w.alloc (ZqF s t)).alloc (ZqF u v))
   rw[hw1]
   have HX1:Hid (Zu w.heap.size [ZqF s t,ZqF u v] w1):=by rw[<- hw1];exact Zu.two w _ _
   have HB1:ZqB w w1:=by rw[<- hw1];exact((ZpV _ w).alloc ZqI _).alloc Zc _
   clear hw1
   refine(Zbd s t _ hs ht).mono ?_
   rintro e w2 ⟨rfl,hb2⟩
   have HX2:=ZqH (HX1.out.below hb2 HX1.out.lt)
   have HB2:=ZqH (HB1.out.trans (hb2.mono HB1.out.size))
   clear hb2
   rw[H1.out]
   have kc2:=HX2.out.cell 1 0 (b:=w.heap.size+1) rfl rfl rfl
   have kd2:=HX2.out.cell 1 1 (b:=w.heap.size+1) rfl rfl rfl
   go_wp2_with fail
   refine(Zbd u v _ hu hv).mono ?_
   rintro e w3 ⟨rfl,hb3⟩
   rw[H2.out]
   have HX3:=ZqH (HX2.out.below hb3 HX2.out.lt)
   have HB3:=ZqH (HB2.out.trans (hb3.mono HB2.out.size))
   clear hb3 kc2 kd2
   have k3:=HX3.out.f4
   obtain⟨ka3,kb3,kc3,kd3⟩:=id k3
   go_wp2_with fail
   obtain⟨n1,hn1⟩:=ZqJ (Zr s.data.toList)
   obtain⟨d1,hd1⟩:=ZqJ (Zr t.data.toList)
   obtain⟨n2,hn2⟩:=ZqJ (Zr u.data.toList)
   obtain⟨d2,hd2⟩:=ZqJ (Zr v.data.toList)
   have T1:=fun W:World=>Zdi s t hs ht HG.out.1 HG.out.2.1 W
   have T2:=fun W:World=>Zdi u v hu hv HG.out.2.2.1 HG.out.2.2.2 W
   rw[hn1,hd1] at T1
   rw[hn2,hd2] at T2
   have HT1:=ZqH T1
   have HT2:=ZqH T2
   clear T1 T2 ka3 kb3 kc3 kd3
   refine Zhp Zb Zb (fun L a W=>∃ (t5 t6 t16 t17 t18 t19 va vb vc vd:Value) (b5 b6:Nat),a = { tmps:=#[ZqE s t,ZqE u v,.pointer (some ⟨w.heap.size,0,none⟩),.pointer (some ⟨w.heap.size+1,0,none⟩),.int .i64 0,t5,t6,undef,ZqE s t,.int .i64 0,.bool false,.bool false,ZqE u v,.int .i64 0,.bool false,.bool false,t16,t17,t18,t19,undef,undef,undef,undef,undef,undef,undef,undef,undef,undef,undef,undef,undef,undef],defers:=[] }/\CmpInv s t u v n1 d1 n2 d2 w L t5 t6 t16 t17 t18 t19 va vb vc vd b5 b6 W) ?h0 ?hstep ?hend
   case h0=>exact⟨_,_,_,_,_,_,undef,undef,undef,undef,0,0,rfl,⟨HB3.out.drew,HX3.out.drew,fun h=>h.elim,fun h=>h.elim,fun h=>h.elim,fun h=>h.elim,fun h=>h.elim,fun h=>h.elim,fun h=>h.elim⟩⟩
   case hstep=>
    rintro L a W i o hi hL he hC ⟨t5,t6,t16,t17,t18,t19,va,vb,vc,vd,b5,b6,rfl,hI⟩
    have HI:=ZqH hI
    have h6:¬ L 1\/¬ L 4->¬ L 6:=fun h h'=>by
     have a1:L 1:=hC 6 _ rfl h' 1 _ rfl rfl
     have a4:L 4:=hC 6 _ rfl h' 0 _ rfl rfl
     rcases h with h | h
     ·exact h a1
     ·exact h a4
    have h7:¬ L 3\/¬ L 5->¬ L 7:=fun h h'=>by
     have a3:L 3:=hC 7 _ rfl h' 1 _ rfl rfl
     have a5:L 5:=hC 7 _ rfl h' 0 _ rfl rfl
     rcases h with h | h
     ·exact h a3
     ·exact h a5
    clear hI hC
    match i,hi with
    | 0,hi=>
     obtain rfl:=ZpZ hi
     have q0:=HI.out.box.cell 0 0 (b:=w.heap.size) rfl rfl rfl
     have q1:=HI.out.box.cell 0 1 (b:=w.heap.size) rfl rfl rfl
     refine ZY rfl fun K hK=>?_
     go_simp
     exact hK _ _ ⟨_,_,_,_,_,_,_,_,_,_,_,_,rfl,HI.out.s0⟩
    | 1,hi=>
     obtain rfl:=ZpZ hi
     have h0:=HI.out.l0 (he 0 _ rfl rfl)
     have g6:=h6 (.inl hL)
     subst h0
     refine ZY rfl fun K hK=>?_
     go_simp
     go_at_call 47
     refine(HT1.out W).mono ?_
     rintro e W' ⟨x,y,rfl,hx,hy,hb⟩
     exact hK _ _ ⟨_,_,_,_,_,_,_,_,_,_,_,_,rfl,(HI.out.after hb).s1 g6 hx hy⟩
    | 2,hi=>
     obtain rfl:=ZpZ hi
     have q0:=HI.out.box.cell 1 0 (b:=w.heap.size+1) rfl rfl rfl
     have q1:=HI.out.box.cell 1 1 (b:=w.heap.size+1) rfl rfl rfl
     refine ZY rfl fun K hK=>?_
     go_simp
     exact hK _ _ ⟨_,_,_,_,_,_,_,_,_,_,_,_,rfl,HI.out.s2⟩
    | 3,hi=>
     obtain rfl:=ZpZ hi
     have h0:=HI.out.l2 (he 0 _ rfl rfl)
     have g7:=h7 (.inl hL)
     subst h0
     refine ZY rfl fun K hK=>?_
     go_simp
     go_at_call 47
     refine(HT2.out W).mono ?_
     rintro e W' ⟨x,y,rfl,hx,hy,hb⟩
     exact hK _ _ ⟨_,_,_,_,_,_,_,_,_,_,_,_,rfl,(HI.out.after hb).s3 g7 hx hy⟩
    | 4,hi=>
     obtain rfl:=ZpZ hi
     have g6:=h6 (.inr hL)
     refine ZY rfl fun K hK=>?_
     go_simp
     exact hK _ _ ⟨_,_,_,_,_,_,_,_,_,_,_,_,rfl,HI.out.s4 g6⟩
    | 5,hi=>
     obtain rfl:=ZpZ hi
     have g7:=h7 (.inr hL)
     refine ZY rfl fun K hK=>?_
     go_simp
     exact hK _ _ ⟨_,_,_,_,_,_,_,_,_,_,_,_,rfl,HI.out.s5 g7⟩
    | 6,hi=>
     obtain rfl:=ZpZ hi
     have g4:L 4:=he 0 _ rfl rfl
     have g5:L 5:=he 8 _ rfl rfl
     obtain⟨e1,e2,e3,e4,e5⟩:=HI.out.l4 g4
     obtain⟨e6,e7,e8⟩:=HI.out.l1 (he 1 _ rfl rfl)
     have q0:=Zn (e4 hL) 0 rfl
     have q1:=Zn (e4 hL) 1 rfl
     have q2:=Zo (e4 hL) 0
     have q3:=Zo (e4 hL) 1
     subst e1
     subst e6
     obtain⟨pA,lA,cA,rfl⟩:=e7.form'
     obtain⟨pB,lB,cB,rfl⟩:=e8.form'
     clear e4 e5 e7 e8
     refine ZY rfl fun K hK=>?_
     go_simp
     exact hK _ _ ⟨_,_,_,_,_,_,_,_,_,_,_,_,rfl,HI.out.s6 hL g4 g5⟩
    | 7,hi=>
     obtain rfl:=ZpZ hi
     have g4:L 4:=he 7 _ rfl rfl
     have g5:L 5:=he 0 _ rfl rfl
     obtain⟨e1,e2,e3,e4,e5⟩:=HI.out.l5 g5
     obtain⟨e6,e7,e8⟩:=HI.out.l3 (he 1 _ rfl rfl)
     have q0:=Zn (e4 hL) 0 rfl
     have q1:=Zn (e4 hL) 1 rfl
     have q2:=Zo (e4 hL) 0
     have q3:=Zo (e4 hL) 1
     subst e1
     subst e6
     obtain⟨pA,lA,cA,rfl⟩:=e7.form'
     obtain⟨pB,lB,cB,rfl⟩:=e8.form'
     clear e4 e5 e7 e8
     refine ZY rfl fun K hK=>?_
     go_simp
     exact hK _ _ ⟨_,_,_,_,_,_,_,_,_,_,_,_,rfl,HI.out.s7 hL g4 g5⟩
    | n+8,hi=>simp at hi
   case hend=>
    rintro L a W hall ⟨t5,t6,t16,t17,t18,t19,va,vb,vc,vd,b5,b6,rfl,hI⟩
    have HI:=ZqH hI
    obtain⟨e1,e2,e3,_,e5⟩:=hI.l4 (hall 4 Zc)
    obtain⟨m1,m2,m3,_,m5⟩:=hI.l5 (hall 5 Zc)
    have H5:=ZqH (e5 (hall 6 Zc))
    have H6:=ZqH (m5 (hall 7 Zc))
    have HN1:=ZqH (hI.l1 (hall 1 Zc))
    have HN3:=ZqH (hI.l3 (hall 3 Zc))
    have HBW:=ZqH hI.below
    subst e1
    subst m1
    clear hI e5 m5 hall
    obtain⟨p1,y1,c1,rfl⟩:=HN1.out.2.1.form'
    obtain⟨p2,y2,c2,rfl⟩:=HN1.out.2.2.form'
    obtain⟨p3,y3,c3,rfl⟩:=HN3.out.2.1.form'
    obtain⟨p4,y4,c4,rfl⟩:=HN3.out.2.2.form'
    have k0:=Zn H5.out 0 rfl
    have k1:=Zn H5.out 1 rfl
    have k2:=Zn H6.out 0 rfl
    have k3:=Zn H6.out 1 rfl
    have L1:Hid ((Zp 1000000000 n1).length<=1000/\(Zp 1000000000 d1).length<=1000/\(Zp 1000000000 n2).length<=1000/\(Zp 1000000000 d2).length<=1000):=by
     subst hn1;subst hd1;subst hn2;subst hd2;exact⟨l1,l2,l3,l4⟩
    have M1:Hid ((Zp 1000000000 (n1*d2)).length<=1000000):=Zp4 (Zc6 L1.out.1 L1.out.2.2.2) Za
    have M2:Hid ((Zp 1000000000 (n2*d1)).length<=1000000):=Zp4 (Zc6 L1.out.2.2.1 L1.out.2.1) Za
    go_wp2_with fail
    go_region_held3
     (fun w'=>w'.cell? ⟨b5,0,none⟩=some (.slice p1 y1 c1)/\w'.cell? ⟨b5,1,none⟩=some (.slice p2 y2 c2)/\w'.cell? ⟨b6,0,none⟩=some (.slice p3 y3 c3)/\w'.cell? ⟨b6,1,none⟩=some (.slice p4 y4 c4))
     (first | exact⟨k0,k1,k2,k3⟩ | exact⟨ka2,kb2,kc2,kd2⟩ | exact⟨ka3,kb3,kc3,kd3⟩ | exact⟨ka4,kb4,kc4,kd4⟩)
     (first
      | (go_at_call_of 48 (Value.slice p1 y1 c1);(refine(Zbs (HN1.out.2.1.after (ZpV W.heap.size W).drew ZqI) (HN3.out.2.2.after (ZpV W.heap.size W).drew ZqI) L1.out.1 L1.out.2.2.2).mono ?_;rintro e w2 ⟨xa,rfl,hv,hb⟩;obtain⟨pa,ma,ca,rfl⟩:=hv.form';have HA:=ZqH hv;have F5:=ZqH ((hb.block b5 e3).trans H5.out);have F6:=ZqH ((hb.block b6 m3).trans H6.out);have HB2:ZqB W w2:=((ZpV W.heap.size W).drew).trans hb;have ka2:=Zn F5.out 0 rfl;have kb2:=Zn F5.out 1 rfl;have kc2:=Zn F6.out 0 rfl;have kd2:=Zn F6.out 1 rfl;clear hv hb))
      | (go_at_call_of 48 (Value.slice p3 y3 c3);refine(Zbs (HN3.out.2.1.after HB2.out ZqI) (HN1.out.2.2.after HB2.out ZqI) L1.out.2.2.1 L1.out.2.1).mono ?_;rintro e w3 ⟨xb,rfl,hv,hb⟩;obtain⟨pb,mb,cb,rfl⟩:=hv.form';have HA3:=ZqH (HA.out.after hb ZqI);have HC:=ZqH hv;have HB3:ZqB W w3:=HB2.out.trans (hb.mono HB2.out.size);have F53:=ZqH ((HB3.out.block b5 e3).trans H5.out);have F63:=ZqH ((HB3.out.block b6 m3).trans H6.out);have ka3:=Zn F53.out 0 rfl;have kb3:=Zn F53.out 1 rfl;have kc3:=Zn F63.out 0 rfl;have kd3:=Zn F63.out 1 rfl;clear hv hb)
      | (go_at_call 49;refine(Zdh HA3.out HC.out M1.out M2.out).mono ?_;rintro e w4 ⟨r,rfl,hsg,hb⟩;have HSG:=ZqH hsg;have HB4:ZqB W w4:=HB3.out.trans (hb.mono HB3.out.size);have F54:=ZqH ((HB4.out.block b5 e3).trans H5.out);have F64:=ZqH ((HB4.out.block b6 m3).trans H6.out);have ka4:=Zn F54.out 0 rfl;have kb4:=Zn F54.out 1 rfl;have kc4:=Zn F64.out 0 rfl;have kd4:=Zn F64.out 1 rfl;clear hb hsg))
    clear k0 k1 k2 k3
    have HS:Hid (max (-1) (min 1 r)=sgnR (ratP s t) (ratP u v)):=ZpE (HV.out.1.1) (HV.out.2.1) (by rw[<- HV.out.1.2.1,<- HV.out.1.2.2,<- HV.out.2.2.1,<- HV.out.2.2.2,hn1,hd1,hn2,hd2];exact HSG.out)
    go_wp2
    go_ret
    exact⟨_,rfl,.inr ⟨HQ.out,HS.out⟩,HBW.out.trans (HB4.out.mono HBW.out.size)⟩
def ZbY (n:Int):Ending:=.panicked [{ v:=.iface 252 (.agg #[.int .i64 n]),recovered:=false }]
def Zos (s t:ByteArray) (n:Int) (w:World) (e:Ending) (w':World):Prop:=
 ((n=0/\e=.returned (ZqE s t))\/(n≠0/\e=ZbY n))/\Below w.heap.size w w'
theorem Zjc (s t:ByteArray) (n:Int) (w:World):Calls Tryz.prog 174 #[ZqE s t,.int .i64 n] w (Zos s t n w):=by
 by_cases hn:n=0
 ·have h0:(n !=0)=false:=by rw[bne_eq_false_iff_eq];exact hn
  have H0:=ZqH hn
  clear hn
  go_enter Tryz.func174,Tryz.ntmps174
  go_wp2
  refine ZpW (v:=ZqE s t) (by simp[results,Tryz.f174,go_sem]) rfl ⟨.inl ⟨H0.out,rfl⟩,((ZpV _ w).alloc ZqI _).alloc Zc _⟩
 ·have h0:(n !=0)=true:=by rw[bne_iff_ne];exact hn
  have H0:=ZqH hn
  clear hn
  go_enter Tryz.func174,Tryz.ntmps174
  go_wp2
  refine⟨rfl,.inr ⟨H0.out,rfl⟩,((ZpV _ w).alloc ZqI _).alloc Zc _⟩
theorem Bi.both {s t u v x y:ByteArray} {e:Int} {R:ByteArray->ByteArray->Int->Prop} (h:Bi s t u v R x y e) (h1:okP s t=true) (h2:okP u v=true):R x y e:=by
 rcases h with ⟨h,_⟩ | ⟨_,h⟩
 ·rw[h1,h2] at h;cases h
 ·exact h
theorem IsP.small {q:Rat} {s t:ByteArray} (h:IsP q s t):s.size<=600/\t.size<=600:=by
 rw[h.num,h.den,ZbW,ZbW];exact h.fits
theorem IsP.limit {q:Rat} {s t:ByteArray} (h:IsP q s t):s.size<=1000000/\t.size<=1000000:=by
 have:=h.small;omega
def Zon (q:Rat) (w:World) (e:Ending) (w':World):Prop:=
 ((∃ x y,IsP q x y/\e=.returned (ZqE x y))\/(¬ Fits q/\e=ZbY 4))/\Below w.heap.size w w'
theorem Zog {a b:Rat} {s t u v:ByteArray} (ha:IsP a s t) (hb:IsP b u v) (w:World) (hT:Tabs w) :
  Calls Tryz.prog 176 #[ZqE s t,ZqE u v] w (Zon (a+b) w):=by
 have HT:=ZqH hT
 have HR:Hid (∀ x y n,Bi s t u v (Ans (ratP s t+ratP u v)) x y n->Ans (a+b) x y n):=fun x y n h=>by
  have h1:=h.both ha.ok hb.ok
  rwa [ha.rat,hb.rat] at h1
 obtain⟨ls,lt⟩:=ha.limit
 obtain⟨lu,lv⟩:=hb.limit
 clear hT ha hb
 go_enter Tryz.func176,Tryz.ntmps176
 go_wp2_with fail
 obtain⟨w1,hw1⟩:=ZqJ (((w.alloc (ZqF s t)).alloc (ZqF u v)).alloc (ZqF ZqD ZqD))
 rw[hw1]
 have HX1:Hid (Zu w.heap.size [ZqF s t,ZqF u v,ZqF ZqD ZqD] w1):=by rw[<- hw1];exact Zu.three w _ _ _
 have HB1:ZqB w w1:=by rw[<- hw1];exact(((ZpV _ w).alloc ZqI _).alloc Zc _).alloc (by simp<;>omega) _
 clear hw1
 refine(Zeh s t u v _ ls lt lu lv (HT.out.below HB1.out ZqI)).mono ?_
 rintro e w2 ⟨x,y,n,rfl,hR,hb2⟩
 have HA:=ZqH (HR.out x y n hR)
 have HX2:=ZqH (HX1.out.below hb2 HX1.out.lt)
 have HB2:=ZqH (HB1.out.trans (hb2.mono HB1.out.size))
 clear hR hb2
 go_wp2_with fail
 refine(Zjc x y n _).mono ?_
 rintro e w3 ⟨hE,hb3⟩
 have HX3:=ZqH (HX2.out.below hb3 HX2.out.lt)
 have HB3:=ZqH (HB2.out.trans (hb3.mono HB2.out.size))
 clear hb3
 rcases hE with ⟨h0,rfl⟩ | ⟨h0,rfl⟩
 ·have HP:Hid (IsP (a+b) x y):=HA.out.zero h0
  clear h0
  have r0:=HX3.out.cell 2 0 (b:=w.heap.size+1+1) rfl rfl rfl
  have r1:=HX3.out.cell 2 1 (b:=w.heap.size+1+1) rfl rfl rfl
  have f0:=HX3.out.free 2 0 (b:=w.heap.size+1+1) rfl rfl
  have f1:=HX3.out.free 2 1 (b:=w.heap.size+1+1) rfl rfl
  go_wp2
  have q:=ZD (HX3.out.block 2 (b:=w.heap.size+1+1) rfl rfl) (.string x) (.string y)
  have HBQ:=ZqH (Zy HB3.out (b:=w.heap.size+1+1) Za (.string x) (.string y))
  obtain⟨w9,hw9⟩:=ZqJ ((w3.setCell ⟨w.heap.size+1+1,0,none⟩ (.string x)).setCell ⟨w.heap.size+1+1,1,none⟩ (.string y))
  rw[hw9] at q HBQ
  obtain⟨q0,q1⟩:=q
  rw[hw9]
  clear r0 r1 f0 f1 hw9
  refine ZpW (v:=ZqE x y) (by simp[results,Tryz.f176,go_sem,q0,q1]) rfl ⟨.inl ⟨_,_,HP.out,rfl⟩,HBQ.out⟩
 ·rcases HA.out with ⟨_,h1⟩ | ⟨h1,_,_,h2⟩
  ·exact Zqx h1 h0
  ·subst h2
   have H1:=ZqH h1
   clear h1 h0
   unfold ZbY
   go_wp2
   exact⟨rfl,.inr ⟨H1.out,rfl⟩,HB3.out⟩
abbrev PP:=ByteArray×ByteArray
def PAt (w:World) (b off:Nat) (ps:List PP):Prop:=
 ∀ j (h:j<ps.length),w.cell? ⟨b,off+j*2,none⟩=some (.string ps[j].1)/\w.cell? ⟨b,off+j*2+1,none⟩=some (.string ps[j].2)
def PL (w:World) (v:Value) (ps:List PP):Prop:=
 ∃ p cap,v=.slice p ps.length cap/\ps.length<=cap/\cap<=maxLen/\(ps≠[]->∃ b off,p=some ⟨b,off,none⟩/\b<w.heap.size/\PAt w b off ps)
theorem PAt.below {B:Nat} {w w':World} {b off:Nat} {ps:List PP} (h:PAt w b off ps) (hb:Below B w w') (hB:b<B):PAt w' b off ps:=
 fun j hj=>⟨(hb.cell (p:=⟨b,off+j*2,none⟩) hB).trans (h j hj).1,(hb.cell (p:=⟨b,off+j*2+1,none⟩) hB).trans (h j hj).2⟩
theorem PL.after {B:Nat} {w w':World} {v:Value} {ps:List PP} (h:PL w v ps) (hb:Below B w w') (hB:w.heap.size<=B):PL w' v ps:=by
 obtain⟨p,cap,h1,h2,h3,h4⟩:=h
 refine⟨p,cap,h1,h2,h3,fun hne=>?_⟩
 obtain⟨b,off,h5,h6,h7⟩:=h4 hne
 exact⟨b,off,h5,Zp2 h6 hb.size,h7.below hb Za⟩
theorem PL.nil (w:World):PL w (.slice none 0 0) []:=⟨none,0,rfl,Nat.le_refl _,by simp[maxLen],Zc⟩
def IsL (qs:List Rat) (ps:List PP):Prop:=qs.length=ps.length/\∀ k (h1:k<qs.length) (h2:k<ps.length),IsP qs[k] ps[k].1 ps[k].2
theorem IsL.length {qs:List Rat} {ps:List PP} (h:IsL qs ps):qs.length=ps.length:=h.1
theorem IsL.get {qs:List Rat} {ps:List PP} (h:IsL qs ps) (k:Nat) (hk:k<ps.length):IsP (qs[k]'(by rw[h.length];exact hk)) ps[k].1 ps[k].2:=h.2 k _ hk
instance fitsDec (q:Rat):Decidable (Fits q):=inferInstanceAs (Decidable (_/\_))
def sumA:Rat->List Rat->Option Rat
 | a,[]=>some a
 | a,q::qs=>if (Fits (a+q)) then sumA (a+q) qs else none
theorem Zmt {B:Nat} {T:TypeId} {u0 u1:Value} {os:List Obj} {w:World} (h:Zu B (.cells #[u0,u1] T::os) w) (x y:Value) :
  Zu B (.cells #[x,y] T::os) ((w.setCell ⟨B,0,none⟩ x).setCell ⟨B,1,none⟩ y):=by
 have hk:Keeps (fun i=>i≠B) w ((w.setCell ⟨B,0,none⟩ x).setCell ⟨B,1,none⟩ y):=((Keeps.refl _ w).setCell Zc _).setCell Zc _
 refine⟨Zp4 h.1 hk.size,fun i o ho=>?_⟩
 cases i with
 | zero=>
  obtain rfl:=ZpZ ho
  exact ZQ (h.2 0 _ rfl) x y
 | succ i=>
  have:=h.2 (i+1) o (by simpa using ho)
  rw[hk.block _ (ZqC this) Za]
  exact this
def Zlb (r:Option Rat) (w:World) (e:Ending) (w':World):Prop:=
 ((∃ q x y,r=some q/\IsP q x y/\e=.returned (ZqE x y))\/(r=none/\e=ZbY 4))/\Below w.heap.size w w'
theorem ZkT {a:Rat} {s t:ByteArray} {v:Value} {qs:List Rat} {ps:List PP} (ha:IsP a s t) (hq:IsL qs ps) {w:World} (hv:PL w v ps) (hT:Tabs w) :
  Calls Tryz.prog 175 #[v,ZqE s t,.func (.func 176) #[] #[]] w (Zlb (sumA a qs) w):=by
 obtain⟨p,cap,rfl,hcap,hmax,hp⟩:=hv
 obtain⟨n,hn⟩:=ZqJ ps.length
 rw[hn] at hcap ⊢
 unfold maxLen at hmax
 have HN:=ZqH hn
 have HA:=ZqH ha
 have HQ:=ZqH hq
 have HT:=ZqH hT
 have HP:=ZqH hp
 clear hn ha hq hT hp
 go_enter Tryz.func175,Tryz.ntmps175
 go_wp2
 obtain⟨w1,hw1⟩:=ZqJ ((w.alloc (ZqF s t)).alloc (ZqF ZqD ZqD))
 rw[hw1]
 have HX1:Hid (Zu w.heap.size [ZqF s t,ZqF ZqD ZqD] w1):=by rw[<- hw1];exact Zu.two w _ _
 have HB1:ZqB w w1:=by rw[<- hw1];exact((ZpV _ w).alloc ZqI _).alloc Zc _
 clear hw1
 go_loopw [11] (fun i wr=>∃ (k:Nat) (b:Rat) (x y:ByteArray),i=.int .i64 k/\k<=n/\Hid (IsP b x y)/\Hid (sumA a qs=sumA b (qs.drop k))/\Hid (Zu w.heap.size [ZqF x y,ZqF ZqD ZqD] wr)/\ZqB w wr) (fun i _=>n-(intOf i).toNat)
 case atStart=>exact⟨0,a,s,t,rfl,Zp8 _,HA,rfl,HX1,HB1⟩
 case round=>
  obtain⟨k,b,x,y,rfl,hk,HI,HS,HX,HB⟩:=hrel
  clear HX1 HB1
  by_cases hlt:k<n
  ·obtain⟨bb,off,rfl,hbl,hat⟩:=HP.out (Zp3 (by rw[HN.out];omega))
   have hkp:k<ps.length:=by rw[HN.out];exact hlt
   obtain⟨e0,e1⟩:=(hat.below HB.out hbl) k hkp
   obtain⟨u,hu⟩:=ZqJ (ps[k].1)
   obtain⟨v,hv⟩:=ZqJ (ps[k].2)
   rw[hu] at e0
   rw[hv] at e1
   obtain⟨q,hq⟩:∃ q,qs[k]'(by rw[HQ.out.length];exact hkp)=q:=⟨_,rfl⟩
   have HU:Hid (IsP q u v):=by rw[<- hq,<- hu,<- hv];exact HQ.out.get k hkp
   have HD:Hid (qs.drop k=q::qs.drop (k+1)):=by show _=_;rw[<- hq];exact List.drop_eq_getElem_cons _
   have k0:=(HX.out.alloc (ZqF u v)).cell 0 0 (b:=w.heap.size) rfl rfl rfl
   have k1:=(HX.out.alloc (ZqF u v)).cell 0 1 (b:=w.heap.size) rfl rfl rfl
   clear hat hkp hu hv hq
   have hsz:=HX.out.lt
   have hsz':w.heap.size+2<=wr.heap.size:=hsz
   clear hsz
   go_wp2_with fail
   have hal:=(ZpV wr.heap.size wr).alloc ZqI (ZqF u v)
   refine(Zog HI.out HU.out _ ((HT.out.below HB.out ZqI).below hal ZqI)).mono ?_
   rintro e w2 ⟨hE,hb2⟩
   have HX2:=ZqH ((HX.out.alloc (ZqF u v)).below hb2 (by simp<;>omega))
   have HB2:=ZqH (HB.out.trans ((hal.trans (hb2.mono Zc)).mono HB.out.size))
   clear hb2 hal k0 k1 e0 e1
   rcases hE with ⟨x',y',h1,rfl⟩ | ⟨h1,rfl⟩
   ·have HI2:=ZqH h1
    have HS2:Hid (sumA a qs=sumA (b+q) (qs.drop (k+1))):=by
     show _=_
     rw[HS.out,HD.out,sumA,if_pos h1.fits]
    clear h1
    have r0:=HX2.out.cell 0 0 (b:=w.heap.size) rfl rfl rfl
    have r1:=HX2.out.cell 0 1 (b:=w.heap.size) rfl rfl rfl
    have f0:=HX2.out.free 0 0 (b:=w.heap.size) rfl rfl
    have f1:=HX2.out.free 0 1 (b:=w.heap.size) rfl rfl
    go_wp2
    have HX3:Hid (Zu w.heap.size [ZqF x' y',ZqF ZqD ZqD] ((w2.setCell ⟨w.heap.size,0,none⟩ (.string x')).setCell ⟨w.heap.size,1,none⟩ (.string y'))):=Zmt HX2.out _ _
    have HB3:=ZqH (Zy HB2.out (b:=w.heap.size) ZqI (.string x') (.string y'))
    go_roundw
    case rel=>exact⟨k+1,b+q,x',y',by go_num,Za,HI2,HS2,HX3,HB3⟩
    case measure=>exact Zj
   ·have HN2:Hid (sumA a qs=none):=by
     show _=_
     rw[HS.out,HD.out,sumA,if_neg h1]
    clear h1
    unfold ZbY
    go_wp2
    exact⟨rfl,.inr ⟨HN2.out,rfl⟩,HB2.out⟩
  ·have hkn:k=n:=Za
   have HS2:Hid (sumA a qs=some b):=by
    show _=_
    rw[HS.out,List.drop_of_length_le (by rw[HQ.out.length,HN.out];omega)];rfl
   clear hkn
   have k0:=HX.out.cell 0 0 (b:=w.heap.size) rfl rfl rfl
   have k1:=HX.out.cell 0 1 (b:=w.heap.size) rfl rfl rfl
   have r0:=HX.out.cell 1 0 (b:=w.heap.size+1) rfl rfl rfl
   have r1:=HX.out.cell 1 1 (b:=w.heap.size+1) rfl rfl rfl
   have f0:=HX.out.free 1 0 (b:=w.heap.size+1) rfl rfl
   have f1:=HX.out.free 1 1 (b:=w.heap.size+1) rfl rfl
   go_wp2
   have q:=ZD (HX.out.block 1 (b:=w.heap.size+1) rfl rfl) (.string x) (.string y)
   have HBQ:=ZqH (Zy HB.out (b:=w.heap.size+1) Za (.string x) (.string y))
   obtain⟨w9,hw9⟩:=ZqJ ((wr.setCell ⟨w.heap.size+1,0,none⟩ (.string x)).setCell ⟨w.heap.size+1,1,none⟩ (.string y))
   rw[hw9] at q HBQ
   obtain⟨q0,q1⟩:=q
   rw[hw9]
   clear r0 r1 f0 f1 k0 k1 hw9
   refine ZpW (v:=ZqE x y) (by simp[results,Tryz.f175,go_sem,q0,q1]) rfl ⟨.inl ⟨_,_,_,HS2.out,HI.out,rfl⟩,HBQ.out⟩
theorem Zd4:(Tryz.prog.info? 39).map (fun i=>(i.zero,i.size,i.bytes))=some (some (ZqE ZqD ZqD),2,32):=Zb
def Zam:List PP->List Value
 | []=>[]
 | p::ps=>.string p.1::.string p.2::Zam ps
theorem Zb0 (ps qs:List PP):Zam (ps++qs)=Zam ps++Zam qs:=by
 induction ps with
 | nil=>rfl
 | cons p ps ih=>simp[Zam,ih]
theorem ZiB:∀ (ps:List PP) (j:Nat) (h:j<ps.length),(Zam ps)[j*2]?=some (.string ps[j].1)/\(Zam ps)[j*2+1]?=some (.string ps[j].2)
 | p::ps,0,_=>⟨rfl,rfl⟩
 | p::ps,j+1,h=>by
  have:=ZiB ps j (by simpa using h)
  simp only[Zam,List.getElem_cons_succ]
  rw[show (j+1)*2=j*2+1+1 by omega]
  exact this
def Own (w:World) (base:Nat) (v:Value) (ps:List PP):Prop:=w.ownsRow base 39 2 v ps.length (Zam ps)
theorem Own.nil (w:World) (base:Nat):Own w base (.slice none 0 0) []:=World.ownsRow_nil w base _ 2
theorem Own.pl {w:World} {base:Nat} {v:Value} {ps:List PP} (h:Own w base v ps):PL w v ps:=by
 have h0:=h
 rcases h.2 with ⟨rfl,h1⟩ | ⟨g,cap,cur,rfl,hb,hg,hle,hcap,hr⟩
 ·obtain rfl:ps=[]:=Zp7 h1
  exact PL.nil w
 ·refine⟨_,cap,rfl,hle,hcap,fun _=>⟨g,0,rfl,(ZqC hg),fun j hj=>?_⟩⟩
  have h2:=ZiB ps j hj
  have e1:=World.ownsRow.cellAt h0 (j*2) Za
  have e2:=World.ownsRow.cellAt h0 (j*2+1) Za
  rw[Nat.zero_add]
  rw[e1,e2]
  constructor
  ·rw[<- h2.1]
  ·rw[<- h2.2]
theorem Own.kept {w w':World} {base:Nat} {v:Value} {ps:List PP} (h:Own w base v ps) (hk:∀ g,base<=g->v.ownBlock=some g->w'.heap[g]?=w.heap[g]?):Own w' base v ps:=by
 obtain⟨h1,h2⟩:=h
 refine⟨h1,?_⟩
 rcases h2 with h2 | ⟨g,cap,cur,rfl,hb,hg,hr⟩
 ·exact .inl h2
 ·exact .inr ⟨g,cap,cur,rfl,hb,by rw[hk g hb rfl];exact hg,hr⟩
theorem Own.after {w w':World} {base:Nat} {v:Value} {ps:List PP} (h:Own w base v ps) (hb:Below w.heap.size w w'):Own w' base v ps:=by
 refine h.kept fun g _ hg=>hb.block g ?_
 rcases h.2 with ⟨rfl,_⟩ | ⟨g',cap,cur,rfl,_,hg',_⟩
 ·cases hg
 ·have:=ZpZ hg
  subst this
  exact(ZqC hg')
def Zna (base:Nat) (ps:List PP) (q:Rat) (w:World) (e:Ending) (w':World):Prop:=
 ((∃ x y v,IsP q x y/\e=.returned v/\Own w' base v (ps++[(x,y)]))\/(¬ Fits q/\e=ZbY 4))/\Below base w w'
theorem Zmu {base ga:Nat} {a b:Rat} {s t u v:ByteArray} {vo:Value} {ps:List PP} {w:World} (ha:IsP a s t) (hb:IsP b u v) (hpos:0<b) (hown:Own w base vo ps) (hn:ps.length<=600)
  (hga:ga<base) (hbase:base<=w.heap.size) (c0:w.cell? ⟨ga,0,none⟩=some (.string u)) (c1:w.cell? ⟨ga,1,none⟩=some (.string v)) (hT:Tabs w) :
  Calls Tryz.prog 173 #[vo,ZqE s t,.pointer (some ⟨ga,0,none⟩)] w (Zna base ps (a/b) w):=by
 obtain⟨i0,hi,hz0,hz1,hz2⟩:=info_parts Zd4
 have HR:Hid (∀ x y n,Bi s t u v (DivA (ratP s t) (ratP u v)) x y n->Ans (a/b) x y n):=fun x y n h=>by
  have h1:=h.both ha.ok hb.ok
  rw[ha.rat,hb.rat] at h1
  rcases h1 with ⟨h0,_⟩ | ⟨_,h1⟩
  ·rw[h0] at hpos;exact Zqx hpos Zd
  ·exact h1
 obtain⟨ls,lt⟩:=ha.limit
 obtain⟨lu,lv⟩:=hb.limit
 have HT:=ZqH hT
 have HO:=ZqH hown
 have HC:=ZqH (Zqy c0 c1)
 obtain⟨po,no,co,rfl⟩:∃ p n c,vo=.slice p n c:=by
  rcases hown.2 with ⟨h,_⟩ | ⟨g,cap,cur,h,_⟩
  ·exact⟨_,_,_,h⟩
  ·exact⟨_,_,_,h⟩
 clear hT ha hb hown c0 c1
 go_enter Tryz.func173,Tryz.ntmps173
 have HB1:Hid (Below w.heap.size w (w.alloc (ZqF s t))):=(ZpV _ w).alloc ZqI _
 have k0:=(HB1.out.cell (p:=⟨ga,0,none⟩) (by show ga<_;omega)).trans HC.out.1
 have k1:=(HB1.out.cell (p:=⟨ga,1,none⟩) (by show ga<_;omega)).trans HC.out.2
 go_wp2_with fail
 refine(Zh1 s t u v _ ls lt lu lv (HT.out.below HB1.out ZqI)).mono ?_
 rintro e w2 ⟨x,y,n,rfl,hR,hb2⟩
 have HA:=ZqH (HR.out x y n hR)
 have HB2:=ZqH (HB1.out.trans (hb2.mono Zc))
 clear hR hb2 k0 k1
 go_wp2_with fail
 refine(Zjc x y n _).mono ?_
 rintro e w3 ⟨hE,hb3⟩
 have HB3:=ZqH (HB2.out.trans (hb3.mono HB2.out.size))
 clear hb3
 rcases hE with ⟨h0,rfl⟩ | ⟨h0,rfl⟩
 ·have HP:Hid (IsP (a/b) x y):=HA.out.zero h0
  clear h0
  have HO3:=ZqH (HO.out.after HB3.out)
  have hownA:(w3.alloc (ZqF x y)).ownsRow base 39 2 (.slice po no co) ps.length (Zam ps):=HO3.out.alloc _
  have hm1:ps.length+1<=maxLen:=by unfold maxLen;omega
  have hm2:(ps.length+1)*32<=140737488355328:=Za
  have hm3:base<=(w3.alloc (ZqF x y)).heap.size:=by have:=HB3.out.size;simp;omega
  have hnews:∀ (j:Nat) (z:Value),([.string x,.string y]:List Value)[j]?=some z->(w3.alloc (ZqF x y)).cell? ((⟨w3.heap.size,0,none⟩:Addr).add j)=some z:=World.news_of_block (ZpY w3 _)
  go_wp2_with (at_builtin;go_loud (refine Zqq _ rfl (.tmp 6) (.tmp 13) 154 rfl base 39 i0 (ZqE ZqD ZqD) 2 32 Tryz.underlying154 hi hz0 hz1 hz2 rfl Zd _ ps.length (Zam ps) rfl hownA ⟨w3.heap.size,0,none⟩ 1 1 [.string x,.string y] rfl rfl hnews (by simp[Value.oneCell']) hm1 hm2 hm3 ?_);intro v' w4 hown4 hgrow4 _)
  have HB4:Hid (Below base w w4):=((HB3.out.mono hbase).alloc (by have:=HB3.out.size;omega) _).grown hgrow4 (by simp;have:=HB3.out.size;omega) (fun k hk=>(Zp9 hownA k hk).1)
  have HO4:Hid (Own w4 base v' (ps++[(x,y)])):=by
   show w4.ownsRow _ _ _ _ _ _
   rw[Zqc,Zb0];exact hown4
  clear hown4 hgrow4 hownA hnews hm1 hm2 hm3
  go_ret
  exact⟨.inl ⟨_,_,_,HP.out,rfl,HO4.out⟩,HB4.out⟩
 ·rcases HA.out with ⟨_,h1⟩ | ⟨h1,_,_,h2⟩
  ·exact Zqx h1 h0
  ·subst h2
   have H1:=ZqH h1
   clear h1 h0
   unfold ZbY
   go_wp2
   exact⟨rfl,.inr ⟨H1.out,rfl⟩,HB3.out.mono hbase⟩
def ZaD (b:Rat):List Rat->Option (List Rat)
 | []=>some []
 | q::qs=>if Fits (q/b) then (ZaD b qs).map (q/b::·) else none
theorem ZeU {b:Rat} : ∀ {qs rs:List Rat},ZaD b qs=some rs->rs=qs.map (· / b)
 | [],rs,h=>by simp[ZaD] at h;rw[h];rfl
 | q::qs,rs,h=>by
  unfold ZaD at h
  split at h
  ·obtain⟨r,h1,rfl⟩:=Option.map_eq_some_iff.1 h
   rw[ZeU h1];rfl
  ·cases h
def Zhl (base:Nat) (r:Option (List Rat)) (w:World) (e:Ending) (w':World):Prop:=
 ((∃ rs ps v,r=some rs/\IsL rs ps/\e=.returned v/\Own w' base v ps)\/(r=none/\e=ZbY 4))/\Below base w w'
theorem IsL.snoc {qs:List Rat} {ps:List PP} (h:IsL qs ps) {q:Rat} {x y:ByteArray} (hq:IsP q x y):IsL (qs++[q]) (ps++[(x,y)]):=by
 refine⟨by simp[h.1],fun k h1 h2=>?_⟩
 rcases Zp1 k ps.length with hk | hk
 ·have hk':k<qs.length:=by rw[h.1];exact hk
  rw[List.getElem_append_left hk',List.getElem_append_left hk]
  exact h.2 k hk' hk
 ·have e1:k=ps.length:=by simp at h2;omega
  have e2:k=qs.length:=by rw[h.1];exact e1
  rw[List.getElem_append_right Za,List.getElem_append_right Za]
  simpa using hq
theorem IsL.nil:IsL [] []:=⟨rfl,fun k h=>by simp at h⟩
theorem ZiY {ga:Nat} {b:Rat} {cu cv:ByteArray} {v:Value} {qs:List Rat} {ps:List PP} {w:World} (hb:IsP b cu cv) (hpos:0<b) (hq:IsL qs ps) (hv:PL w v ps) (hn600:ps.length<=600)
  (hga:ga<w.heap.size) (c0:w.cell? ⟨ga,0,none⟩=some (.string cu)) (c1:w.cell? ⟨ga,1,none⟩=some (.string cv)) (hT:Tabs w) :
  Calls Tryz.prog 172 #[v,.slice none 0 0,.func (.func 173) #[] #[.pointer (some ⟨ga,0,none⟩)]] w (Zhl w.heap.size (ZaD b qs) w):=by
 obtain⟨p,cap,rfl,hcap,hmax,hp⟩:=hv
 obtain⟨n,hn⟩:=ZqJ ps.length
 rw[hn] at hcap hn600 ⊢
 unfold maxLen at hmax
 have HN:=ZqH hn
 have HB0:=ZqH hb
 have HC:=ZqH (Zqy c0 c1)
 have HQ:=ZqH hq
 have HT:=ZqH hT
 have HP:=ZqH hp
 clear hn hb hq hT hp c0 c1
 go_enter Tryz.func172,Tryz.ntmps172
 go_wp2
 go_loopw [1,11] (fun vo i wr=>∃ (k:Nat) (rs:List Rat) (os:List PP),i=.int .i64 k/\k<=n/\Hid (IsL rs os)/\Hid (os.length=k)/\Hid (Own wr w.heap.size vo os)/\Hid (ZaD b qs=(ZaD b (qs.drop k)).map (rs++·))/\ZqB w wr) (fun _ i _=>n-(intOf i).toNat)
 case atStart=>exact⟨0,[],[],rfl,Zp8 _,IsL.nil,rfl,Own.nil _ _,by show _=_;simp,ZpV _ _⟩
 case round=>
  obtain⟨k,rs,os,rfl,hk,HI,HL,HO,HS,HB⟩:=hrel
  by_cases hlt:k<n
  ·obtain⟨bb,off,rfl,hbl,hat⟩:=HP.out (Zp3 (by rw[HN.out];omega))
   have hkp:k<ps.length:=by rw[HN.out];exact hlt
   obtain⟨e0,e1⟩:=(hat.below HB.out hbl) k hkp
   obtain⟨s,hs⟩:=ZqJ (ps[k].1)
   obtain⟨t,ht⟩:=ZqJ (ps[k].2)
   rw[hs] at e0
   rw[ht] at e1
   obtain⟨q,hq⟩:∃ q,qs[k]'(by rw[HQ.out.length];exact hkp)=q:=⟨_,rfl⟩
   have HU:Hid (IsP q s t):=by rw[<- hq,<- hs,<- ht];exact HQ.out.get k hkp
   have HD:Hid (qs.drop k=q::qs.drop (k+1)):=by show _=_;rw[<- hq];exact List.drop_eq_getElem_cons _
   clear hat hkp hs ht hq
   have hsz:=HB.out.size
   go_wp2_with fail
   have hal:=(ZpV wr.heap.size wr).alloc ZqI (ZqF s t)
   have hB2:Below w.heap.size w (wr.alloc (ZqF s t)):=HB.out.trans (hal.mono HB.out.size)
   refine(Zmu HU.out HB0.out hpos (HO.out.after hal) (by rw[HL.out];omega) hga hB2.size ((hB2.cell (p:=⟨ga,0,none⟩) hga).trans HC.out.1) ((hB2.cell (p:=⟨ga,1,none⟩) hga).trans HC.out.2) (HT.out.below hB2 ZqI)).mono ?_
   rintro e w2 ⟨hE,hb2⟩
   have HB2:=ZqH (hB2.trans hb2)
   clear hb2 hal hB2 e0 e1
   rcases hE with ⟨x',y',v',h1,rfl,h2⟩ | ⟨h1,rfl⟩
   ·have HI2:=ZqH (HI.out.snoc h1)
    have HO2:=ZqH h2
    have HL2:Hid ((os++[(x',y')]).length=k+1):=by show _=_;rw[Zqc,HL.out];rfl
    have HS2:Hid (ZaD b qs=(ZaD b (qs.drop (k+1))).map ((rs++[q/b])++·)):=by
     show _=_
     rw[HS.out,HD.out,ZaD,if_pos h1.fits,Option.map_map]
     congr 1
     funext l
     simp
    clear h1 h2
    go_wp2
    go_roundw
    case rel=>exact⟨k+1,_,_,by go_num,Za,HI2,HL2,HO2,HS2,HB2⟩
    case measure=>exact Zj
   ·have HN2:Hid (ZaD b qs=none):=by
     show _=_
     rw[HS.out,HD.out,ZaD,if_neg h1];rfl
    clear h1
    unfold ZbY
    go_wp2
    exact⟨rfl,.inr ⟨HN2.out,rfl⟩,HB2.out⟩
  ·have HS2:Hid (ZaD b qs=some rs):=by
    show _=_
    rw[HS.out,List.drop_of_length_le (by rw[HQ.out.length,HN.out];omega)];simp[ZaD]
   go_wp2
   go_ret
   exact⟨.inl ⟨_,_,_,HS2.out,HI.out,rfl,HO.out⟩,HB.out⟩
theorem Zlc {n:Nat} {x:List UInt8} (h:Lib.decDigits n=x) (hx:x.length<=600):IsP (n:Nat) (str x) (str [49]):=by
 have h1:numD ((n:Nat):Rat)=x:=by unfold numD;rw[Rat.num_natCast,Int.toNat_natCast,h]
 have h2:denD ((n:Nat):Rat)=[49]:=by unfold denD;rw[Rat.den_natCast,Zep]
 exact⟨Rat.natCast_nonneg,by rw[h1],by rw[h2],by unfold Fits;rw[h1,h2];exact⟨hx,Zd⟩⟩
theorem Za5:IsP 0 (⟨#[48]⟩:ByteArray) (⟨#[49]⟩:ByteArray):=by have:=Zlc (n:=0) Zcm Zd;exact this
theorem ZbD:IsP 1 (⟨#[49]⟩:ByteArray) (⟨#[49]⟩:ByteArray):=by have:=Zlc (n:=1) Zep Zd;exact this
theorem IsP.num_zero {q:Rat} {s t:ByteArray} (h:IsP q s t):(s.toList==[48])=true<->q=0:=by
 have e:s.toList=s.data.toList:=Zqi ..
 rw[e,beq_iff_eq]
 constructor
 ·intro h1
  refine h.inj Za5 ?_ ?_ |>.trans rfl
  ·rw[<- ZdN s,h1];rfl
  ·have h2:q.num.toNat=0:=by rw[<- h.vals.1,h1];rfl
   have h3:=Zal h.nn
   rw[h2] at h3
   have h4:=Rat.num_eq_zero.1 h3.symm
   subst h4
   exact(h.same Za5 rfl).2
 ·rintro rfl
  rw[(h.same Za5 rfl).1]
theorem IsP.pos {q:Rat} {s t:ByteArray} (h:IsP q s t) (h0:q≠0):0<q:=Rat.lt_of_le_of_ne h.nn (Ne.symm h0)
theorem Zk8 {v:Value} {qs:List Rat} {ps:List PP} (hq:IsL qs ps) {w:World} (hv:PL w v ps) (hT:Tabs w) :
  Calls Tryz.prog 138 #[v] w (Zlb (sumA 0 qs) w):=by
 have HV:=ZqH hv
 have HQ:=ZqH hq
 have HT:=ZqH hT
 obtain⟨p,cap,rfl,_,_,_⟩:=hv
 obtain⟨n,hn⟩:=ZqJ ps.length
 rw[hn] at HV ⊢
 clear hq hT hn
 go_enter Tryz.func138,Tryz.ntmps138
 go_wp2_with fail
 obtain⟨w1,hw1⟩:=ZqJ (w.alloc (ZqF ZqD ZqD))
 rw[hw1]
 have HX1:Hid (Zu w.heap.size [ZqF ZqD ZqD] w1):=by rw[<- hw1];exact Zu.one w _
 have HB1:ZqB w w1:=by rw[<- hw1];exact(ZpV _ w).alloc ZqI _
 clear hw1
 refine(ZkT Za5 HQ.out (HV.out.after HB1.out ZqI) (HT.out.below HB1.out ZqI)).mono ?_
 rintro e w2 ⟨hE,hb2⟩
 have HX2:=ZqH (HX1.out.below hb2 HX1.out.lt)
 have HB2:=ZqH (HB1.out.trans (hb2.mono HB1.out.size))
 clear hb2
 rcases hE with ⟨q,x,y,h1,h2,rfl⟩ | ⟨h1,rfl⟩
 ·have HS:=ZqH (Zqy h1 h2)
  clear h1 h2
  have r0:=HX2.out.cell 0 0 (b:=w.heap.size) rfl rfl rfl
  have r1:=HX2.out.cell 0 1 (b:=w.heap.size) rfl rfl rfl
  have f0:=HX2.out.free 0 0 (b:=w.heap.size) rfl rfl
  have f1:=HX2.out.free 0 1 (b:=w.heap.size) rfl rfl
  go_wp2
  have q:=ZD (HX2.out.block 0 (b:=w.heap.size) rfl rfl) (.string x) (.string y)
  have HBQ:=ZqH (Zy HB2.out (b:=w.heap.size) ZqI (.string x) (.string y))
  obtain⟨w9,hw9⟩:=ZqJ ((w2.setCell ⟨w.heap.size,0,none⟩ (.string x)).setCell ⟨w.heap.size,1,none⟩ (.string y))
  rw[hw9] at q HBQ
  obtain⟨q0,q1⟩:=q
  rw[hw9]
  clear r0 r1 f0 f1 hw9
  refine ZpW (v:=ZqE x y) (by simp[results,Tryz.f138,go_sem,q0,q1]) rfl ⟨.inl ⟨_,_,_,HS.out.1,HS.out.2,rfl⟩,HBQ.out⟩
 ·have H1:=ZqH h1
  clear h1
  unfold ZbY
  go_wp2
  exact⟨rfl,.inr ⟨H1.out,rfl⟩,HB2.out⟩
theorem Own.mono {w:World} {b c:Nat} {v:Value} {ps:List PP} (h:Own w c v ps) (hb:b<=c):Own w b v ps:=by
 obtain⟨h1,h2⟩:=h
 refine⟨h1,?_⟩
 rcases h2 with h2 | ⟨g,cap,cur,hv,hb',hr⟩
 ·exact .inl h2
 ·exact .inr ⟨g,cap,cur,hv,Za,hr⟩
def Zow (b:Rat) (r:Option (List Rat)) (w:World) (e:Ending) (w':World):Prop:=(b=0/\e=ZbY 7/\Below w.heap.size w w')\/(b≠0/\Zhl w.heap.size r w e w')
theorem Znc {b:Rat} {cu cv:ByteArray} {v:Value} {qs:List Rat} {ps:List PP} {w:World} (hb:IsP b cu cv) (hq:IsL qs ps) (hv:PL w v ps) (hn600:ps.length<=600) (hT:Tabs w) :
  Calls Tryz.prog 137 #[v,ZqE cu cv] w (Zow b (ZaD b qs) w):=by
 have HV:=ZqH hv
 have HQ:=ZqH hq
 have HT:=ZqH hT
 have HB:=ZqH hb
 have HN:=ZqH hn600
 obtain⟨p,cap,rfl,_,_,_⟩:=hv
 obtain⟨n,hn⟩:=ZqJ ps.length
 rw[hn] at HV ⊢
 clear hq hT hn hn600
 by_cases h0:b=0
 ·have hz:(cu.toList==[48])=true:=hb.num_zero.2 h0
  have H0:=ZqH h0
  clear hb h0
  go_enter Tryz.func137,Tryz.ntmps137
  go_wp2
  exact⟨rfl,.inl ⟨H0.out,rfl,(ZpV _ w).alloc ZqI _⟩⟩
 ·have hz:(cu.toList==[48])=false:=by rw[Bool.eq_false_iff];exact fun h=>h0 (hb.num_zero.1 h)
  have H0:=ZqH h0
  clear hb h0
  have hmf:∀ (fn:Fn) (first cap:Array Value) (w:World),(Instr.makeFunc fn first cap).run Tryz.prog w=.ok (.func fn first cap) w:=fun _ _ _ _=>rfl
  go_enter Tryz.func137,Tryz.ntmps137
  go_wp2_with fail
  have HX1:=ZqH (Zu.one w (ZqF cu cv))
  have HB1:Hid (Below w.heap.size w (w.alloc (ZqF cu cv))):=(ZpV _ w).alloc ZqI _
  refine(ZiY HB.out (HB.out.pos H0.out) HQ.out (HV.out.after HB1.out ZqI) HN.out Zc (HX1.out.cell 0 0 (b:=w.heap.size) rfl rfl rfl) (HX1.out.cell 0 1 (b:=w.heap.size) rfl rfl rfl) (HT.out.below HB1.out ZqI)).mono ?_
  rintro e w2 ⟨hE,hb2⟩
  have HB2:=ZqH (HB1.out.trans (hb2.mono Zc))
  clear hb2
  rcases hE with ⟨rs,os,v',h1,h2,rfl,h3⟩ | ⟨h1,rfl⟩
  ·have HS:=ZqH (Zqy h1 (Zqy h2 (h3.mono (b:=w.heap.size) Zc)))
   clear h1 h2 h3
   go_wp2
   go_ret
   exact .inr ⟨H0.out,.inl ⟨_,_,_,HS.out.1,HS.out.2.1,rfl,HS.out.2.2⟩,HB2.out⟩
  ·have H1:=ZqH h1
   clear h1
   unfold ZbY
   go_wp2
   exact⟨rfl,.inr ⟨H0.out,.inr ⟨H1.out,rfl⟩,HB2.out⟩⟩
end Go.Proofs.YtjmckebecpjjfaaGreatDoor
