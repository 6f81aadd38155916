/- The parts Order, Must, List, Share, Bends, EffL, Missed of a proof, put together by program (merge7.py). -/
import Derived.Test.YtmpaflidennnoaaGreatDoorH09
import Derived.Deep.DeepCutAuto
import Derived.Recover
import Derived.Deep.AppendLies
import Derived.Test.YtmpaflidennnoaaGreatDoorH02
import Derived.Test.YtmpaflidennnoaaGreatDoorH01
set_option maxRecDepth 100000
set_option maxHeartbeats 4000000
set_option linter.unusedVariables false
set_option linter.unusedSimpArgs false
namespace Go.Proofs.YtmpaflidennnoaaGreatDoor
open Go.RowKit Go.Shelf
attribute [local go_sem ↓] Go.wp_at_zero Go.wp_at_succ
def sgnR (a b:Rat):Int:=if a<b then -1 else if a=b then 0 else 1
def CmpA (s t u v:ByteArray) (n:Int):Prop:=((okP s t && okP u v)=false∧n=0)∨((okP s t && okP u v)=true∧n=sgnR (ratP s t) (ratP u v))
def ZlP (s t u v:ByteArray) (w:World) (e:Ending) (w':World):Prop:=∃ n:Int,e=.returned (.int .i64 n)∧CmpA s t u v n∧Below w.heap.size w w'
theorem ZmJ {a b:Rat} (ha:0≤a) (hb:0≤b) {r:Int} (h:Sign (a.num.toNat*b.den) (b.num.toNat*a.den) r):max (-1) (min 1 r)=sgnR a b:=by
 obtain⟨h1,h2,_,_⟩:=h
 unfold sgnR
 by_cases hl:a<b
 ·rw[if_pos hl]
  have:=h1.2 ((Zim ha hb).1 hl)
  omega
 ·rw[if_neg hl]
  by_cases he:a=b
  ·rw[if_pos he]
   have:=h2.2 ((Zll ha hb).1 he)
   omega
  ·rw[if_neg he]
   have k1:¬ r<0:=fun h=>hl ((Zim ha hb).2 (h1.1 h))
   have k2:¬ r=0:=fun h=>he ((Zll ha hb).2 (h2.1 h))
   omega
def Zb0:Obj:=.cells #[.slice none 0 0,.slice none 0 0] 112
def ZgM (a b:Value):Obj:=.cells #[a,b] 112
structure CmpInv (s t u v:ByteArray) (n1 d1 n2 d2:Nat) (w:World) (L:Nat→Prop) (t5 t6 t16 t17 t18 t19 va vb vc vd:Value) (b5 b6:Nat) (W:World):Prop where
 below:Below w.heap.size w W
 box:Zk w.heap.size [.cells #[.string s,.string t] 41,.cells #[.string u,.string v] 41] W
 l0:L 0→t16=.agg #[.string s,.string t]
 l2:L 2→t18=.agg #[.string u,.string v]
 l1:L 1→t17=.agg #[va,vb]∧Num W va n1∧Num W vb d1
 l3:L 3→t19=.agg #[vc,vd]∧Num W vc n2∧Num W vd d2
 l4:L 4→t5=.pointer (some ⟨b5,0,none⟩)∧w.heap.size+2≤b5∧b5<W.heap.size∧(¬ L 6→W.heap[b5]?=some Zb0)∧(L 6→W.heap[b5]?=some (ZgM va vb))
 l5:L 5→t6=.pointer (some ⟨b6,0,none⟩)∧w.heap.size+2≤b6∧b6<W.heap.size∧(¬ L 7→W.heap[b6]?=some Zb0)∧(L 7→W.heap[b6]?=some (ZgM vc vd))
 ne:L 4→L 5→b5≠b6
section
variable {s t u v:ByteArray} {n1 d1 n2 d2:Nat} {w:World} {L:Nat→Prop} {t5 t6 t16 t17 t18 t19 va vb vc vd:Value} {b5 b6:Nat} {W W':World}
theorem CmpInv.after (h:CmpInv s t u v n1 d1 n2 d2 w L t5 t6 t16 t17 t18 t19 va vb vc vd b5 b6 W) (hb:Below W.heap.size W W'):CmpInv s t u v n1 d1 n2 d2 w L t5 t6 t16 t17 t18 t19 va vb vc vd b5 b6 W':=by
 refine⟨h.below.trans (hb.mono h.below.size),h.box.below hb h.box.lt,h.l0,h.l2,fun k=>?_,fun k=>?_,fun k=>?_,fun k=>?_,h.ne⟩
 ·obtain⟨e,x,y⟩:=h.l1 k
  exact⟨e,x.after hb (Nat.le_refl _),y.after hb (Nat.le_refl _)⟩
 ·obtain⟨e,x,y⟩:=h.l3 k
  exact⟨e,x.after hb (Nat.le_refl _),y.after hb (Nat.le_refl _)⟩
 ·obtain⟨e,x,y,z,z'⟩:=h.l4 k
  have:=hb.block b5 y
  exact⟨e,x,Nat.lt_of_lt_of_le y hb.size,fun m=>by rw[this];exact z m,fun m=>by rw[this];exact z' m⟩
 ·obtain⟨e,x,y,z,z'⟩:=h.l5 k
  have:=hb.block b6 y
  exact⟨e,x,Nat.lt_of_lt_of_le y hb.size,fun m=>by rw[this];exact z m,fun m=>by rw[this];exact z' m⟩
theorem CmpInv.s0 (h:CmpInv s t u v n1 d1 n2 d2 w L t5 t6 t16 t17 t18 t19 va vb vc vd b5 b6 W):CmpInv s t u v n1 d1 n2 d2 w (fun j=>j=0∨L j) t5 t6 (.agg #[.string s,.string t]) t17 t18 t19 va vb vc vd b5 b6 W:=by
 refine⟨h.below,h.box,fun _=>rfl,fun k=>h.l2 (by simpa using k),fun k=>h.l1 (by simpa using k),fun k=>h.l3 (by simpa using k),fun k=>?_,fun k=>?_,fun k m=>h.ne (by simpa using k) (by simpa using m)⟩
 ·simpa using h.l4 (by simpa using k)
 ·simpa using h.l5 (by simpa using k)
theorem CmpInv.s2 (h:CmpInv s t u v n1 d1 n2 d2 w L t5 t6 t16 t17 t18 t19 va vb vc vd b5 b6 W):CmpInv s t u v n1 d1 n2 d2 w (fun j=>j=2∨L j) t5 t6 t16 t17 (.agg #[.string u,.string v]) t19 va vb vc vd b5 b6 W:=by
 refine⟨h.below,h.box,fun k=>h.l0 (by simpa using k),fun _=>rfl,fun k=>h.l1 (by simpa using k),fun k=>h.l3 (by simpa using k),fun k=>?_,fun k=>?_,fun k m=>h.ne (by simpa using k) (by simpa using m)⟩
 ·simpa using h.l4 (by simpa using k)
 ·simpa using h.l5 (by simpa using k)
theorem CmpInv.s1 (h:CmpInv s t u v n1 d1 n2 d2 w L t5 t6 t16 t17 t18 t19 va vb vc vd b5 b6 W) (h6:¬ L 6) {va' vb':Value} (ha:Num W va' n1) (hb:Num W vb' d1) :
  CmpInv s t u v n1 d1 n2 d2 w (fun j=>j=1∨L j) t5 t6 t16 (.agg #[va',vb']) t18 t19 va' vb' vc vd b5 b6 W:=by
 refine⟨h.below,h.box,fun k=>h.l0 (by simpa using k),fun k=>h.l2 (by simpa using k),fun _=>⟨rfl,ha,hb⟩,fun k=>h.l3 (by simpa using k),fun k=>?_,fun k=>?_,fun k m=>h.ne (by simpa using k) (by simpa using m)⟩
 ·obtain⟨e,x,y,z,z'⟩:=h.l4 (by simpa using k)
  exact⟨e,x,y,fun _=>z h6,fun m=>absurd (by simpa using m) h6⟩
 ·simpa using h.l5 (by simpa using k)
theorem CmpInv.s3 (h:CmpInv s t u v n1 d1 n2 d2 w L t5 t6 t16 t17 t18 t19 va vb vc vd b5 b6 W) (h7:¬ L 7) {va' vb':Value} (ha:Num W va' n2) (hb:Num W vb' d2) :
  CmpInv s t u v n1 d1 n2 d2 w (fun j=>j=3∨L j) t5 t6 t16 t17 t18 (.agg #[va',vb']) va vb va' vb' b5 b6 W:=by
 refine⟨h.below,h.box,fun k=>h.l0 (by simpa using k),fun k=>h.l2 (by simpa using k),fun k=>h.l1 (by simpa using k),fun _=>⟨rfl,ha,hb⟩,fun k=>?_,fun k=>?_,fun k m=>h.ne (by simpa using k) (by simpa using m)⟩
 ·simpa using h.l4 (by simpa using k)
 ·obtain⟨e,x,y,z,z'⟩:=h.l5 (by simpa using k)
  exact⟨e,x,y,fun _=>z h7,fun m=>absurd (by simpa using m) h7⟩
theorem CmpInv.s4 (h:CmpInv s t u v n1 d1 n2 d2 w L t5 t6 t16 t17 t18 t19 va vb vc vd b5 b6 W) (h6:¬ L 6) :
  CmpInv s t u v n1 d1 n2 d2 w (fun j=>j=4∨L j) (.pointer (some ⟨W.heap.size,0,none⟩)) t6 t16 t17 t18 t19 va vb vc vd W.heap.size b6 (W.alloc Zb0):=by
 have k:=h.after ((Below.refl W.heap.size W).alloc (Nat.le_refl _) Zb0)
 refine⟨k.below,k.box,fun m=>k.l0 (by simpa using m),fun m=>k.l2 (by simpa using m),fun m=>k.l1 (by simpa using m),fun m=>k.l3 (by simpa using m),fun m=>?_,fun m=>?_,fun _ m=>?_⟩
 ·exact⟨rfl,h.box.lt,by simp,fun _=>World.alloc_heap_new W _,fun m=>absurd (by simpa using m) h6⟩
 ·simpa using k.l5 (by simpa using m)
 ·have:=(h.l5 (by simpa using m)).2.2.1;omega
theorem CmpInv.s5 (h:CmpInv s t u v n1 d1 n2 d2 w L t5 t6 t16 t17 t18 t19 va vb vc vd b5 b6 W) (h7:¬ L 7) :
  CmpInv s t u v n1 d1 n2 d2 w (fun j=>j=5∨L j) t5 (.pointer (some ⟨W.heap.size,0,none⟩)) t16 t17 t18 t19 va vb vc vd b5 W.heap.size (W.alloc Zb0):=by
 have k:=h.after ((Below.refl W.heap.size W).alloc (Nat.le_refl _) Zb0)
 refine⟨k.below,k.box,fun m=>k.l0 (by simpa using m),fun m=>k.l2 (by simpa using m),fun m=>k.l1 (by simpa using m),fun m=>k.l3 (by simpa using m),fun m=>?_,fun m=>?_,fun m _=>?_⟩
 ·simpa using k.l4 (by simpa using m)
 ·exact⟨rfl,h.box.lt,by simp,fun _=>World.alloc_heap_new W _,fun m=>absurd (by simpa using m) h7⟩
 ·have:=(h.l4 (by simpa using m)).2.2.1;omega
theorem ZhV {b:Nat} (hz:W.heap[b]?=some Zb0) (x y:Value) :
  Keeps (fun i=>i≠b) W ((W.setCell ⟨b,0,none⟩ x).setCell ⟨b,1,none⟩ y)∧((W.setCell ⟨b,0,none⟩ x).setCell ⟨b,1,none⟩ y).heap[b]?=some (ZgM x y)∧
   (∀ (z:Value) (n:Nat),Num W z n→Num ((W.setCell ⟨b,0,none⟩ x).setCell ⟨b,1,none⟩ y) z n):=by
 have hk:Keeps (fun i=>i≠b) W ((W.setCell ⟨b,0,none⟩ x).setCell ⟨b,1,none⟩ y):=((Keeps.refl _ W).setCell (by simp) _).setCell (by simp) _
 exact⟨hk,ZM hz x y,fun z n h=>h.keepsBut hz (ZgQ _ _ (fun x h=>by cases h) (fun x h=>by cases h)) hk⟩
theorem CmpInv.s6 (h:CmpInv s t u v n1 d1 n2 d2 w L t5 t6 t16 t17 t18 t19 va vb vc vd b5 b6 W) (h6:¬ L 6) (h4:L 4) (h5:L 5) :
  CmpInv s t u v n1 d1 n2 d2 w (fun j=>j=6∨L j) t5 t6 t16 t17 t18 t19 va vb vc vd b5 b6 ((W.setCell ⟨b5,0,none⟩ va).setCell ⟨b5,1,none⟩ vb):=by
 obtain⟨e,x,y,z,z'⟩:=h.l4 h4
 obtain⟨hk,hn,hN⟩:=ZhV (z h6) va vb
 have hne:=h.ne h4 h5
 refine⟨Zf h.below (by omega) _ _,h.box.keeps hk (fun i hi=>by have:i<2:=hi;omega),fun m=>h.l0 (by simpa using m),fun m=>h.l2 (by simpa using m),fun m=>?_,fun m=>?_,fun m=>?_,fun m=>?_,fun _ _=>hne⟩
 ·obtain⟨q1,q2,q3⟩:=h.l1 (by simpa using m)
  exact⟨q1,hN _ _ q2,hN _ _ q3⟩
 ·obtain⟨q1,q2,q3⟩:=h.l3 (by simpa using m)
  exact⟨q1,hN _ _ q2,hN _ _ q3⟩
 ·exact⟨e,x,Nat.lt_of_lt_of_le y hk.size,fun m=>absurd (.inl rfl) m,fun _=>hn⟩
 ·obtain⟨q1,q2,q3,q4,q5⟩:=h.l5 h5
  have hb:=hk.block b6 q3 (Ne.symm hne)
  exact⟨q1,q2,Nat.lt_of_lt_of_le q3 hk.size,fun m=>by rw[hb];exact q4 (by simpa using m),fun m=>by rw[hb];exact q5 (by simpa using m)⟩
theorem CmpInv.s7 (h:CmpInv s t u v n1 d1 n2 d2 w L t5 t6 t16 t17 t18 t19 va vb vc vd b5 b6 W) (h7:¬ L 7) (h4:L 4) (h5:L 5) :
  CmpInv s t u v n1 d1 n2 d2 w (fun j=>j=7∨L j) t5 t6 t16 t17 t18 t19 va vb vc vd b5 b6 ((W.setCell ⟨b6,0,none⟩ vc).setCell ⟨b6,1,none⟩ vd):=by
 obtain⟨e,x,y,z,z'⟩:=h.l5 h5
 obtain⟨hk,hn,hN⟩:=ZhV (z h7) vc vd
 have hne:=h.ne h4 h5
 refine⟨Zf h.below (by omega) _ _,h.box.keeps hk (fun i hi=>by have:i<2:=hi;omega),fun m=>h.l0 (by simpa using m),fun m=>h.l2 (by simpa using m),fun m=>?_,fun m=>?_,fun m=>?_,fun m=>?_,fun _ _=>hne⟩
 ·obtain⟨q1,q2,q3⟩:=h.l1 (by simpa using m)
  exact⟨q1,hN _ _ q2,hN _ _ q3⟩
 ·obtain⟨q1,q2,q3⟩:=h.l3 (by simpa using m)
  exact⟨q1,hN _ _ q2,hN _ _ q3⟩
 ·obtain⟨q1,q2,q3,q4,q5⟩:=h.l4 h4
  have hb:=hk.block b5 q3 hne
  exact⟨q1,q2,Nat.lt_of_lt_of_le q3 hk.size,fun m=>by rw[hb];exact q4 (by simpa using m),fun m=>by rw[hb];exact q5 (by simpa using m)⟩
 ·exact⟨e,x,Nat.lt_of_lt_of_le y hk.size,fun m=>absurd (.inl rfl) m,fun _=>hn⟩
end
theorem Zjm (s t u v:ByteArray) (w:World) (hs:s.size≤1000000) (ht:t.size≤1000000) (hu:u.size≤1000000) (hv:v.size≤1000000) :
  Calls Tryz.prog 22 #[.agg #[.string s,.string t],.agg #[.string u,.string v]] w (ZlP s t u v w):=by
 cases h1:okP s t
 ·have H1:Hid (okE s t=2∧(okP s t && okP u v)=false):=⟨Zbv h1,by rw[h1];rfl⟩
  clear h1
  go_enter Tryz.func22,Tryz.ntmps22
  go_wp2_with fail
  obtain⟨w1,hw1⟩:∃ w1,(w.alloc (.cells #[.string s,.string t] 41)).alloc (.cells #[.string u,.string v] 41)=w1:=⟨_,rfl⟩
  rw[hw1]
  have HX1:Hid (Zk w.heap.size [.cells #[.string s,.string t] 41,.cells #[.string u,.string v] 41] w1):=by rw[← hw1];exact Zk.two w _ _
  have HB1:Hid (Below w.heap.size w w1):=by rw[← hw1];exact((Below.refl _ w).alloc (Nat.le_refl _) _).alloc (by simp) _
  clear hw1
  refine(Zay s t _ hs ht).mono ?_
  rintro e w2 ⟨rfl,hb2⟩
  have HX2:=Lib.hid (HX1.out.below hb2 HX1.out.lt)
  have HB2:=Lib.hid (HB1.out.trans (hb2.mono HB1.out.size))
  clear hb2
  rw[H1.out.1]
  go_wp2
  go_ret
  exact⟨_,rfl,.inl ⟨H1.out.2,rfl⟩,HB2.out⟩
 ·cases h2:okP u v
  ·have H1:=Lib.hid (Zb8 h1)
   have H2:Hid (okE u v=2∧(okP s t && okP u v)=false):=⟨Zbv h2,by rw[h2,Bool.and_false]⟩
   clear h1 h2
   go_enter Tryz.func22,Tryz.ntmps22
   go_wp2_with fail
   obtain⟨w1,hw1⟩:∃ w1,(w.alloc (.cells #[.string s,.string t] 41)).alloc (.cells #[.string u,.string v] 41)=w1:=⟨_,rfl⟩
   rw[hw1]
   have HX1:Hid (Zk w.heap.size [.cells #[.string s,.string t] 41,.cells #[.string u,.string v] 41] w1):=by rw[← hw1];exact Zk.two w _ _
   have HB1:Hid (Below w.heap.size w w1):=by rw[← hw1];exact((Below.refl _ w).alloc (Nat.le_refl _) _).alloc (by simp) _
   clear hw1
   refine(Zay s t _ hs ht).mono ?_
   rintro e w2 ⟨rfl,hb2⟩
   have HX2:=Lib.hid (HX1.out.below hb2 HX1.out.lt)
   have HB2:=Lib.hid (HB1.out.trans (hb2.mono HB1.out.size))
   clear hb2
   rw[H1.out]
   have kc2:=HX2.out.cell 1 0 (b:=w.heap.size+1) rfl rfl rfl
   have kd2:=HX2.out.cell 1 1 (b:=w.heap.size+1) rfl rfl rfl
   go_wp2_with fail
   refine(Zay u v _ hu hv).mono ?_
   rintro e w3 ⟨rfl,hb3⟩
   rw[H2.out.1]
   have HB3:=Lib.hid (HB2.out.trans (hb3.mono HB2.out.size))
   clear hb3 kc2 kd2
   go_wp2
   go_ret
   exact⟨_,rfl,.inl ⟨H2.out.2,rfl⟩,HB3.out⟩
  ·obtain⟨g1,g2,_,_,l1,l2,d1⟩:=ZaD h1
   obtain⟨g3,g4,_,_,l3,l4,d2⟩:=ZaD h2
   have HG:=Lib.hid (And.intro g1 (And.intro g2 (And.intro g3 g4)))
   have HD:=Lib.hid (And.intro d1 d2)
   have H1:=Lib.hid (Zb8 h1)
   have H2:=Lib.hid (Zb8 h2)
   have HQ:Hid ((okP s t && okP u v)=true):=by show _=_;rw[h1,h2];rfl
   have HV:=Lib.hid (And.intro (Zbr h1) (Zbr h2))
   clear h1 h2 g1 g2 g3 g4 d1 d2
   go_enter Tryz.func22,Tryz.ntmps22
   go_wp2_with fail
   obtain⟨w1,hw1⟩:∃ w1,(w.alloc (.cells #[.string s,.string t] 41)).alloc (.cells #[.string u,.string v] 41)=w1:=⟨_,rfl⟩
   rw[hw1]
   have HX1:Hid (Zk w.heap.size [.cells #[.string s,.string t] 41,.cells #[.string u,.string v] 41] w1):=by rw[← hw1];exact Zk.two w _ _
   have HB1:Hid (Below w.heap.size w w1):=by rw[← hw1];exact((Below.refl _ w).alloc (Nat.le_refl _) _).alloc (by simp) _
   clear hw1
   refine(Zay s t _ hs ht).mono ?_
   rintro e w2 ⟨rfl,hb2⟩
   have HX2:=Lib.hid (HX1.out.below hb2 HX1.out.lt)
   have HB2:=Lib.hid (HB1.out.trans (hb2.mono HB1.out.size))
   clear hb2
   rw[H1.out]
   have kc2:=HX2.out.cell 1 0 (b:=w.heap.size+1) rfl rfl rfl
   have kd2:=HX2.out.cell 1 1 (b:=w.heap.size+1) rfl rfl rfl
   go_wp2_with fail
   refine(Zay u v _ hu hv).mono ?_
   rintro e w3 ⟨rfl,hb3⟩
   rw[H2.out]
   have HX3:=Lib.hid (HX2.out.below hb3 HX2.out.lt)
   have HB3:=Lib.hid (HB2.out.trans (hb3.mono HB2.out.size))
   clear hb3 kc2 kd2
   have ka3:=HX3.out.cell 0 0 (b:=w.heap.size) rfl rfl rfl
   have kb3:=HX3.out.cell 0 1 (b:=w.heap.size) rfl rfl rfl
   have kc3:=HX3.out.cell 1 0 (b:=w.heap.size+1) rfl rfl rfl
   have kd3:=HX3.out.cell 1 1 (b:=w.heap.size+1) rfl rfl rfl
   go_wp2_with fail
   obtain⟨n1,hn1⟩:∃ n,Zg s.data.toList=n:=⟨_,rfl⟩
   obtain⟨d1,hd1⟩:∃ n,Zg t.data.toList=n:=⟨_,rfl⟩
   obtain⟨n2,hn2⟩:∃ n,Zg u.data.toList=n:=⟨_,rfl⟩
   obtain⟨d2,hd2⟩:∃ n,Zg v.data.toList=n:=⟨_,rfl⟩
   have T1:=fun W:World=>ZcR s t hs ht HG.out.1 HG.out.2.1 W
   have T2:=fun W:World=>ZcR u v hu hv HG.out.2.2.1 HG.out.2.2.2 W
   rw[hn1,hd1] at T1
   rw[hn2,hd2] at T2
   have HT1:=Lib.hid T1
   have HT2:=Lib.hid T2
   clear T1 T2 ka3 kb3 kc3 kd3
   refine ZkF (by kernel_rfl) (by kernel_rfl) (fun L a W=>∃ (t5 t6 t16 t17 t18 t19 va vb vc vd:Value) (b5 b6:Nat),a = { tmps:=#[.agg #[.string s,.string t],.agg #[.string u,.string v],.pointer (some ⟨w.heap.size,0,none⟩),.pointer (some ⟨w.heap.size+1,0,none⟩),.int .i64 0,t5,t6,undef,.agg #[.string s,.string t],.int .i64 0,.bool false,.bool false,.agg #[.string u,.string v],.int .i64 0,.bool false,.bool false,t16,t17,t18,t19,undef,undef,undef,undef,undef,undef,undef,undef,undef,undef,undef,undef,undef,undef],defers:=[] }∧CmpInv s t u v n1 d1 n2 d2 w L t5 t6 t16 t17 t18 t19 va vb vc vd b5 b6 W) ?h0 ?hstep ?hend
   case h0=>exact⟨_,_,_,_,_,_,undef,undef,undef,undef,0,0,rfl,⟨HB3.out.drew,HX3.out.drew,fun h=>h.elim,fun h=>h.elim,fun h=>h.elim,fun h=>h.elim,fun h=>h.elim,fun h=>h.elim,fun h=>h.elim⟩⟩
   case hstep=>
    rintro L a W i o hi hL he hC ⟨t5,t6,t16,t17,t18,t19,va,vb,vc,vd,b5,b6,rfl,hI⟩
    have HI:=Lib.hid hI
    have h6:¬ L 1∨¬ L 4→¬ L 6:=fun h h'=>by
     have a1:L 1:=hC 6 _ rfl h' 1 _ rfl rfl
     have a4:L 4:=hC 6 _ rfl h' 0 _ rfl rfl
     rcases h with h | h
     ·exact h a1
     ·exact h a4
    have h7:¬ L 3∨¬ L 5→¬ L 7:=fun h h'=>by
     have a3:L 3:=hC 7 _ rfl h' 1 _ rfl rfl
     have a5:L 5:=hC 7 _ rfl h' 0 _ rfl rfl
     rcases h with h | h
     ·exact h a3
     ·exact h a5
    clear hI hC
    match i,hi with
    | 0,hi=>
     obtain rfl:=Option.some.inj hi
     have q0:=HI.out.box.cell 0 0 (b:=w.heap.size) rfl rfl rfl
     have q1:=HI.out.box.cell 0 1 (b:=w.heap.size) rfl rfl rfl
     refine ZbD rfl fun K hK=>?_
     go_simp
     exact hK _ _ ⟨_,_,_,_,_,_,_,_,_,_,_,_,rfl,HI.out.s0⟩
    | 1,hi=>
     obtain rfl:=Option.some.inj hi
     have h0:=HI.out.l0 (he 0 _ rfl rfl)
     have g6:=h6 (.inl hL)
     subst h0
     refine ZbD rfl fun K hK=>?_
     go_simp
     go_at_call 67
     refine(HT1.out W).mono ?_
     rintro e W' ⟨x,y,rfl,hx,hy,hb⟩
     exact hK _ _ ⟨_,_,_,_,_,_,_,_,_,_,_,_,rfl,(HI.out.after hb).s1 g6 hx hy⟩
    | 2,hi=>
     obtain rfl:=Option.some.inj hi
     have q0:=HI.out.box.cell 1 0 (b:=w.heap.size+1) rfl rfl rfl
     have q1:=HI.out.box.cell 1 1 (b:=w.heap.size+1) rfl rfl rfl
     refine ZbD rfl fun K hK=>?_
     go_simp
     exact hK _ _ ⟨_,_,_,_,_,_,_,_,_,_,_,_,rfl,HI.out.s2⟩
    | 3,hi=>
     obtain rfl:=Option.some.inj hi
     have h0:=HI.out.l2 (he 0 _ rfl rfl)
     have g7:=h7 (.inl hL)
     subst h0
     refine ZbD rfl fun K hK=>?_
     go_simp
     go_at_call 67
     refine(HT2.out W).mono ?_
     rintro e W' ⟨x,y,rfl,hx,hy,hb⟩
     exact hK _ _ ⟨_,_,_,_,_,_,_,_,_,_,_,_,rfl,(HI.out.after hb).s3 g7 hx hy⟩
    | 4,hi=>
     obtain rfl:=Option.some.inj hi
     have g6:=h6 (.inr hL)
     refine ZbD rfl fun K hK=>?_
     go_simp
     exact hK _ _ ⟨_,_,_,_,_,_,_,_,_,_,_,_,rfl,HI.out.s4 g6⟩
    | 5,hi=>
     obtain rfl:=Option.some.inj hi
     have g7:=h7 (.inr hL)
     refine ZbD rfl fun K hK=>?_
     go_simp
     exact hK _ _ ⟨_,_,_,_,_,_,_,_,_,_,_,_,rfl,HI.out.s5 g7⟩
    | 6,hi=>
     obtain rfl:=Option.some.inj hi
     have g4:L 4:=he 0 _ rfl rfl
     have g5:L 5:=he 8 _ rfl rfl
     obtain⟨e1,e2,e3,e4,e5⟩:=HI.out.l4 g4
     obtain⟨e6,e7,e8⟩:=HI.out.l1 (he 1 _ rfl rfl)
     have q0:=Za (e4 hL) 0 rfl
     have q1:=Za (e4 hL) 1 rfl
     have q2:=Zb (e4 hL) 0
     have q3:=Zb (e4 hL) 1
     subst e1
     subst e6
     obtain⟨pA,lA,cA,rfl⟩:=e7.form'
     obtain⟨pB,lB,cB,rfl⟩:=e8.form'
     clear e4 e5 e7 e8
     refine ZbD rfl fun K hK=>?_
     go_simp
     exact hK _ _ ⟨_,_,_,_,_,_,_,_,_,_,_,_,rfl,HI.out.s6 hL g4 g5⟩
    | 7,hi=>
     obtain rfl:=Option.some.inj hi
     have g4:L 4:=he 7 _ rfl rfl
     have g5:L 5:=he 0 _ rfl rfl
     obtain⟨e1,e2,e3,e4,e5⟩:=HI.out.l5 g5
     obtain⟨e6,e7,e8⟩:=HI.out.l3 (he 1 _ rfl rfl)
     have q0:=Za (e4 hL) 0 rfl
     have q1:=Za (e4 hL) 1 rfl
     have q2:=Zb (e4 hL) 0
     have q3:=Zb (e4 hL) 1
     subst e1
     subst e6
     obtain⟨pA,lA,cA,rfl⟩:=e7.form'
     obtain⟨pB,lB,cB,rfl⟩:=e8.form'
     clear e4 e5 e7 e8
     refine ZbD rfl fun K hK=>?_
     go_simp
     exact hK _ _ ⟨_,_,_,_,_,_,_,_,_,_,_,_,rfl,HI.out.s7 hL g4 g5⟩
    | n+8,hi=>simp at hi
   case hend=>
    rintro L a W hall ⟨t5,t6,t16,t17,t18,t19,va,vb,vc,vd,b5,b6,rfl,hI⟩
    have HI:=Lib.hid hI
    obtain⟨e1,e2,e3,_,e5⟩:=hI.l4 (hall 4 (by simp))
    obtain⟨m1,m2,m3,_,m5⟩:=hI.l5 (hall 5 (by simp))
    have H5:=Lib.hid (e5 (hall 6 (by simp)))
    have H6:=Lib.hid (m5 (hall 7 (by simp)))
    have HN1:=Lib.hid (hI.l1 (hall 1 (by simp)))
    have HN3:=Lib.hid (hI.l3 (hall 3 (by simp)))
    have HBW:=Lib.hid hI.below
    subst e1
    subst m1
    clear hI e5 m5 hall
    obtain⟨p1,y1,c1,rfl⟩:=HN1.out.2.1.form'
    obtain⟨p2,y2,c2,rfl⟩:=HN1.out.2.2.form'
    obtain⟨p3,y3,c3,rfl⟩:=HN3.out.2.1.form'
    obtain⟨p4,y4,c4,rfl⟩:=HN3.out.2.2.form'
    have k0:=Za H5.out 0 rfl
    have k1:=Za H5.out 1 rfl
    have k2:=Za H6.out 0 rfl
    have k3:=Za H6.out 1 rfl
    have L1:Hid ((Zd 1000000000 n1).length≤1000∧(Zd 1000000000 d1).length≤1000∧(Zd 1000000000 n2).length≤1000∧(Zd 1000000000 d2).length≤1000):=by
     subst hn1;subst hd1;subst hn2;subst hd2;exact⟨l1,l2,l3,l4⟩
    have M1:Hid ((Zd 1000000000 (n1*d2)).length≤1000000):=Nat.le_trans (Zbu L1.out.1 L1.out.2.2.2) (by omega)
    have M2:Hid ((Zd 1000000000 (n2*d1)).length≤1000000):=Nat.le_trans (Zbu L1.out.2.2.1 L1.out.2.1) (by omega)
    go_wp2_with fail
    go_region_held3
     (fun w'=>w'.cell? ⟨b5,0,none⟩=some (.slice p1 y1 c1)∧w'.cell? ⟨b5,1,none⟩=some (.slice p2 y2 c2)∧w'.cell? ⟨b6,0,none⟩=some (.slice p3 y3 c3)∧w'.cell? ⟨b6,1,none⟩=some (.slice p4 y4 c4))
     (first | exact⟨k0,k1,k2,k3⟩ | exact⟨ka2,kb2,kc2,kd2⟩ | exact⟨ka3,kb3,kc3,kd3⟩ | exact⟨ka4,kb4,kc4,kd4⟩)
     (first
      | (go_at_call_of 68 (Value.slice p1 y1 c1);(refine(Z9 (HN1.out.2.1.after (Below.refl W.heap.size W).drew (Nat.le_refl _)) (HN3.out.2.2.after (Below.refl W.heap.size W).drew (Nat.le_refl _)) L1.out.1 L1.out.2.2.2).mono ?_;rintro e w2 ⟨xa,rfl,hv,hb⟩;obtain⟨pa,ma,ca,rfl⟩:=hv.form';have HA:=Lib.hid hv;have F5:=Lib.hid ((hb.block b5 e3).trans H5.out);have F6:=Lib.hid ((hb.block b6 m3).trans H6.out);have HB2:Hid (Below W.heap.size W w2):=((Below.refl W.heap.size W).drew).trans hb;have ka2:=Za F5.out 0 rfl;have kb2:=Za F5.out 1 rfl;have kc2:=Za F6.out 0 rfl;have kd2:=Za F6.out 1 rfl;clear hv hb))
      | (go_at_call_of 68 (Value.slice p3 y3 c3);refine(Z9 (HN3.out.2.1.after HB2.out (Nat.le_refl _)) (HN1.out.2.2.after HB2.out (Nat.le_refl _)) L1.out.2.2.1 L1.out.2.1).mono ?_;rintro e w3 ⟨xb,rfl,hv,hb⟩;obtain⟨pb,mb,cb,rfl⟩:=hv.form';have HA3:=Lib.hid (HA.out.after hb (Nat.le_refl _));have HC:=Lib.hid hv;have HB3:Hid (Below W.heap.size W w3):=HB2.out.trans (hb.mono HB2.out.size);have F53:=Lib.hid ((HB3.out.block b5 e3).trans H5.out);have F63:=Lib.hid ((HB3.out.block b6 m3).trans H6.out);have ka3:=Za F53.out 0 rfl;have kb3:=Za F53.out 1 rfl;have kc3:=Za F63.out 0 rfl;have kd3:=Za F63.out 1 rfl;clear hv hb)
      | (go_at_call 69;refine(Zbt HA3.out HC.out M1.out M2.out).mono ?_;rintro e w4 ⟨r,rfl,hsg,hb⟩;have HSG:=Lib.hid hsg;have HB4:Hid (Below W.heap.size W w4):=HB3.out.trans (hb.mono HB3.out.size);have F54:=Lib.hid ((HB4.out.block b5 e3).trans H5.out);have F64:=Lib.hid ((HB4.out.block b6 m3).trans H6.out);have ka4:=Za F54.out 0 rfl;have kb4:=Za F54.out 1 rfl;have kc4:=Za F64.out 0 rfl;have kd4:=Za F64.out 1 rfl;clear hb hsg))
    clear k0 k1 k2 k3
    have HS:Hid (max (-1) (min 1 r)=sgnR (ratP s t) (ratP u v)):=ZmJ (HV.out.1.1) (HV.out.2.1) (by rw[← HV.out.1.2.1,← HV.out.1.2.2,← HV.out.2.2.1,← HV.out.2.2.2,hn1,hd1,hn2,hd2];exact HSG.out)
    go_wp2
    go_ret
    exact⟨_,rfl,.inr ⟨HQ.out,HS.out⟩,HBW.out.trans (HB4.out.mono HBW.out.size)⟩
end Go.Proofs.YtmpaflidennnoaaGreatDoor
namespace Go.Proofs.YtmpaflidennnoaaGreatDoor
open Go.RowKit Go.Shelf
theorem Bi.both {s t u v x y:ByteArray} {e:Int} {R:ByteArray→ByteArray→Int→Prop} (h:Bi s t u v R x y e) (h1:okP s t=true) (h2:okP u v=true):R x y e:=by
 rcases h with ⟨h,_⟩ | ⟨_,h⟩
 ·rw[h1,h2] at h;cases h
 ·exact h
theorem IsP.small {q:Rat} {s t:ByteArray} (h:IsP q s t):s.size≤600∧t.size≤600:=by
 rw[h.num,h.den,ZaG,ZaG];exact h.fits
theorem IsP.limit {q:Rat} {s t:ByteArray} (h:IsP q s t):s.size≤1000000∧t.size≤1000000:=by
 have:=h.small;omega
abbrev PP:=ByteArray×ByteArray
def PAt (w:World) (b off:Nat) (ps:List PP):Prop:=
 ∀ j (h:j<ps.length),w.cell? ⟨b,off+j*2,none⟩=some (.string ps[j].1)∧w.cell? ⟨b,off+j*2+1,none⟩=some (.string ps[j].2)
def PL (w:World) (v:Value) (ps:List PP):Prop:=
 ∃ p cap,v=.slice p ps.length cap∧ps.length≤cap∧cap≤maxLen∧(ps≠[]→∃ b off,p=some ⟨b,off,none⟩∧b<w.heap.size∧PAt w b off ps)
theorem PAt.below {B:Nat} {w w':World} {b off:Nat} {ps:List PP} (h:PAt w b off ps) (hb:Below B w w') (hB:b<B):PAt w' b off ps:=
 fun j hj=>⟨(hb.cell (p:=⟨b,off+j*2,none⟩) hB).trans (h j hj).1,(hb.cell (p:=⟨b,off+j*2+1,none⟩) hB).trans (h j hj).2⟩
theorem PL.after {B:Nat} {w w':World} {v:Value} {ps:List PP} (h:PL w v ps) (hb:Below B w w') (hB:w.heap.size≤B):PL w' v ps:=by
 obtain⟨p,cap,h1,h2,h3,h4⟩:=h
 refine⟨p,cap,h1,h2,h3,fun hne=>?_⟩
 obtain⟨b,off,h5,h6,h7⟩:=h4 hne
 exact⟨b,off,h5,Nat.lt_of_lt_of_le h6 hb.size,h7.below hb (by omega)⟩
theorem PL.nil (w:World):PL w (.slice none 0 0) []:=⟨none,0,rfl,Nat.le_refl _,by simp[maxLen],by simp⟩
def IsL (qs:List Rat) (ps:List PP):Prop:=qs.length=ps.length∧∀ k (h1:k<qs.length) (h2:k<ps.length),IsP qs[k] ps[k].1 ps[k].2
theorem IsL.length {qs:List Rat} {ps:List PP} (h:IsL qs ps):qs.length=ps.length:=h.1
instance fitsDec (q:Rat):Decidable (Fits q):=inferInstanceAs (Decidable (_∧_))
def Zbk:List PP→List Value
 | []=>[]
 | p::ps=>.string p.1::.string p.2::Zbk ps
theorem ZhI (ps qs:List PP):Zbk (ps++qs)=Zbk ps++Zbk qs:=by
 induction ps with
 | nil=>rfl
 | cons p ps ih=>simp[Zbk,ih]
theorem Zhr:∀ (ps:List PP) (j:Nat) (h:j<ps.length),(Zbk ps)[j*2]?=some (.string ps[j].1)∧(Zbk ps)[j*2+1]?=some (.string ps[j].2)
 | p::ps,0,_=>⟨rfl,rfl⟩
 | p::ps,j+1,h=>by
  have:=Zhr ps j (by simpa using h)
  simp only[Zbk,List.getElem_cons_succ]
  rw[show (j+1)*2=j*2+1+1 by omega]
  exact this
def Own (w:World) (base:Nat) (v:Value) (ps:List PP):Prop:=w.ownsRow base 41 2 v ps.length (Zbk ps)
theorem Own.nil (w:World) (base:Nat):Own w base (.slice none 0 0) []:=World.ownsRow_nil w base _ 2
theorem Own.pl {w:World} {base:Nat} {v:Value} {ps:List PP} (h:Own w base v ps):PL w v ps:=by
 have h0:=h
 rcases h.2 with ⟨rfl,h1⟩ | ⟨g,cap,cur,rfl,hb,hg,hle,hcap,hr⟩
 ·obtain rfl:ps=[]:=List.eq_nil_of_length_eq_zero h1
  exact PL.nil w
 ·refine⟨_,cap,rfl,hle,hcap,fun _=>⟨g,0,rfl,(Array.getElem?_eq_some_iff.1 hg).1,fun j hj=>?_⟩⟩
  have h2:=Zhr ps j hj
  have e1:=World.ownsRow.cellAt h0 (j*2) (by omega)
  have e2:=World.ownsRow.cellAt h0 (j*2+1) (by omega)
  rw[Nat.zero_add]
  rw[e1,e2]
  constructor
  ·rw[← h2.1]
  ·rw[← h2.2]
theorem Own.kept {w w':World} {base:Nat} {v:Value} {ps:List PP} (h:Own w base v ps) (hk:∀ g,base≤g→v.ownBlock=some g→w'.heap[g]?=w.heap[g]?):Own w' base v ps:=by
 obtain⟨h1,h2⟩:=h
 refine⟨h1,?_⟩
 rcases h2 with h2 | ⟨g,cap,cur,rfl,hb,hg,hr⟩
 ·exact .inl h2
 ·exact .inr ⟨g,cap,cur,rfl,hb,by rw[hk g hb rfl];exact hg,hr⟩
theorem Own.after {w w':World} {base:Nat} {v:Value} {ps:List PP} (h:Own w base v ps) (hb:Below w.heap.size w w'):Own w' base v ps:=by
 refine h.kept fun g _ hg=>hb.block g ?_
 rcases h.2 with ⟨rfl,_⟩ | ⟨g',cap,cur,rfl,_,hg',_⟩
 ·cases hg
 ·have:=Option.some.inj hg
  subst this
  exact(Array.getElem?_eq_some_iff.1 hg').1
theorem IsL.snoc {qs:List Rat} {ps:List PP} (h:IsL qs ps) {q:Rat} {x y:ByteArray} (hq:IsP q x y):IsL (qs++[q]) (ps++[(x,y)]):=by
 refine⟨by simp[h.1],fun k h1 h2=>?_⟩
 rcases Nat.lt_or_ge k ps.length with hk | hk
 ·have hk':k<qs.length:=by rw[h.1];exact hk
  rw[List.getElem_append_left hk',List.getElem_append_left hk]
  exact h.2 k hk' hk
 ·have e1:k=ps.length:=by simp at h2;omega
  have e2:k=qs.length:=by rw[h.1];exact e1
  rw[List.getElem_append_right (by omega),List.getElem_append_right (by omega)]
  simpa using hq
theorem IsL.nil:IsL [] []:=⟨rfl,fun k h=>by simp at h⟩
abbrev BB:=PP×PP
def BAt (w:World) (b off:Nat) (bs:List BB):Prop:=
 ∀ j (h:j<bs.length),w.cell? ⟨b,off+j*4,none⟩=some (.string bs[j].1.1)∧w.cell? ⟨b,off+j*4+1,none⟩=some (.string bs[j].1.2)∧w.cell? ⟨b,off+j*4+2,none⟩=some (.string bs[j].2.1)∧w.cell? ⟨b,off+j*4+3,none⟩=some (.string bs[j].2.2)
def BL (w:World) (v:Value) (bs:List BB):Prop:=
 ∃ p cap,v=.slice p bs.length cap∧bs.length≤cap∧cap≤maxLen∧(bs≠[]→∃ b off,p=some ⟨b,off,none⟩∧b<w.heap.size∧BAt w b off bs)
theorem BAt.below {B:Nat} {w w':World} {b off:Nat} {bs:List BB} (h:BAt w b off bs) (hb:Below B w w') (hB:b<B):BAt w' b off bs:=
 fun j hj=>⟨(hb.cell (p:=⟨b,off+j*4,none⟩) hB).trans (h j hj).1,(hb.cell (p:=⟨b,off+j*4+1,none⟩) hB).trans (h j hj).2.1,
  (hb.cell (p:=⟨b,off+j*4+2,none⟩) hB).trans (h j hj).2.2.1,(hb.cell (p:=⟨b,off+j*4+3,none⟩) hB).trans (h j hj).2.2.2⟩
theorem BL.after {B:Nat} {w w':World} {v:Value} {bs:List BB} (h:BL w v bs) (hb:Below B w w') (hB:w.heap.size≤B):BL w' v bs:=by
 obtain⟨p,cap,h1,h2,h3,h4⟩:=h
 refine⟨p,cap,h1,h2,h3,fun hne=>?_⟩
 obtain⟨b,off,h5,h6,h7⟩:=h4 hne
 exact⟨b,off,h5,Nat.lt_of_lt_of_le h6 hb.size,h7.below hb (by omega)⟩
theorem BL.nil (w:World):BL w (.slice none 0 0) []:=⟨none,0,rfl,Nat.le_refl _,by simp[maxLen],by simp⟩
theorem BL.len {w:World} {p:Option Addr} {n c:Nat} {bs:List BB} (h:BL w (.slice p n c) bs):bs.length=n∧c≤9223372036854775807∧n≤c:=by
 obtain⟨p',c',hv,h1,h2,_⟩:=h
 injection hv with e1 e2 e3
 subst e1 e3
 unfold maxLen at h2
 omega
def nob:BB:=((⟨#[]⟩,⟨#[]⟩),(⟨#[]⟩,⟨#[]⟩))
def bAt (bs:List BB) (i:Nat):BB:=bs.getD i nob
theorem ZdL {bs:List BB} {i:Nat} (h:i<bs.length):bAt bs i=bs[i]:=by simp[bAt,List.getD,h]
theorem Zmn {bs:List BB} {i:Nat} (h:i<bs.length):bAt bs i ∈ bs:=by rw[ZdL h];exact List.getElem_mem h
theorem BL.at {w:World} {p:Option Addr} {n cap:Nat} {bs:List BB} (h:BL w (.slice p n cap) bs) (hn:bs.length=n) (h0:0<n) :
  ∃ b off,p=some ⟨b,off,none⟩∧b<w.heap.size∧∀ W,Below w.heap.size w W→∀ k,k<n→
   W.cell? ⟨b,off+k*4,none⟩=some (.string (bAt bs k).1.1)∧W.cell? ⟨b,off+k*4+1,none⟩=some (.string (bAt bs k).1.2)∧W.cell? ⟨b,off+k*4+2,none⟩=some (.string (bAt bs k).2.1)∧W.cell? ⟨b,off+k*4+3,none⟩=some (.string (bAt bs k).2.2):=by
 obtain⟨p',c',hv,_,_,h4⟩:=h
 injection hv with e1 e2 e3
 subst e1
 obtain⟨b,off,rfl,hb,hat⟩:=h4 (List.ne_nil_of_length_pos (by omega))
 refine⟨b,off,rfl,hb,fun W hW k hk=>?_⟩
 rw[ZdL (by omega)]
 exact(hat.below hW hb) k (by omega)
abbrev bV (b:BB):Value:=.agg #[.string b.1.1,.string b.1.2,.string b.2.1,.string b.2.2]
abbrev bObj (b:BB):Obj:=.cells #[.string b.1.1,.string b.1.2,.string b.2.1,.string b.2.2] 138
abbrev bO (s t u v:ByteArray):Obj:=.cells #[.string s,.string t,.string u,.string v] 138
def Zm (k:Nat) (p:PP):Bool:=decide (p.1.size≤k) && decide (p.2.size≤k) && okP p.1 p.2
theorem Zaj {k:Nat} {p:PP} : Zm k p=true↔p.1.size≤k∧p.2.size≤k∧okP p.1 p.2=true:=by
 unfold Zm
 simp[and_assoc]
def cR (bs:List BB) (i:Nat):Rat:=ratP (bAt bs i).1.1 (bAt bs i).1.2
def hR (bs:List BB) (i:Nat):Rat:=ratP (bAt bs i).2.1 (bAt bs i).2.2
abbrev Zc9:BB:=((⟨#[48]⟩,⟨#[49]⟩),(⟨#[48]⟩,⟨#[49]⟩))
structure CurveP (bs:List BB):Prop where
 len:2≤bs.length∧bs.length≤64
 first:bAt bs 0=Zc9
 small:∀ i,i<bs.length→Zm 18 (bAt bs i).1=true∧Zm 18 (bAt bs i).2=true
 top:∀ i,i<bs.length→hR bs i≤1
 up:∀ i,i+1<bs.length→cR bs i<cR bs (i+1)∧hR bs i≤hR bs (i+1)
 conc:∀ i,i+2<bs.length→slp (cR bs) (hR bs) (i+1)≤slp (cR bs) (hR bs) i
def Ze1 (bs:List BB) (n:Int):Prop:=(CurveP bs∧n=0)∨(¬ CurveP bs∧n=2)
theorem ZdB:ratP ⟨#[48]⟩ ⟨#[49]⟩=0:=by decide +kernel
theorem CurveP.conc' {bs:List BB} (h:CurveP bs):Conc bs.length (cR bs) (hR bs) where
 two:=h.len.1
 c0:=by unfold cR;rw[h.first];exact ZdB
 h0:=by unfold hR;rw[h.first];exact ZdB
 top:=h.top
 up:=h.up
 conc:=h.conc
theorem CurveP.isC {bs:List BB} (h:CurveP bs) {i:Nat} (hi:i<bs.length):IsP (cR bs i) (bAt bs i).1.1 (bAt bs i).1.2∧Sz 18 (cR bs i):=by
 obtain⟨h1,h2,h3⟩:=Zaj.1 (h.small i hi).1
 have:=ZaA h3
 exact⟨this,this.sz h1 h2⟩
theorem CurveP.isH {bs:List BB} (h:CurveP bs) {i:Nat} (hi:i<bs.length):IsP (hR bs i) (bAt bs i).2.1 (bAt bs i).2.2∧Sz 18 (hR bs i):=by
 obtain⟨h1,h2,h3⟩:=Zaj.1 (h.small i hi).2
 have:=ZaA h3
 exact⟨this,this.sz h1 h2⟩
structure SiteP where
 weight:PP
 curve:List BB
structure TaskP where
 sites:List SiteP
 hours:List Int
 rates:List (List PP)
def Ze9 (w:World) (b o:Nat) (s:SiteP):Prop:=w.cell? ⟨b,o,none⟩=some (.string s.weight.1)∧w.cell? ⟨b,o+1,none⟩=some (.string s.weight.2)∧∃ v,w.cell? ⟨b,o+2,none⟩=some v∧BL w v s.curve
theorem Ze9.stays:Zej Ze9:=fun w w' b o x B ⟨h1,h2,v,h3,h4⟩ hb hw hB=>by
 have hbB:b<B:=Nat.lt_of_lt_of_le hb hB
 exact⟨(hw.cell (p:=⟨b,o,none⟩) hbB).trans h1,(hw.cell (p:=⟨b,o+1,none⟩) hbB).trans h2,v,(hw.cell (p:=⟨b,o+2,none⟩) hbB).trans h3,h4.after hw hB⟩
abbrev Zl9 (w:World) (v:Value) (l:List SiteP):Prop:=LL 3 Ze9 w v l
abbrev PPL (w:World) (v:Value) (l:List (List PP)):Prop:=LL 1 (InR PL) w v l
theorem PPL.stays:Zej (InR PL):=InR.stays fun _ _ _ _ _ h hb hB=>h.after hb hB
def EffV (w:World) (v:Value) (t:TaskP):Prop:=∃ a b c,v=.agg #[a,b,c]∧Zl9 w a t.sites∧IL w b t.hours∧PPL w c t.rates
theorem EffV.after {w w':World} {v:Value} {t:TaskP} {B:Nat} (h:EffV w v t) (hb:Below B w w') (hB:w.heap.size≤B):EffV w' v t:=by
 obtain⟨a,b,c,h1,h2,h3,h4⟩:=h
 exact⟨a,b,c,h1,h2.after Ze9.stays hb hB,h3.after IntR.stays hb hB,h4.after PPL.stays hb hB⟩
def ZmU:SiteP:=⟨(⟨#[]⟩,⟨#[]⟩),[]⟩
def eS (t:TaskP) (i:Nat):SiteP:=t.sites.getD i ZmU
def eH (t:TaskP) (u:Nat):Int:=t.hours.getD u 0
def eR (t:TaskP) (u i:Nat):PP:=(t.rates.getD u []).getD i (⟨#[]⟩,⟨#[]⟩)
def pN (p:List (List Int)) (u i:Nat):Int:=(p.getD u []).getD i 0
theorem Zia {t:TaskP} {i:Nat} (h:i<t.sites.length):t.sites[i]=eS t i:=by simp[eS,List.getD,h]
theorem Zlg {t:TaskP} {u:Nat} (h:u<t.hours.length):t.hours[u]=eH t u:=by simp[eH,List.getD,h]
theorem Zif {t:TaskP} {u i:Nat} (h:u<t.rates.length) (g:i<t.rates[u].length):t.rates[u][i]=eR t u i:=by simp[eR,List.getD,h,g]
structure TaskOk (t:TaskP):Prop where
 sites:1≤t.sites.length∧t.sites.length≤24
 teams:1≤t.hours.length∧t.hours.length≤8
 rates:t.rates.length=t.hours.length
 site:∀ i,i<t.sites.length→Zm 9 (eS t i).weight=true∧CurveP (eS t i).curve
 team:∀ u (h:u<t.rates.length),(0≤eH t u∧eH t u≤48)∧t.rates[u].length=t.sites.length∧∀ i,i<t.sites.length→Zm 9 (eR t u i)=true
def Zcm (t:TaskP) (p:List (List Int)) (u i:Nat):Prop:=(0≤pN p u i∧pN p u i≤48)∧(0<pN p u i→ratP (eR t u i).1 (eR t u i).2≠0)
def ZA (p:List (List Int)) (u:Nat):Nat→Int
 | 0=>0
 | k+1=>ZA p u k+pN p u k
structure PlanOk (t:TaskP) (p:List (List Int)):Prop where
 task:TaskOk t
 teams:p.length=t.hours.length
 row:∀ u (h:u<p.length),p[u].length=t.sites.length
 hour:∀ u i,u<p.length→i<t.sites.length→Zcm t p u i
 sum:∀ u,u<p.length→ZA p u t.sites.length≤eH t u
end Go.Proofs.YtmpaflidennnoaaGreatDoor
namespace Go.Proofs.YtmpaflidennnoaaGreatDoor
def ZgG:Rat→List Rat→Option Rat
 | a,[]=>some a
 | a,c::cs=>if Fits (a*(1-c)) then ZgG (a*(1-c)) cs else none
theorem Zd9 {n:Nat} {C H:Nat→Rat} (h:Conc n C H) (hc:∀ i,i<n→Sz 18 (C i)) (hh:∀ i,i<n→Sz 18 (H i)) {i:Nat} (hi:i+1<n) :
  Sz 36 (H (i+1)-H i)∧Sz 36 (C (i+1)-C i)∧0<C (i+1)-C i∧0≤H (i+1)-H i∧0≤slp C H i∧Sz 72 (slp C H i):=by
 obtain⟨u1,u2⟩:=h.up i hi
 have a:=Sz.sub (h.h_nn (i:=i+1) hi) (h.h_nn (i:=i) (by omega)) u2 (hh _ hi) (hh i (by omega))
 have b:=Sz.sub (h.c_nn (i:=i+1) hi) (h.c_nn (i:=i) (by omega)) (Rat.le_of_lt u1) (hc _ hi) (hc i (by omega))
 have c:0<C (i+1)-C i:=by grind
 have d:0≤H (i+1)-H i:=by grind
 exact⟨a,b,c,d,Zlz u1 u2,Sz.div d c a b⟩
theorem Zh2 {n k:Nat} {C H:Nat→Rat} {q:Rat} (h:Conc n C H) (hc:∀ i,i<n→Sz 18 (C i)) (hh:∀ i,i<n→Sz 18 (H i)) (hq:0≤q) (hz:Sz k q) {i:Nat} (hi:i+1<n) (hp:Za2 n C q i) :
  0≤q-C i∧Sz (k+18) (q-C i)∧0≤slp C H i*(q-C i)∧Sz (72+(k+18)) (slp C H i*(q-C i))∧lin n C H i q=H i+slp C H i*(q-C i)∧Sz (18+(72+(k+18))+1) (lin n C H i q):=by
 have h1:=hp.low h hq
 obtain⟨_,_,_,_,s0,sz⟩:=Zd9 h hc hh hi
 have a:=Sz.sub hq (h.c_nn (i:=i) (by omega)) h1 hz (hc i (by omega))
 have b:0≤q-C i:=by grind
 have c:=Rat.mul_nonneg s0 b
 have d:=Sz.mul s0 b sz a
 have e:lin n C H i q=H i+slp C H i*(q-C i):=by
  unfold lin slo
  rw[if_pos hi]
 refine⟨b,a,c,d,e,?_⟩
 rw[e]
 exact Sz.add (h.h_nn (i:=i) (by omega)) c (hh i (by omega)) d
end Go.Proofs.YtmpaflidennnoaaGreatDoor
