/- The parts Two, Ops of a proof, put together by program (merge7.py). -/
import Derived.Test.YtmpaflidennnoaaGreatDoorH08
import Derived.Test.YtmpaflidennnoaaGreatDoorH02
set_option maxRecDepth 100000
set_option maxHeartbeats 4000000
set_option linter.unusedVariables false
set_option linter.unusedSimpArgs false
namespace Go.Proofs.YtmpaflidennnoaaGreatDoor
open Go.RowKit Go.Shelf
attribute [local go_sem ↓] Go.wp_at_zero Go.wp_at_succ
def Bi (s t u v:ByteArray) (R:ByteArray→ByteArray→Int→Prop) (x y:ByteArray) (e:Int):Prop:=
 ((okP s t && okP u v)=false∧x=str []∧y=str []∧e=2)∨((okP s t && okP u v)=true∧R x y e)
theorem ZaW {s t:ByteArray} (h:okP s t=true):(∀ c ∈ s.data.toList,ZA c=true)∧(∀ c ∈ t.data.toList,ZA c=true)∧s.size≤1000000∧t.size≤1000000∧
  (Zc 1000000000 (Zg s.data.toList)).length≤1000∧(Zc 1000000000 (Zg t.data.toList)).length≤1000∧0<Zg t.data.toList:=by
 obtain⟨h1,h2,h3,h4⟩:=Ze7.1 h
 obtain⟨c1,l1⟩:=Z1 h1
 obtain⟨c2,l2⟩:=Z1 h2
 rw[Zs] at l1 l2
 exact⟨c1.dig,c2.dig,by omega,by omega,Nat.le_trans (ZbF c1.dig (j:=70) (by omega)) (by omega),Nat.le_trans (ZbF c2.dig (j:=70) (by omega)) (by omega),h3⟩
theorem ZmH (s t u v:ByteArray) (w:World) (hs:s.size≤1000000) (ht:t.size≤1000000) (hu:u.size≤1000000) (hv:v.size≤1000000) (hT:Tabs w) :
  Calls Tryz.prog 98 #[.agg #[.string s,.string t],.agg #[.string u,.string v],.func (.func 167) #[] #[]] w (ZE (Bi s t u v (Ans (mkRat ((Zg s.data.toList*Zg u.data.toList:Nat):Int) (Zg t.data.toList*Zg v.data.toList)))) w):=by
 have HT:=Lib.hid hT
 clear hT
 cases h1:okP s t
 ·have H1:Hid (okE s t=2∧(okP s t && okP u v)=false):=⟨Zav h1,by rw[h1];rfl⟩
  clear h1
  go_enter Tryz.func98,Tryz.ntmps98
  go_wp2_with fail
  obtain⟨w1,hw1⟩:∃ w1,((w.alloc (.cells #[.string s,.string t] 41)).alloc (.cells #[.string u,.string v] 41)).alloc (.cells #[.string ⟨#[]⟩,.string ⟨#[]⟩] 41)=w1:=⟨_,rfl⟩
  rw[hw1]
  have HX1:Hid (Zh w.heap.size [.cells #[.string s,.string t] 41,.cells #[.string u,.string v] 41,.cells #[.string ⟨#[]⟩,.string ⟨#[]⟩] 41] w1):=by rw[← hw1];exact Zh.three w _ _ _
  have HB1:Hid (Below w.heap.size w w1):=by rw[← hw1];exact(((Below.refl _ w).alloc (Nat.le_refl _) _).alloc (by simp) _).alloc (by simp<;>omega) _
  clear hw1
  refine(Zw s t _ hs ht).mono ?_
  rintro e w2 ⟨rfl,hb2⟩
  have HX2:=Lib.hid (HX1.out.below hb2 HX1.out.lt)
  have HB2:=Lib.hid (HB1.out.trans (hb2.mono HB1.out.size))
  clear hb2
  rw[H1.out.1]
  have r0:=HX2.out.cell 2 0 (b:=w.heap.size+1+1) rfl rfl rfl
  have r1:=HX2.out.cell 2 1 (b:=w.heap.size+1+1) rfl rfl rfl
  have f0:=HX2.out.free 2 0 (b:=w.heap.size+1+1) rfl rfl
  have f1:=HX2.out.free 2 1 (b:=w.heap.size+1+1) rfl rfl
  go_wp2
  have q:=Zf (HX2.out.block 2 (b:=w.heap.size+1+1) rfl rfl) (.string ⟨#[]⟩) (.string ⟨#[]⟩)
  have HBQ:=Lib.hid (Ze HB2.out (b:=w.heap.size+1+1) (by omega) (.string ⟨#[]⟩) (.string ⟨#[]⟩))
  obtain⟨w9,hw9⟩:∃ w9,(w2.setCell ⟨w.heap.size+1+1,0,none⟩ (.string ⟨#[]⟩)).setCell ⟨w.heap.size+1+1,1,none⟩ (.string ⟨#[]⟩)=w9:=⟨_,rfl⟩
  rw[hw9] at q HBQ
  obtain⟨q0,q1⟩:=q
  rw[hw9]
  clear r0 r1 f0 f1 hw9
  go_wp2
  refine bodyPost_ret (v:=.tuple #[.agg #[.string ⟨#[]⟩,.string ⟨#[]⟩],.int .i64 2]) (by simp[results,Tryz.f98,go_sem,q0,q1]) rfl ⟨_,_,_,rfl,?_,HBQ.out⟩
  exact .inl ⟨H1.out.2,rfl,rfl,rfl⟩
 ·cases h2:okP u v
  ·have H1:=Lib.hid (Z9 h1)
   have H2:Hid (okE u v=2∧(okP s t && okP u v)=false):=⟨Zav h2,by rw[h2,Bool.and_false]⟩
   clear h1 h2
   go_enter Tryz.func98,Tryz.ntmps98
   go_wp2_with fail
   obtain⟨w1,hw1⟩:∃ w1,((w.alloc (.cells #[.string s,.string t] 41)).alloc (.cells #[.string u,.string v] 41)).alloc (.cells #[.string ⟨#[]⟩,.string ⟨#[]⟩] 41)=w1:=⟨_,rfl⟩
   rw[hw1]
   have HX1:Hid (Zh w.heap.size [.cells #[.string s,.string t] 41,.cells #[.string u,.string v] 41,.cells #[.string ⟨#[]⟩,.string ⟨#[]⟩] 41] w1):=by rw[← hw1];exact Zh.three w _ _ _
   have HB1:Hid (Below w.heap.size w w1):=by rw[← hw1];exact(((Below.refl _ w).alloc (Nat.le_refl _) _).alloc (by simp) _).alloc (by simp<;>omega) _
   clear hw1
   refine(Zw s t _ hs ht).mono ?_
   rintro e w2 ⟨rfl,hb2⟩
   have HX2:=Lib.hid (HX1.out.below hb2 HX1.out.lt)
   have HB2:=Lib.hid (HB1.out.trans (hb2.mono HB1.out.size))
   clear hb2
   rw[H1.out]
   have kc2:=HX2.out.cell 1 0 (b:=w.heap.size+1) rfl rfl rfl
   have kd2:=HX2.out.cell 1 1 (b:=w.heap.size+1) rfl rfl rfl
   go_wp2_with fail
   refine(Zw u v _ hu hv).mono ?_
   rintro e w3 ⟨rfl,hb3⟩
   rw[H2.out.1]
   have HX3:=Lib.hid (HX2.out.below hb3 HX2.out.lt)
   have HB3:=Lib.hid (HB2.out.trans (hb3.mono HB2.out.size))
   clear hb3 kc2 kd2
   have r0:=HX3.out.cell 2 0 (b:=w.heap.size+1+1) rfl rfl rfl
   have r1:=HX3.out.cell 2 1 (b:=w.heap.size+1+1) rfl rfl rfl
   have f0:=HX3.out.free 2 0 (b:=w.heap.size+1+1) rfl rfl
   have f1:=HX3.out.free 2 1 (b:=w.heap.size+1+1) rfl rfl
   go_wp2
   have q:=Zf (HX3.out.block 2 (b:=w.heap.size+1+1) rfl rfl) (.string ⟨#[]⟩) (.string ⟨#[]⟩)
   have HBQ:=Lib.hid (Ze HB3.out (b:=w.heap.size+1+1) (by omega) (.string ⟨#[]⟩) (.string ⟨#[]⟩))
   obtain⟨w9,hw9⟩:∃ w9,(w3.setCell ⟨w.heap.size+1+1,0,none⟩ (.string ⟨#[]⟩)).setCell ⟨w.heap.size+1+1,1,none⟩ (.string ⟨#[]⟩)=w9:=⟨_,rfl⟩
   rw[hw9] at q HBQ
   obtain⟨q0,q1⟩:=q
   rw[hw9]
   clear r0 r1 f0 f1 hw9
   go_wp2
   refine bodyPost_ret (v:=.tuple #[.agg #[.string ⟨#[]⟩,.string ⟨#[]⟩],.int .i64 2]) (by simp[results,Tryz.f98,go_sem,q0,q1]) rfl ⟨_,_,_,rfl,?_,HBQ.out⟩
   exact .inl ⟨H2.out.2,rfl,rfl,rfl⟩
  ·obtain⟨g1,g2,_,_,l1,l2,d1⟩:=ZaW h1
   obtain⟨g3,g4,_,_,l3,l4,d2⟩:=ZaW h2
   have HG:=Lib.hid (And.intro g1 (And.intro g2 (And.intro g3 g4)))
   have HD:=Lib.hid (And.intro d1 d2)
   have H1:=Lib.hid (Z9 h1)
   have H2:=Lib.hid (Z9 h2)
   have HQ:Hid ((okP s t && okP u v)=true):=by show _=_;rw[h1,h2];rfl
   clear h1 h2 g1 g2 g3 g4 d1 d2
   go_enter Tryz.func98,Tryz.ntmps98
   go_wp2_with fail
   obtain⟨w1,hw1⟩:∃ w1,((w.alloc (.cells #[.string s,.string t] 41)).alloc (.cells #[.string u,.string v] 41)).alloc (.cells #[.string ⟨#[]⟩,.string ⟨#[]⟩] 41)=w1:=⟨_,rfl⟩
   rw[hw1]
   have HX1:Hid (Zh w.heap.size [.cells #[.string s,.string t] 41,.cells #[.string u,.string v] 41,.cells #[.string ⟨#[]⟩,.string ⟨#[]⟩] 41] w1):=by rw[← hw1];exact Zh.three w _ _ _
   have HB1:Hid (Below w.heap.size w w1):=by rw[← hw1];exact(((Below.refl _ w).alloc (Nat.le_refl _) _).alloc (by simp) _).alloc (by simp<;>omega) _
   clear hw1
   refine(Zw s t _ hs ht).mono ?_
   rintro e w2 ⟨rfl,hb2⟩
   have HX2:=Lib.hid (HX1.out.below hb2 HX1.out.lt)
   have HB2:=Lib.hid (HB1.out.trans (hb2.mono HB1.out.size))
   clear hb2
   rw[H1.out]
   have kc2:=HX2.out.cell 1 0 (b:=w.heap.size+1) rfl rfl rfl
   have kd2:=HX2.out.cell 1 1 (b:=w.heap.size+1) rfl rfl rfl
   go_wp2_with fail
   refine(Zw u v _ hu hv).mono ?_
   rintro e w3 ⟨rfl,hb3⟩
   rw[H2.out]
   have HX3:=Lib.hid (HX2.out.below hb3 HX2.out.lt)
   have HB3:=Lib.hid (HB2.out.trans (hb3.mono HB2.out.size))
   clear hb3 kc2 kd2
   have ka3:=HX3.out.cell 0 0 (b:=w.heap.size) rfl rfl rfl
   have kb3:=HX3.out.cell 0 1 (b:=w.heap.size) rfl rfl rfl
   have kc3:=HX3.out.cell 1 0 (b:=w.heap.size+1) rfl rfl rfl
   have kd3:=HX3.out.cell 1 1 (b:=w.heap.size+1) rfl rfl rfl
   go_wp2_with fail
   go_region_held3
    (fun w'=>w'.cell? ⟨w.heap.size,0,none⟩=some (.string s)∧w'.cell? ⟨w.heap.size,1,none⟩=some (.string t)∧w'.cell? ⟨w.heap.size+1,0,none⟩=some (.string u)∧w'.cell? ⟨w.heap.size+1,1,none⟩=some (.string v))
    (first | exact⟨ka3,kb3,kc3,kd3⟩ | exact⟨ka4,kb4,kc4,kd4⟩ | exact⟨ka5,kb5,kc5,kd5⟩ | exact⟨(Zn _ _ _ (by omega) _).trans ka9,(Zn _ _ _ (by omega) _).trans kb9,(Zn _ _ _ (by omega) _).trans kc9,(Zn _ _ _ (by omega) _).trans kd9⟩ | exact⟨ka9,kb9,kc9,kd9⟩)
    (first
     | (go_at_call_of 67 (Value.agg #[.string s,.string t]);refine(Zau s t hs ht HG.out.1 HG.out.2.1 _).mono ?_;rintro e w4 ⟨va,vb,rfl,hva,hvb,hb⟩;obtain⟨p4,m4,c4,rfl⟩:=hva.form';obtain⟨q4,n4,d4,rfl⟩:=hvb.form';have HA:=Lib.hid hva;have HC:=Lib.hid hvb;have HX4:=Lib.hid (HX3.out.drew.below hb HX3.out.lt);have HB4:Hid (Below w.heap.size w w4):=HB3.out.drew.trans (hb.mono HB3.out.drew.size);have ka4:=HX4.out.cell 0 0 (b:=w.heap.size) rfl rfl rfl;have kb4:=HX4.out.cell 0 1 (b:=w.heap.size) rfl rfl rfl;have kc4:=HX4.out.cell 1 0 (b:=w.heap.size+1) rfl rfl rfl;have kd4:=HX4.out.cell 1 1 (b:=w.heap.size+1) rfl rfl rfl;clear hva hvb hb)
     | (go_at_call_of 67 (Value.agg #[.string u,.string v]);refine(Zau u v hu hv HG.out.2.2.1 HG.out.2.2.2 _).mono ?_;rintro e w5 ⟨vc,vd,rfl,hva,hvb,hb⟩;obtain⟨p5,m5,c5,rfl⟩:=hva.form';obtain⟨q5,n5,d5,rfl⟩:=hvb.form';have HE:=Lib.hid hva;have HF:=Lib.hid hvb;have HA5:=Lib.hid (HA.out.after hb (Nat.le_refl _));have HC5:=Lib.hid (HC.out.after hb (Nat.le_refl _));have HX5:=Lib.hid (HX4.out.below hb HX4.out.lt);have HB5:Hid (Below w.heap.size w w5):=HB4.out.trans (hb.mono HB4.out.size);have ka5:=HX5.out.cell 0 0 (b:=w.heap.size) rfl rfl rfl;have kb5:=HX5.out.cell 0 1 (b:=w.heap.size) rfl rfl rfl;have kc5:=HX5.out.cell 1 0 (b:=w.heap.size+1) rfl rfl rfl;have kd5:=HX5.out.cell 1 1 (b:=w.heap.size+1) rfl rfl rfl;clear hva hvb hb)
     | (go_at_call 167;refine(ZlE HA5.out HC5.out HE.out HF.out l1 l2 l3 l4 HD.out.1 HD.out.2 (HT.out.below HB5.out (Nat.le_refl _))).mono ?_;rintro e w9 ⟨x,y,n,rfl,hR,hb9⟩;have HR:=Lib.hid hR;have HX9:=Lib.hid (HX5.out.below hb9 HX5.out.lt);have HB9:Hid (Below w.heap.size w w9):=HB5.out.trans (hb9.mono HB5.out.size);have ka9:=HX9.out.cell 0 0 (b:=w.heap.size) rfl rfl rfl;have kb9:=HX9.out.cell 0 1 (b:=w.heap.size) rfl rfl rfl;have kc9:=HX9.out.cell 1 0 (b:=w.heap.size+1) rfl rfl rfl;have kd9:=HX9.out.cell 1 1 (b:=w.heap.size+1) rfl rfl rfl;have r0:=HX9.out.cell 2 0 (b:=w.heap.size+1+1) rfl rfl rfl;have r1:=HX9.out.cell 2 1 (b:=w.heap.size+1+1) rfl rfl rfl;have f0:=HX9.out.free 2 0 (b:=w.heap.size+1+1) rfl rfl;have f1:=HX9.out.free 2 1 (b:=w.heap.size+1+1) rfl rfl;clear hR hb9)
    )
   all_goals
    have q:=Zf (HX9.out.block 2 (b:=w.heap.size+1+1) rfl rfl) (.string x) (.string y)
    have HBQ:=Lib.hid (Ze HB9.out (b:=w.heap.size+1+1) (by omega) (.string x) (.string y))
    obtain⟨wz,hwz⟩:∃ wz,(w9.setCell ⟨w.heap.size+1+1,0,none⟩ (.string x)).setCell ⟨w.heap.size+1+1,1,none⟩ (.string y)=wz:=⟨_,rfl⟩
    rw[hwz] at q HBQ
    obtain⟨q0,q1⟩:=q
    rw[hwz]
    clear r0 r1 f0 f1 hwz
    go_wp2
    refine bodyPost_ret (v:=.tuple #[.agg #[.string x,.string y],.int .i64 n]) (by simp[results,Tryz.f98,go_sem,q0,q1]) rfl ⟨_,_,_,rfl,.inr ⟨HQ.out,HR.out⟩,HBQ.out⟩
theorem Zmq (s t u v:ByteArray) (w:World) (hs:s.size≤1000000) (ht:t.size≤1000000) (hu:u.size≤1000000) (hv:v.size≤1000000) (hT:Tabs w) :
  Calls Tryz.prog 98 #[.agg #[.string s,.string t],.agg #[.string u,.string v],.func (.func 99) #[] #[]] w (ZE (Bi s t u v (Ans (mkRat ((Zg s.data.toList*Zg v.data.toList+Zg u.data.toList*Zg t.data.toList:Nat):Int) (Zg t.data.toList*Zg v.data.toList)))) w):=by
 have HT:=Lib.hid hT
 clear hT
 cases h1:okP s t
 ·have H1:Hid (okE s t=2∧(okP s t && okP u v)=false):=⟨Zav h1,by rw[h1];rfl⟩
  clear h1
  go_enter Tryz.func98,Tryz.ntmps98
  go_wp2_with fail
  obtain⟨w1,hw1⟩:∃ w1,((w.alloc (.cells #[.string s,.string t] 41)).alloc (.cells #[.string u,.string v] 41)).alloc (.cells #[.string ⟨#[]⟩,.string ⟨#[]⟩] 41)=w1:=⟨_,rfl⟩
  rw[hw1]
  have HX1:Hid (Zh w.heap.size [.cells #[.string s,.string t] 41,.cells #[.string u,.string v] 41,.cells #[.string ⟨#[]⟩,.string ⟨#[]⟩] 41] w1):=by rw[← hw1];exact Zh.three w _ _ _
  have HB1:Hid (Below w.heap.size w w1):=by rw[← hw1];exact(((Below.refl _ w).alloc (Nat.le_refl _) _).alloc (by simp) _).alloc (by simp<;>omega) _
  clear hw1
  refine(Zw s t _ hs ht).mono ?_
  rintro e w2 ⟨rfl,hb2⟩
  have HX2:=Lib.hid (HX1.out.below hb2 HX1.out.lt)
  have HB2:=Lib.hid (HB1.out.trans (hb2.mono HB1.out.size))
  clear hb2
  rw[H1.out.1]
  have r0:=HX2.out.cell 2 0 (b:=w.heap.size+1+1) rfl rfl rfl
  have r1:=HX2.out.cell 2 1 (b:=w.heap.size+1+1) rfl rfl rfl
  have f0:=HX2.out.free 2 0 (b:=w.heap.size+1+1) rfl rfl
  have f1:=HX2.out.free 2 1 (b:=w.heap.size+1+1) rfl rfl
  go_wp2
  have q:=Zf (HX2.out.block 2 (b:=w.heap.size+1+1) rfl rfl) (.string ⟨#[]⟩) (.string ⟨#[]⟩)
  have HBQ:=Lib.hid (Ze HB2.out (b:=w.heap.size+1+1) (by omega) (.string ⟨#[]⟩) (.string ⟨#[]⟩))
  obtain⟨w9,hw9⟩:∃ w9,(w2.setCell ⟨w.heap.size+1+1,0,none⟩ (.string ⟨#[]⟩)).setCell ⟨w.heap.size+1+1,1,none⟩ (.string ⟨#[]⟩)=w9:=⟨_,rfl⟩
  rw[hw9] at q HBQ
  obtain⟨q0,q1⟩:=q
  rw[hw9]
  clear r0 r1 f0 f1 hw9
  go_wp2
  refine bodyPost_ret (v:=.tuple #[.agg #[.string ⟨#[]⟩,.string ⟨#[]⟩],.int .i64 2]) (by simp[results,Tryz.f98,go_sem,q0,q1]) rfl ⟨_,_,_,rfl,?_,HBQ.out⟩
  exact .inl ⟨H1.out.2,rfl,rfl,rfl⟩
 ·cases h2:okP u v
  ·have H1:=Lib.hid (Z9 h1)
   have H2:Hid (okE u v=2∧(okP s t && okP u v)=false):=⟨Zav h2,by rw[h2,Bool.and_false]⟩
   clear h1 h2
   go_enter Tryz.func98,Tryz.ntmps98
   go_wp2_with fail
   obtain⟨w1,hw1⟩:∃ w1,((w.alloc (.cells #[.string s,.string t] 41)).alloc (.cells #[.string u,.string v] 41)).alloc (.cells #[.string ⟨#[]⟩,.string ⟨#[]⟩] 41)=w1:=⟨_,rfl⟩
   rw[hw1]
   have HX1:Hid (Zh w.heap.size [.cells #[.string s,.string t] 41,.cells #[.string u,.string v] 41,.cells #[.string ⟨#[]⟩,.string ⟨#[]⟩] 41] w1):=by rw[← hw1];exact Zh.three w _ _ _
   have HB1:Hid (Below w.heap.size w w1):=by rw[← hw1];exact(((Below.refl _ w).alloc (Nat.le_refl _) _).alloc (by simp) _).alloc (by simp<;>omega) _
   clear hw1
   refine(Zw s t _ hs ht).mono ?_
   rintro e w2 ⟨rfl,hb2⟩
   have HX2:=Lib.hid (HX1.out.below hb2 HX1.out.lt)
   have HB2:=Lib.hid (HB1.out.trans (hb2.mono HB1.out.size))
   clear hb2
   rw[H1.out]
   have kc2:=HX2.out.cell 1 0 (b:=w.heap.size+1) rfl rfl rfl
   have kd2:=HX2.out.cell 1 1 (b:=w.heap.size+1) rfl rfl rfl
   go_wp2_with fail
   refine(Zw u v _ hu hv).mono ?_
   rintro e w3 ⟨rfl,hb3⟩
   rw[H2.out.1]
   have HX3:=Lib.hid (HX2.out.below hb3 HX2.out.lt)
   have HB3:=Lib.hid (HB2.out.trans (hb3.mono HB2.out.size))
   clear hb3 kc2 kd2
   have r0:=HX3.out.cell 2 0 (b:=w.heap.size+1+1) rfl rfl rfl
   have r1:=HX3.out.cell 2 1 (b:=w.heap.size+1+1) rfl rfl rfl
   have f0:=HX3.out.free 2 0 (b:=w.heap.size+1+1) rfl rfl
   have f1:=HX3.out.free 2 1 (b:=w.heap.size+1+1) rfl rfl
   go_wp2
   have q:=Zf (HX3.out.block 2 (b:=w.heap.size+1+1) rfl rfl) (.string ⟨#[]⟩) (.string ⟨#[]⟩)
   have HBQ:=Lib.hid (Ze HB3.out (b:=w.heap.size+1+1) (by omega) (.string ⟨#[]⟩) (.string ⟨#[]⟩))
   obtain⟨w9,hw9⟩:∃ w9,(w3.setCell ⟨w.heap.size+1+1,0,none⟩ (.string ⟨#[]⟩)).setCell ⟨w.heap.size+1+1,1,none⟩ (.string ⟨#[]⟩)=w9:=⟨_,rfl⟩
   rw[hw9] at q HBQ
   obtain⟨q0,q1⟩:=q
   rw[hw9]
   clear r0 r1 f0 f1 hw9
   go_wp2
   refine bodyPost_ret (v:=.tuple #[.agg #[.string ⟨#[]⟩,.string ⟨#[]⟩],.int .i64 2]) (by simp[results,Tryz.f98,go_sem,q0,q1]) rfl ⟨_,_,_,rfl,?_,HBQ.out⟩
   exact .inl ⟨H2.out.2,rfl,rfl,rfl⟩
  ·obtain⟨g1,g2,_,_,l1,l2,d1⟩:=ZaW h1
   obtain⟨g3,g4,_,_,l3,l4,d2⟩:=ZaW h2
   have HG:=Lib.hid (And.intro g1 (And.intro g2 (And.intro g3 g4)))
   have HD:=Lib.hid (And.intro d1 d2)
   have H1:=Lib.hid (Z9 h1)
   have H2:=Lib.hid (Z9 h2)
   have HQ:Hid ((okP s t && okP u v)=true):=by show _=_;rw[h1,h2];rfl
   clear h1 h2 g1 g2 g3 g4 d1 d2
   go_enter Tryz.func98,Tryz.ntmps98
   go_wp2_with fail
   obtain⟨w1,hw1⟩:∃ w1,((w.alloc (.cells #[.string s,.string t] 41)).alloc (.cells #[.string u,.string v] 41)).alloc (.cells #[.string ⟨#[]⟩,.string ⟨#[]⟩] 41)=w1:=⟨_,rfl⟩
   rw[hw1]
   have HX1:Hid (Zh w.heap.size [.cells #[.string s,.string t] 41,.cells #[.string u,.string v] 41,.cells #[.string ⟨#[]⟩,.string ⟨#[]⟩] 41] w1):=by rw[← hw1];exact Zh.three w _ _ _
   have HB1:Hid (Below w.heap.size w w1):=by rw[← hw1];exact(((Below.refl _ w).alloc (Nat.le_refl _) _).alloc (by simp) _).alloc (by simp<;>omega) _
   clear hw1
   refine(Zw s t _ hs ht).mono ?_
   rintro e w2 ⟨rfl,hb2⟩
   have HX2:=Lib.hid (HX1.out.below hb2 HX1.out.lt)
   have HB2:=Lib.hid (HB1.out.trans (hb2.mono HB1.out.size))
   clear hb2
   rw[H1.out]
   have kc2:=HX2.out.cell 1 0 (b:=w.heap.size+1) rfl rfl rfl
   have kd2:=HX2.out.cell 1 1 (b:=w.heap.size+1) rfl rfl rfl
   go_wp2_with fail
   refine(Zw u v _ hu hv).mono ?_
   rintro e w3 ⟨rfl,hb3⟩
   rw[H2.out]
   have HX3:=Lib.hid (HX2.out.below hb3 HX2.out.lt)
   have HB3:=Lib.hid (HB2.out.trans (hb3.mono HB2.out.size))
   clear hb3 kc2 kd2
   have ka3:=HX3.out.cell 0 0 (b:=w.heap.size) rfl rfl rfl
   have kb3:=HX3.out.cell 0 1 (b:=w.heap.size) rfl rfl rfl
   have kc3:=HX3.out.cell 1 0 (b:=w.heap.size+1) rfl rfl rfl
   have kd3:=HX3.out.cell 1 1 (b:=w.heap.size+1) rfl rfl rfl
   go_wp2_with fail
   go_region_held3
    (fun w'=>w'.cell? ⟨w.heap.size,0,none⟩=some (.string s)∧w'.cell? ⟨w.heap.size,1,none⟩=some (.string t)∧w'.cell? ⟨w.heap.size+1,0,none⟩=some (.string u)∧w'.cell? ⟨w.heap.size+1,1,none⟩=some (.string v))
    (first | exact⟨ka3,kb3,kc3,kd3⟩ | exact⟨ka4,kb4,kc4,kd4⟩ | exact⟨ka5,kb5,kc5,kd5⟩ | exact⟨(Zn _ _ _ (by omega) _).trans ka9,(Zn _ _ _ (by omega) _).trans kb9,(Zn _ _ _ (by omega) _).trans kc9,(Zn _ _ _ (by omega) _).trans kd9⟩ | exact⟨ka9,kb9,kc9,kd9⟩)
    (first
     | (go_at_call_of 67 (Value.agg #[.string s,.string t]);refine(Zau s t hs ht HG.out.1 HG.out.2.1 _).mono ?_;rintro e w4 ⟨va,vb,rfl,hva,hvb,hb⟩;obtain⟨p4,m4,c4,rfl⟩:=hva.form';obtain⟨q4,n4,d4,rfl⟩:=hvb.form';have HA:=Lib.hid hva;have HC:=Lib.hid hvb;have HX4:=Lib.hid (HX3.out.drew.below hb HX3.out.lt);have HB4:Hid (Below w.heap.size w w4):=HB3.out.drew.trans (hb.mono HB3.out.drew.size);have ka4:=HX4.out.cell 0 0 (b:=w.heap.size) rfl rfl rfl;have kb4:=HX4.out.cell 0 1 (b:=w.heap.size) rfl rfl rfl;have kc4:=HX4.out.cell 1 0 (b:=w.heap.size+1) rfl rfl rfl;have kd4:=HX4.out.cell 1 1 (b:=w.heap.size+1) rfl rfl rfl;clear hva hvb hb)
     | (go_at_call_of 67 (Value.agg #[.string u,.string v]);refine(Zau u v hu hv HG.out.2.2.1 HG.out.2.2.2 _).mono ?_;rintro e w5 ⟨vc,vd,rfl,hva,hvb,hb⟩;obtain⟨p5,m5,c5,rfl⟩:=hva.form';obtain⟨q5,n5,d5,rfl⟩:=hvb.form';have HE:=Lib.hid hva;have HF:=Lib.hid hvb;have HA5:=Lib.hid (HA.out.after hb (Nat.le_refl _));have HC5:=Lib.hid (HC.out.after hb (Nat.le_refl _));have HX5:=Lib.hid (HX4.out.below hb HX4.out.lt);have HB5:Hid (Below w.heap.size w w5):=HB4.out.trans (hb.mono HB4.out.size);have ka5:=HX5.out.cell 0 0 (b:=w.heap.size) rfl rfl rfl;have kb5:=HX5.out.cell 0 1 (b:=w.heap.size) rfl rfl rfl;have kc5:=HX5.out.cell 1 0 (b:=w.heap.size+1) rfl rfl rfl;have kd5:=HX5.out.cell 1 1 (b:=w.heap.size+1) rfl rfl rfl;clear hva hvb hb)
     | (go_at_call 99;refine(ZlW HA5.out HC5.out HE.out HF.out l1 l2 l3 l4 HD.out.1 HD.out.2 (HT.out.below HB5.out (Nat.le_refl _))).mono ?_;rintro e w9 ⟨x,y,n,rfl,hR,hb9⟩;have HR:=Lib.hid hR;have HX9:=Lib.hid (HX5.out.below hb9 HX5.out.lt);have HB9:Hid (Below w.heap.size w w9):=HB5.out.trans (hb9.mono HB5.out.size);have ka9:=HX9.out.cell 0 0 (b:=w.heap.size) rfl rfl rfl;have kb9:=HX9.out.cell 0 1 (b:=w.heap.size) rfl rfl rfl;have kc9:=HX9.out.cell 1 0 (b:=w.heap.size+1) rfl rfl rfl;have kd9:=HX9.out.cell 1 1 (b:=w.heap.size+1) rfl rfl rfl;have r0:=HX9.out.cell 2 0 (b:=w.heap.size+1+1) rfl rfl rfl;have r1:=HX9.out.cell 2 1 (b:=w.heap.size+1+1) rfl rfl rfl;have f0:=HX9.out.free 2 0 (b:=w.heap.size+1+1) rfl rfl;have f1:=HX9.out.free 2 1 (b:=w.heap.size+1+1) rfl rfl;clear hR hb9)
    )
   all_goals
    have q:=Zf (HX9.out.block 2 (b:=w.heap.size+1+1) rfl rfl) (.string x) (.string y)
    have HBQ:=Lib.hid (Ze HB9.out (b:=w.heap.size+1+1) (by omega) (.string x) (.string y))
    obtain⟨wz,hwz⟩:∃ wz,(w9.setCell ⟨w.heap.size+1+1,0,none⟩ (.string x)).setCell ⟨w.heap.size+1+1,1,none⟩ (.string y)=wz:=⟨_,rfl⟩
    rw[hwz] at q HBQ
    obtain⟨q0,q1⟩:=q
    rw[hwz]
    clear r0 r1 f0 f1 hwz
    go_wp2
    refine bodyPost_ret (v:=.tuple #[.agg #[.string x,.string y],.int .i64 n]) (by simp[results,Tryz.f98,go_sem,q0,q1]) rfl ⟨_,_,_,rfl,.inr ⟨HQ.out,HR.out⟩,HBQ.out⟩
theorem ZmF (s t u v:ByteArray) (w:World) (hs:s.size≤1000000) (ht:t.size≤1000000) (hu:u.size≤1000000) (hv:v.size≤1000000) (hT:Tabs w) :
  Calls Tryz.prog 98 #[.agg #[.string s,.string t],.agg #[.string u,.string v],.func (.func 154) #[] #[]] w (ZE (Bi s t u v (SubR (Zg s.data.toList) (Zg t.data.toList) (Zg u.data.toList) (Zg v.data.toList))) w):=by
 have HT:=Lib.hid hT
 clear hT
 cases h1:okP s t
 ·have H1:Hid (okE s t=2∧(okP s t && okP u v)=false):=⟨Zav h1,by rw[h1];rfl⟩
  clear h1
  go_enter Tryz.func98,Tryz.ntmps98
  go_wp2_with fail
  obtain⟨w1,hw1⟩:∃ w1,((w.alloc (.cells #[.string s,.string t] 41)).alloc (.cells #[.string u,.string v] 41)).alloc (.cells #[.string ⟨#[]⟩,.string ⟨#[]⟩] 41)=w1:=⟨_,rfl⟩
  rw[hw1]
  have HX1:Hid (Zh w.heap.size [.cells #[.string s,.string t] 41,.cells #[.string u,.string v] 41,.cells #[.string ⟨#[]⟩,.string ⟨#[]⟩] 41] w1):=by rw[← hw1];exact Zh.three w _ _ _
  have HB1:Hid (Below w.heap.size w w1):=by rw[← hw1];exact(((Below.refl _ w).alloc (Nat.le_refl _) _).alloc (by simp) _).alloc (by simp<;>omega) _
  clear hw1
  refine(Zw s t _ hs ht).mono ?_
  rintro e w2 ⟨rfl,hb2⟩
  have HX2:=Lib.hid (HX1.out.below hb2 HX1.out.lt)
  have HB2:=Lib.hid (HB1.out.trans (hb2.mono HB1.out.size))
  clear hb2
  rw[H1.out.1]
  have r0:=HX2.out.cell 2 0 (b:=w.heap.size+1+1) rfl rfl rfl
  have r1:=HX2.out.cell 2 1 (b:=w.heap.size+1+1) rfl rfl rfl
  have f0:=HX2.out.free 2 0 (b:=w.heap.size+1+1) rfl rfl
  have f1:=HX2.out.free 2 1 (b:=w.heap.size+1+1) rfl rfl
  go_wp2
  have q:=Zf (HX2.out.block 2 (b:=w.heap.size+1+1) rfl rfl) (.string ⟨#[]⟩) (.string ⟨#[]⟩)
  have HBQ:=Lib.hid (Ze HB2.out (b:=w.heap.size+1+1) (by omega) (.string ⟨#[]⟩) (.string ⟨#[]⟩))
  obtain⟨w9,hw9⟩:∃ w9,(w2.setCell ⟨w.heap.size+1+1,0,none⟩ (.string ⟨#[]⟩)).setCell ⟨w.heap.size+1+1,1,none⟩ (.string ⟨#[]⟩)=w9:=⟨_,rfl⟩
  rw[hw9] at q HBQ
  obtain⟨q0,q1⟩:=q
  rw[hw9]
  clear r0 r1 f0 f1 hw9
  go_wp2
  refine bodyPost_ret (v:=.tuple #[.agg #[.string ⟨#[]⟩,.string ⟨#[]⟩],.int .i64 2]) (by simp[results,Tryz.f98,go_sem,q0,q1]) rfl ⟨_,_,_,rfl,?_,HBQ.out⟩
  exact .inl ⟨H1.out.2,rfl,rfl,rfl⟩
 ·cases h2:okP u v
  ·have H1:=Lib.hid (Z9 h1)
   have H2:Hid (okE u v=2∧(okP s t && okP u v)=false):=⟨Zav h2,by rw[h2,Bool.and_false]⟩
   clear h1 h2
   go_enter Tryz.func98,Tryz.ntmps98
   go_wp2_with fail
   obtain⟨w1,hw1⟩:∃ w1,((w.alloc (.cells #[.string s,.string t] 41)).alloc (.cells #[.string u,.string v] 41)).alloc (.cells #[.string ⟨#[]⟩,.string ⟨#[]⟩] 41)=w1:=⟨_,rfl⟩
   rw[hw1]
   have HX1:Hid (Zh w.heap.size [.cells #[.string s,.string t] 41,.cells #[.string u,.string v] 41,.cells #[.string ⟨#[]⟩,.string ⟨#[]⟩] 41] w1):=by rw[← hw1];exact Zh.three w _ _ _
   have HB1:Hid (Below w.heap.size w w1):=by rw[← hw1];exact(((Below.refl _ w).alloc (Nat.le_refl _) _).alloc (by simp) _).alloc (by simp<;>omega) _
   clear hw1
   refine(Zw s t _ hs ht).mono ?_
   rintro e w2 ⟨rfl,hb2⟩
   have HX2:=Lib.hid (HX1.out.below hb2 HX1.out.lt)
   have HB2:=Lib.hid (HB1.out.trans (hb2.mono HB1.out.size))
   clear hb2
   rw[H1.out]
   have kc2:=HX2.out.cell 1 0 (b:=w.heap.size+1) rfl rfl rfl
   have kd2:=HX2.out.cell 1 1 (b:=w.heap.size+1) rfl rfl rfl
   go_wp2_with fail
   refine(Zw u v _ hu hv).mono ?_
   rintro e w3 ⟨rfl,hb3⟩
   rw[H2.out.1]
   have HX3:=Lib.hid (HX2.out.below hb3 HX2.out.lt)
   have HB3:=Lib.hid (HB2.out.trans (hb3.mono HB2.out.size))
   clear hb3 kc2 kd2
   have r0:=HX3.out.cell 2 0 (b:=w.heap.size+1+1) rfl rfl rfl
   have r1:=HX3.out.cell 2 1 (b:=w.heap.size+1+1) rfl rfl rfl
   have f0:=HX3.out.free 2 0 (b:=w.heap.size+1+1) rfl rfl
   have f1:=HX3.out.free 2 1 (b:=w.heap.size+1+1) rfl rfl
   go_wp2
   have q:=Zf (HX3.out.block 2 (b:=w.heap.size+1+1) rfl rfl) (.string ⟨#[]⟩) (.string ⟨#[]⟩)
   have HBQ:=Lib.hid (Ze HB3.out (b:=w.heap.size+1+1) (by omega) (.string ⟨#[]⟩) (.string ⟨#[]⟩))
   obtain⟨w9,hw9⟩:∃ w9,(w3.setCell ⟨w.heap.size+1+1,0,none⟩ (.string ⟨#[]⟩)).setCell ⟨w.heap.size+1+1,1,none⟩ (.string ⟨#[]⟩)=w9:=⟨_,rfl⟩
   rw[hw9] at q HBQ
   obtain⟨q0,q1⟩:=q
   rw[hw9]
   clear r0 r1 f0 f1 hw9
   go_wp2
   refine bodyPost_ret (v:=.tuple #[.agg #[.string ⟨#[]⟩,.string ⟨#[]⟩],.int .i64 2]) (by simp[results,Tryz.f98,go_sem,q0,q1]) rfl ⟨_,_,_,rfl,?_,HBQ.out⟩
   exact .inl ⟨H2.out.2,rfl,rfl,rfl⟩
  ·obtain⟨g1,g2,_,_,l1,l2,d1⟩:=ZaW h1
   obtain⟨g3,g4,_,_,l3,l4,d2⟩:=ZaW h2
   have HG:=Lib.hid (And.intro g1 (And.intro g2 (And.intro g3 g4)))
   have HD:=Lib.hid (And.intro d1 d2)
   have H1:=Lib.hid (Z9 h1)
   have H2:=Lib.hid (Z9 h2)
   have HQ:Hid ((okP s t && okP u v)=true):=by show _=_;rw[h1,h2];rfl
   clear h1 h2 g1 g2 g3 g4 d1 d2
   go_enter Tryz.func98,Tryz.ntmps98
   go_wp2_with fail
   obtain⟨w1,hw1⟩:∃ w1,((w.alloc (.cells #[.string s,.string t] 41)).alloc (.cells #[.string u,.string v] 41)).alloc (.cells #[.string ⟨#[]⟩,.string ⟨#[]⟩] 41)=w1:=⟨_,rfl⟩
   rw[hw1]
   have HX1:Hid (Zh w.heap.size [.cells #[.string s,.string t] 41,.cells #[.string u,.string v] 41,.cells #[.string ⟨#[]⟩,.string ⟨#[]⟩] 41] w1):=by rw[← hw1];exact Zh.three w _ _ _
   have HB1:Hid (Below w.heap.size w w1):=by rw[← hw1];exact(((Below.refl _ w).alloc (Nat.le_refl _) _).alloc (by simp) _).alloc (by simp<;>omega) _
   clear hw1
   refine(Zw s t _ hs ht).mono ?_
   rintro e w2 ⟨rfl,hb2⟩
   have HX2:=Lib.hid (HX1.out.below hb2 HX1.out.lt)
   have HB2:=Lib.hid (HB1.out.trans (hb2.mono HB1.out.size))
   clear hb2
   rw[H1.out]
   have kc2:=HX2.out.cell 1 0 (b:=w.heap.size+1) rfl rfl rfl
   have kd2:=HX2.out.cell 1 1 (b:=w.heap.size+1) rfl rfl rfl
   go_wp2_with fail
   refine(Zw u v _ hu hv).mono ?_
   rintro e w3 ⟨rfl,hb3⟩
   rw[H2.out]
   have HX3:=Lib.hid (HX2.out.below hb3 HX2.out.lt)
   have HB3:=Lib.hid (HB2.out.trans (hb3.mono HB2.out.size))
   clear hb3 kc2 kd2
   have ka3:=HX3.out.cell 0 0 (b:=w.heap.size) rfl rfl rfl
   have kb3:=HX3.out.cell 0 1 (b:=w.heap.size) rfl rfl rfl
   have kc3:=HX3.out.cell 1 0 (b:=w.heap.size+1) rfl rfl rfl
   have kd3:=HX3.out.cell 1 1 (b:=w.heap.size+1) rfl rfl rfl
   go_wp2_with fail
   go_region_held3
    (fun w'=>w'.cell? ⟨w.heap.size,0,none⟩=some (.string s)∧w'.cell? ⟨w.heap.size,1,none⟩=some (.string t)∧w'.cell? ⟨w.heap.size+1,0,none⟩=some (.string u)∧w'.cell? ⟨w.heap.size+1,1,none⟩=some (.string v))
    (first | exact⟨ka3,kb3,kc3,kd3⟩ | exact⟨ka4,kb4,kc4,kd4⟩ | exact⟨ka5,kb5,kc5,kd5⟩ | exact⟨(Zn _ _ _ (by omega) _).trans ka9,(Zn _ _ _ (by omega) _).trans kb9,(Zn _ _ _ (by omega) _).trans kc9,(Zn _ _ _ (by omega) _).trans kd9⟩ | exact⟨ka9,kb9,kc9,kd9⟩)
    (first
     | (go_at_call_of 67 (Value.agg #[.string s,.string t]);refine(Zau s t hs ht HG.out.1 HG.out.2.1 _).mono ?_;rintro e w4 ⟨va,vb,rfl,hva,hvb,hb⟩;obtain⟨p4,m4,c4,rfl⟩:=hva.form';obtain⟨q4,n4,d4,rfl⟩:=hvb.form';have HA:=Lib.hid hva;have HC:=Lib.hid hvb;have HX4:=Lib.hid (HX3.out.drew.below hb HX3.out.lt);have HB4:Hid (Below w.heap.size w w4):=HB3.out.drew.trans (hb.mono HB3.out.drew.size);have ka4:=HX4.out.cell 0 0 (b:=w.heap.size) rfl rfl rfl;have kb4:=HX4.out.cell 0 1 (b:=w.heap.size) rfl rfl rfl;have kc4:=HX4.out.cell 1 0 (b:=w.heap.size+1) rfl rfl rfl;have kd4:=HX4.out.cell 1 1 (b:=w.heap.size+1) rfl rfl rfl;clear hva hvb hb)
     | (go_at_call_of 67 (Value.agg #[.string u,.string v]);refine(Zau u v hu hv HG.out.2.2.1 HG.out.2.2.2 _).mono ?_;rintro e w5 ⟨vc,vd,rfl,hva,hvb,hb⟩;obtain⟨p5,m5,c5,rfl⟩:=hva.form';obtain⟨q5,n5,d5,rfl⟩:=hvb.form';have HE:=Lib.hid hva;have HF:=Lib.hid hvb;have HA5:=Lib.hid (HA.out.after hb (Nat.le_refl _));have HC5:=Lib.hid (HC.out.after hb (Nat.le_refl _));have HX5:=Lib.hid (HX4.out.below hb HX4.out.lt);have HB5:Hid (Below w.heap.size w w5):=HB4.out.trans (hb.mono HB4.out.size);have ka5:=HX5.out.cell 0 0 (b:=w.heap.size) rfl rfl rfl;have kb5:=HX5.out.cell 0 1 (b:=w.heap.size) rfl rfl rfl;have kc5:=HX5.out.cell 1 0 (b:=w.heap.size+1) rfl rfl rfl;have kd5:=HX5.out.cell 1 1 (b:=w.heap.size+1) rfl rfl rfl;clear hva hvb hb)
     | (go_at_call 154;refine(Zl0 HA5.out HC5.out HE.out HF.out l1 l2 l3 l4 HD.out.1 HD.out.2 (HT.out.below HB5.out (Nat.le_refl _))).mono ?_;rintro e w9 ⟨x,y,n,rfl,hR,hb9⟩;have HR:=Lib.hid hR;have HX9:=Lib.hid (HX5.out.below hb9 HX5.out.lt);have HB9:Hid (Below w.heap.size w w9):=HB5.out.trans (hb9.mono HB5.out.size);have ka9:=HX9.out.cell 0 0 (b:=w.heap.size) rfl rfl rfl;have kb9:=HX9.out.cell 0 1 (b:=w.heap.size) rfl rfl rfl;have kc9:=HX9.out.cell 1 0 (b:=w.heap.size+1) rfl rfl rfl;have kd9:=HX9.out.cell 1 1 (b:=w.heap.size+1) rfl rfl rfl;have r0:=HX9.out.cell 2 0 (b:=w.heap.size+1+1) rfl rfl rfl;have r1:=HX9.out.cell 2 1 (b:=w.heap.size+1+1) rfl rfl rfl;have f0:=HX9.out.free 2 0 (b:=w.heap.size+1+1) rfl rfl;have f1:=HX9.out.free 2 1 (b:=w.heap.size+1+1) rfl rfl;clear hR hb9)
    )
   all_goals
    have q:=Zf (HX9.out.block 2 (b:=w.heap.size+1+1) rfl rfl) (.string x) (.string y)
    have HBQ:=Lib.hid (Ze HB9.out (b:=w.heap.size+1+1) (by omega) (.string x) (.string y))
    obtain⟨wz,hwz⟩:∃ wz,(w9.setCell ⟨w.heap.size+1+1,0,none⟩ (.string x)).setCell ⟨w.heap.size+1+1,1,none⟩ (.string y)=wz:=⟨_,rfl⟩
    rw[hwz] at q HBQ
    obtain⟨q0,q1⟩:=q
    rw[hwz]
    clear r0 r1 f0 f1 hwz
    go_wp2
    refine bodyPost_ret (v:=.tuple #[.agg #[.string x,.string y],.int .i64 n]) (by simp[results,Tryz.f98,go_sem,q0,q1]) rfl ⟨_,_,_,rfl,.inr ⟨HQ.out,HR.out⟩,HBQ.out⟩
def DivR (n1 d1 n2 d2:Nat) (s t:ByteArray) (e:Int):Prop:=
 (n2=0∧s=str []∧t=str []∧e=10)∨(0<n2∧Ans (mkRat ((n1*d2:Nat):Int) (d1*n2)) s t e)
theorem ZlM {v1 v2 v3 v4:Value} {n1 d1 n2 d2:Nat} {w:World} (h1:Num w v1 n1) (h2:Num w v2 d1) (h3:Num w v3 n2) (h4:Num w v4 d2)
  (l1:(Zc 1000000000 n1).length≤1000) (l2:(Zc 1000000000 d1).length≤1000) (l3:(Zc 1000000000 n2).length≤1000) (l4:(Zc 1000000000 d2).length≤1000) (hd1:0<d1) (hd2:0<d2) (hT:Tabs w) :
  Calls Tryz.prog 205 #[.agg #[v1,v2],.agg #[v3,v4]] w (ZE (DivR n1 d1 n2 d2) w):=by
 rcases Nat.eq_zero_or_pos n2 with h0 | h0
 ·refine(Zk4 h1 h2 h3 h4 l1 l2 l3 l4 hd1 hd2 hT h0).mono ?_
  rintro e w' ⟨s,t,n,rfl,hr,hb⟩
  exact⟨s,t,n,rfl,.inl ⟨h0,hr⟩,hb⟩
 ·refine(Zl1 h1 h2 h3 h4 l1 l2 l3 l4 hd1 hd2 hT h0).mono ?_
  rintro e w' ⟨s,t,n,rfl,hr,hb⟩
  exact⟨s,t,n,rfl,.inr ⟨h0,hr⟩,hb⟩
theorem Zmo (s t u v:ByteArray) (w:World) (hs:s.size≤1000000) (ht:t.size≤1000000) (hu:u.size≤1000000) (hv:v.size≤1000000) (hT:Tabs w) :
  Calls Tryz.prog 98 #[.agg #[.string s,.string t],.agg #[.string u,.string v],.func (.func 205) #[] #[]] w (ZE (Bi s t u v (DivR (Zg s.data.toList) (Zg t.data.toList) (Zg u.data.toList) (Zg v.data.toList))) w):=by
 have HT:=Lib.hid hT
 clear hT
 cases h1:okP s t
 ·have H1:Hid (okE s t=2∧(okP s t && okP u v)=false):=⟨Zav h1,by rw[h1];rfl⟩
  clear h1
  go_enter Tryz.func98,Tryz.ntmps98
  go_wp2_with fail
  obtain⟨w1,hw1⟩:∃ w1,((w.alloc (.cells #[.string s,.string t] 41)).alloc (.cells #[.string u,.string v] 41)).alloc (.cells #[.string ⟨#[]⟩,.string ⟨#[]⟩] 41)=w1:=⟨_,rfl⟩
  rw[hw1]
  have HX1:Hid (Zh w.heap.size [.cells #[.string s,.string t] 41,.cells #[.string u,.string v] 41,.cells #[.string ⟨#[]⟩,.string ⟨#[]⟩] 41] w1):=by rw[← hw1];exact Zh.three w _ _ _
  have HB1:Hid (Below w.heap.size w w1):=by rw[← hw1];exact(((Below.refl _ w).alloc (Nat.le_refl _) _).alloc (by simp) _).alloc (by simp<;>omega) _
  clear hw1
  refine(Zw s t _ hs ht).mono ?_
  rintro e w2 ⟨rfl,hb2⟩
  have HX2:=Lib.hid (HX1.out.below hb2 HX1.out.lt)
  have HB2:=Lib.hid (HB1.out.trans (hb2.mono HB1.out.size))
  clear hb2
  rw[H1.out.1]
  have r0:=HX2.out.cell 2 0 (b:=w.heap.size+1+1) rfl rfl rfl
  have r1:=HX2.out.cell 2 1 (b:=w.heap.size+1+1) rfl rfl rfl
  have f0:=HX2.out.free 2 0 (b:=w.heap.size+1+1) rfl rfl
  have f1:=HX2.out.free 2 1 (b:=w.heap.size+1+1) rfl rfl
  go_wp2
  have q:=Zf (HX2.out.block 2 (b:=w.heap.size+1+1) rfl rfl) (.string ⟨#[]⟩) (.string ⟨#[]⟩)
  have HBQ:=Lib.hid (Ze HB2.out (b:=w.heap.size+1+1) (by omega) (.string ⟨#[]⟩) (.string ⟨#[]⟩))
  obtain⟨w9,hw9⟩:∃ w9,(w2.setCell ⟨w.heap.size+1+1,0,none⟩ (.string ⟨#[]⟩)).setCell ⟨w.heap.size+1+1,1,none⟩ (.string ⟨#[]⟩)=w9:=⟨_,rfl⟩
  rw[hw9] at q HBQ
  obtain⟨q0,q1⟩:=q
  rw[hw9]
  clear r0 r1 f0 f1 hw9
  go_wp2
  refine bodyPost_ret (v:=.tuple #[.agg #[.string ⟨#[]⟩,.string ⟨#[]⟩],.int .i64 2]) (by simp[results,Tryz.f98,go_sem,q0,q1]) rfl ⟨_,_,_,rfl,?_,HBQ.out⟩
  exact .inl ⟨H1.out.2,rfl,rfl,rfl⟩
 ·cases h2:okP u v
  ·have H1:=Lib.hid (Z9 h1)
   have H2:Hid (okE u v=2∧(okP s t && okP u v)=false):=⟨Zav h2,by rw[h2,Bool.and_false]⟩
   clear h1 h2
   go_enter Tryz.func98,Tryz.ntmps98
   go_wp2_with fail
   obtain⟨w1,hw1⟩:∃ w1,((w.alloc (.cells #[.string s,.string t] 41)).alloc (.cells #[.string u,.string v] 41)).alloc (.cells #[.string ⟨#[]⟩,.string ⟨#[]⟩] 41)=w1:=⟨_,rfl⟩
   rw[hw1]
   have HX1:Hid (Zh w.heap.size [.cells #[.string s,.string t] 41,.cells #[.string u,.string v] 41,.cells #[.string ⟨#[]⟩,.string ⟨#[]⟩] 41] w1):=by rw[← hw1];exact Zh.three w _ _ _
   have HB1:Hid (Below w.heap.size w w1):=by rw[← hw1];exact(((Below.refl _ w).alloc (Nat.le_refl _) _).alloc (by simp) _).alloc (by simp<;>omega) _
   clear hw1
   refine(Zw s t _ hs ht).mono ?_
   rintro e w2 ⟨rfl,hb2⟩
   have HX2:=Lib.hid (HX1.out.below hb2 HX1.out.lt)
   have HB2:=Lib.hid (HB1.out.trans (hb2.mono HB1.out.size))
   clear hb2
   rw[H1.out]
   have kc2:=HX2.out.cell 1 0 (b:=w.heap.size+1) rfl rfl rfl
   have kd2:=HX2.out.cell 1 1 (b:=w.heap.size+1) rfl rfl rfl
   go_wp2_with fail
   refine(Zw u v _ hu hv).mono ?_
   rintro e w3 ⟨rfl,hb3⟩
   rw[H2.out.1]
   have HX3:=Lib.hid (HX2.out.below hb3 HX2.out.lt)
   have HB3:=Lib.hid (HB2.out.trans (hb3.mono HB2.out.size))
   clear hb3 kc2 kd2
   have r0:=HX3.out.cell 2 0 (b:=w.heap.size+1+1) rfl rfl rfl
   have r1:=HX3.out.cell 2 1 (b:=w.heap.size+1+1) rfl rfl rfl
   have f0:=HX3.out.free 2 0 (b:=w.heap.size+1+1) rfl rfl
   have f1:=HX3.out.free 2 1 (b:=w.heap.size+1+1) rfl rfl
   go_wp2
   have q:=Zf (HX3.out.block 2 (b:=w.heap.size+1+1) rfl rfl) (.string ⟨#[]⟩) (.string ⟨#[]⟩)
   have HBQ:=Lib.hid (Ze HB3.out (b:=w.heap.size+1+1) (by omega) (.string ⟨#[]⟩) (.string ⟨#[]⟩))
   obtain⟨w9,hw9⟩:∃ w9,(w3.setCell ⟨w.heap.size+1+1,0,none⟩ (.string ⟨#[]⟩)).setCell ⟨w.heap.size+1+1,1,none⟩ (.string ⟨#[]⟩)=w9:=⟨_,rfl⟩
   rw[hw9] at q HBQ
   obtain⟨q0,q1⟩:=q
   rw[hw9]
   clear r0 r1 f0 f1 hw9
   go_wp2
   refine bodyPost_ret (v:=.tuple #[.agg #[.string ⟨#[]⟩,.string ⟨#[]⟩],.int .i64 2]) (by simp[results,Tryz.f98,go_sem,q0,q1]) rfl ⟨_,_,_,rfl,?_,HBQ.out⟩
   exact .inl ⟨H2.out.2,rfl,rfl,rfl⟩
  ·obtain⟨g1,g2,_,_,l1,l2,d1⟩:=ZaW h1
   obtain⟨g3,g4,_,_,l3,l4,d2⟩:=ZaW h2
   have HG:=Lib.hid (And.intro g1 (And.intro g2 (And.intro g3 g4)))
   have HD:=Lib.hid (And.intro d1 d2)
   have H1:=Lib.hid (Z9 h1)
   have H2:=Lib.hid (Z9 h2)
   have HQ:Hid ((okP s t && okP u v)=true):=by show _=_;rw[h1,h2];rfl
   clear h1 h2 g1 g2 g3 g4 d1 d2
   go_enter Tryz.func98,Tryz.ntmps98
   go_wp2_with fail
   obtain⟨w1,hw1⟩:∃ w1,((w.alloc (.cells #[.string s,.string t] 41)).alloc (.cells #[.string u,.string v] 41)).alloc (.cells #[.string ⟨#[]⟩,.string ⟨#[]⟩] 41)=w1:=⟨_,rfl⟩
   rw[hw1]
   have HX1:Hid (Zh w.heap.size [.cells #[.string s,.string t] 41,.cells #[.string u,.string v] 41,.cells #[.string ⟨#[]⟩,.string ⟨#[]⟩] 41] w1):=by rw[← hw1];exact Zh.three w _ _ _
   have HB1:Hid (Below w.heap.size w w1):=by rw[← hw1];exact(((Below.refl _ w).alloc (Nat.le_refl _) _).alloc (by simp) _).alloc (by simp<;>omega) _
   clear hw1
   refine(Zw s t _ hs ht).mono ?_
   rintro e w2 ⟨rfl,hb2⟩
   have HX2:=Lib.hid (HX1.out.below hb2 HX1.out.lt)
   have HB2:=Lib.hid (HB1.out.trans (hb2.mono HB1.out.size))
   clear hb2
   rw[H1.out]
   have kc2:=HX2.out.cell 1 0 (b:=w.heap.size+1) rfl rfl rfl
   have kd2:=HX2.out.cell 1 1 (b:=w.heap.size+1) rfl rfl rfl
   go_wp2_with fail
   refine(Zw u v _ hu hv).mono ?_
   rintro e w3 ⟨rfl,hb3⟩
   rw[H2.out]
   have HX3:=Lib.hid (HX2.out.below hb3 HX2.out.lt)
   have HB3:=Lib.hid (HB2.out.trans (hb3.mono HB2.out.size))
   clear hb3 kc2 kd2
   have ka3:=HX3.out.cell 0 0 (b:=w.heap.size) rfl rfl rfl
   have kb3:=HX3.out.cell 0 1 (b:=w.heap.size) rfl rfl rfl
   have kc3:=HX3.out.cell 1 0 (b:=w.heap.size+1) rfl rfl rfl
   have kd3:=HX3.out.cell 1 1 (b:=w.heap.size+1) rfl rfl rfl
   go_wp2_with fail
   go_region_held3
    (fun w'=>w'.cell? ⟨w.heap.size,0,none⟩=some (.string s)∧w'.cell? ⟨w.heap.size,1,none⟩=some (.string t)∧w'.cell? ⟨w.heap.size+1,0,none⟩=some (.string u)∧w'.cell? ⟨w.heap.size+1,1,none⟩=some (.string v))
    (first | exact⟨ka3,kb3,kc3,kd3⟩ | exact⟨ka4,kb4,kc4,kd4⟩ | exact⟨ka5,kb5,kc5,kd5⟩ | exact⟨(Zn _ _ _ (by omega) _).trans ka9,(Zn _ _ _ (by omega) _).trans kb9,(Zn _ _ _ (by omega) _).trans kc9,(Zn _ _ _ (by omega) _).trans kd9⟩ | exact⟨ka9,kb9,kc9,kd9⟩)
    (first
     | (go_at_call_of 67 (Value.agg #[.string s,.string t]);refine(Zau s t hs ht HG.out.1 HG.out.2.1 _).mono ?_;rintro e w4 ⟨va,vb,rfl,hva,hvb,hb⟩;obtain⟨p4,m4,c4,rfl⟩:=hva.form';obtain⟨q4,n4,d4,rfl⟩:=hvb.form';have HA:=Lib.hid hva;have HC:=Lib.hid hvb;have HX4:=Lib.hid (HX3.out.drew.below hb HX3.out.lt);have HB4:Hid (Below w.heap.size w w4):=HB3.out.drew.trans (hb.mono HB3.out.drew.size);have ka4:=HX4.out.cell 0 0 (b:=w.heap.size) rfl rfl rfl;have kb4:=HX4.out.cell 0 1 (b:=w.heap.size) rfl rfl rfl;have kc4:=HX4.out.cell 1 0 (b:=w.heap.size+1) rfl rfl rfl;have kd4:=HX4.out.cell 1 1 (b:=w.heap.size+1) rfl rfl rfl;clear hva hvb hb)
     | (go_at_call_of 67 (Value.agg #[.string u,.string v]);refine(Zau u v hu hv HG.out.2.2.1 HG.out.2.2.2 _).mono ?_;rintro e w5 ⟨vc,vd,rfl,hva,hvb,hb⟩;obtain⟨p5,m5,c5,rfl⟩:=hva.form';obtain⟨q5,n5,d5,rfl⟩:=hvb.form';have HE:=Lib.hid hva;have HF:=Lib.hid hvb;have HA5:=Lib.hid (HA.out.after hb (Nat.le_refl _));have HC5:=Lib.hid (HC.out.after hb (Nat.le_refl _));have HX5:=Lib.hid (HX4.out.below hb HX4.out.lt);have HB5:Hid (Below w.heap.size w w5):=HB4.out.trans (hb.mono HB4.out.size);have ka5:=HX5.out.cell 0 0 (b:=w.heap.size) rfl rfl rfl;have kb5:=HX5.out.cell 0 1 (b:=w.heap.size) rfl rfl rfl;have kc5:=HX5.out.cell 1 0 (b:=w.heap.size+1) rfl rfl rfl;have kd5:=HX5.out.cell 1 1 (b:=w.heap.size+1) rfl rfl rfl;clear hva hvb hb)
     | (go_at_call 205;refine(ZlM HA5.out HC5.out HE.out HF.out l1 l2 l3 l4 HD.out.1 HD.out.2 (HT.out.below HB5.out (Nat.le_refl _))).mono ?_;rintro e w9 ⟨x,y,n,rfl,hR,hb9⟩;have HR:=Lib.hid hR;have HX9:=Lib.hid (HX5.out.below hb9 HX5.out.lt);have HB9:Hid (Below w.heap.size w w9):=HB5.out.trans (hb9.mono HB5.out.size);have ka9:=HX9.out.cell 0 0 (b:=w.heap.size) rfl rfl rfl;have kb9:=HX9.out.cell 0 1 (b:=w.heap.size) rfl rfl rfl;have kc9:=HX9.out.cell 1 0 (b:=w.heap.size+1) rfl rfl rfl;have kd9:=HX9.out.cell 1 1 (b:=w.heap.size+1) rfl rfl rfl;have r0:=HX9.out.cell 2 0 (b:=w.heap.size+1+1) rfl rfl rfl;have r1:=HX9.out.cell 2 1 (b:=w.heap.size+1+1) rfl rfl rfl;have f0:=HX9.out.free 2 0 (b:=w.heap.size+1+1) rfl rfl;have f1:=HX9.out.free 2 1 (b:=w.heap.size+1+1) rfl rfl;clear hR hb9)
    )
   all_goals
    have q:=Zf (HX9.out.block 2 (b:=w.heap.size+1+1) rfl rfl) (.string x) (.string y)
    have HBQ:=Lib.hid (Ze HB9.out (b:=w.heap.size+1+1) (by omega) (.string x) (.string y))
    obtain⟨wz,hwz⟩:∃ wz,(w9.setCell ⟨w.heap.size+1+1,0,none⟩ (.string x)).setCell ⟨w.heap.size+1+1,1,none⟩ (.string y)=wz:=⟨_,rfl⟩
    rw[hwz] at q HBQ
    obtain⟨q0,q1⟩:=q
    rw[hwz]
    clear r0 r1 f0 f1 hwz
    go_wp2
    refine bodyPost_ret (v:=.tuple #[.agg #[.string x,.string y],.int .i64 n]) (by simp[results,Tryz.f98,go_sem,q0,q1]) rfl ⟨_,_,_,rfl,.inr ⟨HQ.out,HR.out⟩,HBQ.out⟩
def SubA (a b:Rat) (x y:ByteArray) (e:Int):Prop:=(a<b∧x=str []∧y=str []∧e=11)∨(b≤a∧Ans (a-b) x y e)
def DivA (a b:Rat) (x y:ByteArray) (e:Int):Prop:=(b=0∧x=str []∧y=str []∧e=10)∨(0<b∧Ans (a/b) x y e)
theorem Zbl {s t:ByteArray} (h:okP s t=true):0≤ratP s t∧Zg s.data.toList=(ratP s t).num.toNat∧Zg t.data.toList=(ratP s t).den:=
 ⟨(Zax h).nn,(Zax h).vals.1,(Zax h).vals.2⟩
theorem Bi.mono {s t u v x y:ByteArray} {e:Int} {R R':ByteArray→ByteArray→Int→Prop} (h:Bi s t u v R x y e) (f:okP s t=true→okP u v=true→R x y e→R' x y e):Bi s t u v R' x y e:=by
 rcases h with h | ⟨h1,h2⟩
 ·exact .inl h
 ·rw[Bool.and_eq_true] at h1
  exact .inr ⟨by rw[Bool.and_eq_true];exact h1,f h1.1 h1.2 h2⟩
theorem ZmR {s t u v x y:ByteArray} {e:Int} (h:Bi s t u v (Ans (mkRat ((Zg s.data.toList*Zg u.data.toList:Nat):Int) (Zg t.data.toList*Zg v.data.toList))) x y e):Bi s t u v (Ans (ratP s t*ratP u v)) x y e:=
 h.mono fun h1 h2 h3=>by
  obtain⟨a1,a2,a3⟩:=Zbl h1
  obtain⟨b1,b2,b3⟩:=Zbl h2
  rw[Zlf a1 b1,← a2,← a3,← b2,← b3];exact h3
theorem ZmO {s t u v x y:ByteArray} {e:Int} (h:Bi s t u v (Ans (mkRat ((Zg s.data.toList*Zg v.data.toList+Zg u.data.toList*Zg t.data.toList:Nat):Int) (Zg t.data.toList*Zg v.data.toList))) x y e):Bi s t u v (Ans (ratP s t+ratP u v)) x y e:=
 h.mono fun h1 h2 h3=>by
  obtain⟨a1,a2,a3⟩:=Zbl h1
  obtain⟨b1,b2,b3⟩:=Zbl h2
  rw[Zlh a1 b1,← a2,← a3,← b2,← b3];exact h3
theorem ZmT {s t u v x y:ByteArray} {e:Int} (h:Bi s t u v (SubR (Zg s.data.toList) (Zg t.data.toList) (Zg u.data.toList) (Zg v.data.toList)) x y e):Bi s t u v (SubA (ratP s t) (ratP u v)) x y e:=
 h.mono fun h1 h2 h3=>by
  obtain⟨a1,a2,a3⟩:=Zbl h1
  obtain⟨b1,b2,b3⟩:=Zbl h2
  unfold SubR at h3
  rw[a2,a3,b2,b3] at h3
  rcases h3 with ⟨k,h3⟩ | ⟨k,h3⟩
  ·exact .inl ⟨(Zij a1 b1).2 k,h3⟩
  ·have hk:=(Zen b1 a1).2 k
   exact .inr ⟨hk,by rw[Zla a1 b1 hk];exact h3⟩
theorem ZmS {s t u v x y:ByteArray} {e:Int} (h:Bi s t u v (DivR (Zg s.data.toList) (Zg t.data.toList) (Zg u.data.toList) (Zg v.data.toList)) x y e):Bi s t u v (DivA (ratP s t) (ratP u v)) x y e:=
 h.mono fun h1 h2 h3=>by
  obtain⟨a1,a2,a3⟩:=Zbl h1
  obtain⟨b1,b2,b3⟩:=Zbl h2
  unfold DivR at h3
  rw[a2,a3,b2,b3] at h3
  rcases h3 with ⟨k,h3⟩ | ⟨k,h3⟩
  ·refine .inl ⟨?_,h3⟩
   have h4:=ZM b1
   rw[k] at h4
   exact Rat.num_eq_zero.1 h4.symm
  ·have hk:0<ratP u v:=by
    refine Rat.lt_of_le_of_ne b1 fun h0=>?_
    rw[← h0] at k
    exact absurd k (by decide)
   exact .inr ⟨hk,by rw[Zld a1 hk];exact h3⟩
theorem Zmk (s t u v:ByteArray) (w:World) (hs:s.size≤1000000) (ht:t.size≤1000000) (hu:u.size≤1000000) (hv:v.size≤1000000) (hT:Tabs w) :
  Calls Tryz.prog 119 #[.agg #[.string s,.string t],.agg #[.string u,.string v]] w (ZE (Bi s t u v (Ans (ratP s t*ratP u v))) w):=by
 have HT:=Lib.hid hT
 clear hT
 go_enter Tryz.func119,Tryz.ntmps119
 go_wp2_with fail
 obtain⟨w1,hw1⟩:∃ w1,((w.alloc (.cells #[.string s,.string t] 41)).alloc (.cells #[.string u,.string v] 41)).alloc (.cells #[.string ⟨#[]⟩,.string ⟨#[]⟩] 41)=w1:=⟨_,rfl⟩
 rw[hw1]
 have HX1:Hid (Zh w.heap.size [.cells #[.string s,.string t] 41,.cells #[.string u,.string v] 41,.cells #[.string ⟨#[]⟩,.string ⟨#[]⟩] 41] w1):=by rw[← hw1];exact Zh.three w _ _ _
 have HB1:Hid (Below w.heap.size w w1):=by rw[← hw1];exact(((Below.refl _ w).alloc (Nat.le_refl _) _).alloc (by simp) _).alloc (by simp<;>omega) _
 clear hw1
 refine(ZmH s t u v _ hs ht hu hv (HT.out.below HB1.out (Nat.le_refl _))).mono ?_
 rintro e w2 ⟨x,y,n,rfl,hR,hb2⟩
 have HR:=Lib.hid (ZmR hR)
 have HX2:=Lib.hid (HX1.out.below hb2 HX1.out.lt)
 have HB2:=Lib.hid (HB1.out.trans (hb2.mono HB1.out.size))
 clear hR hb2
 have r0:=HX2.out.cell 2 0 (b:=w.heap.size+1+1) rfl rfl rfl
 have r1:=HX2.out.cell 2 1 (b:=w.heap.size+1+1) rfl rfl rfl
 have f0:=HX2.out.free 2 0 (b:=w.heap.size+1+1) rfl rfl
 have f1:=HX2.out.free 2 1 (b:=w.heap.size+1+1) rfl rfl
 go_wp2
 have q:=Zf (HX2.out.block 2 (b:=w.heap.size+1+1) rfl rfl) (.string x) (.string y)
 have HBQ:=Lib.hid (Ze HB2.out (b:=w.heap.size+1+1) (by omega) (.string x) (.string y))
 obtain⟨w9,hw9⟩:∃ w9,(w2.setCell ⟨w.heap.size+1+1,0,none⟩ (.string x)).setCell ⟨w.heap.size+1+1,1,none⟩ (.string y)=w9:=⟨_,rfl⟩
 rw[hw9] at q HBQ
 obtain⟨q0,q1⟩:=q
 rw[hw9]
 clear r0 r1 f0 f1 hw9
 go_wp2
 refine bodyPost_ret (v:=.tuple #[.agg #[.string x,.string y],.int .i64 n]) (by simp[results,Tryz.f119,go_sem,q0,q1]) rfl ⟨_,_,_,rfl,?_,HBQ.out⟩
 exact HR.out
theorem Zjt (s t u v:ByteArray) (w:World) (hs:s.size≤1000000) (ht:t.size≤1000000) (hu:u.size≤1000000) (hv:v.size≤1000000) (hT:Tabs w) :
  Calls Tryz.prog 42 #[.agg #[.string s,.string t],.agg #[.string u,.string v]] w (ZE (Bi s t u v (Ans (ratP s t+ratP u v))) w):=by
 have HT:=Lib.hid hT
 clear hT
 go_enter Tryz.func42,Tryz.ntmps42
 go_wp2_with fail
 obtain⟨w1,hw1⟩:∃ w1,((w.alloc (.cells #[.string s,.string t] 41)).alloc (.cells #[.string u,.string v] 41)).alloc (.cells #[.string ⟨#[]⟩,.string ⟨#[]⟩] 41)=w1:=⟨_,rfl⟩
 rw[hw1]
 have HX1:Hid (Zh w.heap.size [.cells #[.string s,.string t] 41,.cells #[.string u,.string v] 41,.cells #[.string ⟨#[]⟩,.string ⟨#[]⟩] 41] w1):=by rw[← hw1];exact Zh.three w _ _ _
 have HB1:Hid (Below w.heap.size w w1):=by rw[← hw1];exact(((Below.refl _ w).alloc (Nat.le_refl _) _).alloc (by simp) _).alloc (by simp<;>omega) _
 clear hw1
 refine(Zmq s t u v _ hs ht hu hv (HT.out.below HB1.out (Nat.le_refl _))).mono ?_
 rintro e w2 ⟨x,y,n,rfl,hR,hb2⟩
 have HR:=Lib.hid (ZmO hR)
 have HX2:=Lib.hid (HX1.out.below hb2 HX1.out.lt)
 have HB2:=Lib.hid (HB1.out.trans (hb2.mono HB1.out.size))
 clear hR hb2
 have r0:=HX2.out.cell 2 0 (b:=w.heap.size+1+1) rfl rfl rfl
 have r1:=HX2.out.cell 2 1 (b:=w.heap.size+1+1) rfl rfl rfl
 have f0:=HX2.out.free 2 0 (b:=w.heap.size+1+1) rfl rfl
 have f1:=HX2.out.free 2 1 (b:=w.heap.size+1+1) rfl rfl
 go_wp2
 have q:=Zf (HX2.out.block 2 (b:=w.heap.size+1+1) rfl rfl) (.string x) (.string y)
 have HBQ:=Lib.hid (Ze HB2.out (b:=w.heap.size+1+1) (by omega) (.string x) (.string y))
 obtain⟨w9,hw9⟩:∃ w9,(w2.setCell ⟨w.heap.size+1+1,0,none⟩ (.string x)).setCell ⟨w.heap.size+1+1,1,none⟩ (.string y)=w9:=⟨_,rfl⟩
 rw[hw9] at q HBQ
 obtain⟨q0,q1⟩:=q
 rw[hw9]
 clear r0 r1 f0 f1 hw9
 go_wp2
 refine bodyPost_ret (v:=.tuple #[.agg #[.string x,.string y],.int .i64 n]) (by simp[results,Tryz.f42,go_sem,q0,q1]) rfl ⟨_,_,_,rfl,?_,HBQ.out⟩
 exact HR.out
theorem Zjn (s t u v:ByteArray) (w:World) (hs:s.size≤1000000) (ht:t.size≤1000000) (hu:u.size≤1000000) (hv:v.size≤1000000) (hT:Tabs w) :
  Calls Tryz.prog 104 #[.agg #[.string s,.string t],.agg #[.string u,.string v]] w (ZE (Bi s t u v (SubA (ratP s t) (ratP u v))) w):=by
 have HT:=Lib.hid hT
 clear hT
 go_enter Tryz.func104,Tryz.ntmps104
 go_wp2_with fail
 obtain⟨w1,hw1⟩:∃ w1,((w.alloc (.cells #[.string s,.string t] 41)).alloc (.cells #[.string u,.string v] 41)).alloc (.cells #[.string ⟨#[]⟩,.string ⟨#[]⟩] 41)=w1:=⟨_,rfl⟩
 rw[hw1]
 have HX1:Hid (Zh w.heap.size [.cells #[.string s,.string t] 41,.cells #[.string u,.string v] 41,.cells #[.string ⟨#[]⟩,.string ⟨#[]⟩] 41] w1):=by rw[← hw1];exact Zh.three w _ _ _
 have HB1:Hid (Below w.heap.size w w1):=by rw[← hw1];exact(((Below.refl _ w).alloc (Nat.le_refl _) _).alloc (by simp) _).alloc (by simp<;>omega) _
 clear hw1
 refine(ZmF s t u v _ hs ht hu hv (HT.out.below HB1.out (Nat.le_refl _))).mono ?_
 rintro e w2 ⟨x,y,n,rfl,hR,hb2⟩
 have HR:=Lib.hid (ZmT hR)
 have HX2:=Lib.hid (HX1.out.below hb2 HX1.out.lt)
 have HB2:=Lib.hid (HB1.out.trans (hb2.mono HB1.out.size))
 clear hR hb2
 have r0:=HX2.out.cell 2 0 (b:=w.heap.size+1+1) rfl rfl rfl
 have r1:=HX2.out.cell 2 1 (b:=w.heap.size+1+1) rfl rfl rfl
 have f0:=HX2.out.free 2 0 (b:=w.heap.size+1+1) rfl rfl
 have f1:=HX2.out.free 2 1 (b:=w.heap.size+1+1) rfl rfl
 go_wp2
 have q:=Zf (HX2.out.block 2 (b:=w.heap.size+1+1) rfl rfl) (.string x) (.string y)
 have HBQ:=Lib.hid (Ze HB2.out (b:=w.heap.size+1+1) (by omega) (.string x) (.string y))
 obtain⟨w9,hw9⟩:∃ w9,(w2.setCell ⟨w.heap.size+1+1,0,none⟩ (.string x)).setCell ⟨w.heap.size+1+1,1,none⟩ (.string y)=w9:=⟨_,rfl⟩
 rw[hw9] at q HBQ
 obtain⟨q0,q1⟩:=q
 rw[hw9]
 clear r0 r1 f0 f1 hw9
 go_wp2
 refine bodyPost_ret (v:=.tuple #[.agg #[.string x,.string y],.int .i64 n]) (by simp[results,Tryz.f104,go_sem,q0,q1]) rfl ⟨_,_,_,rfl,?_,HBQ.out⟩
 exact HR.out
theorem Zmj (s t u v:ByteArray) (w:World) (hs:s.size≤1000000) (ht:t.size≤1000000) (hu:u.size≤1000000) (hv:v.size≤1000000) (hT:Tabs w) :
  Calls Tryz.prog 169 #[.agg #[.string s,.string t],.agg #[.string u,.string v]] w (ZE (Bi s t u v (DivA (ratP s t) (ratP u v))) w):=by
 have HT:=Lib.hid hT
 clear hT
 go_enter Tryz.func169,Tryz.ntmps169
 go_wp2_with fail
 obtain⟨w1,hw1⟩:∃ w1,((w.alloc (.cells #[.string s,.string t] 41)).alloc (.cells #[.string u,.string v] 41)).alloc (.cells #[.string ⟨#[]⟩,.string ⟨#[]⟩] 41)=w1:=⟨_,rfl⟩
 rw[hw1]
 have HX1:Hid (Zh w.heap.size [.cells #[.string s,.string t] 41,.cells #[.string u,.string v] 41,.cells #[.string ⟨#[]⟩,.string ⟨#[]⟩] 41] w1):=by rw[← hw1];exact Zh.three w _ _ _
 have HB1:Hid (Below w.heap.size w w1):=by rw[← hw1];exact(((Below.refl _ w).alloc (Nat.le_refl _) _).alloc (by simp) _).alloc (by simp<;>omega) _
 clear hw1
 refine(Zmo s t u v _ hs ht hu hv (HT.out.below HB1.out (Nat.le_refl _))).mono ?_
 rintro e w2 ⟨x,y,n,rfl,hR,hb2⟩
 have HR:=Lib.hid (ZmS hR)
 have HX2:=Lib.hid (HX1.out.below hb2 HX1.out.lt)
 have HB2:=Lib.hid (HB1.out.trans (hb2.mono HB1.out.size))
 clear hR hb2
 have r0:=HX2.out.cell 2 0 (b:=w.heap.size+1+1) rfl rfl rfl
 have r1:=HX2.out.cell 2 1 (b:=w.heap.size+1+1) rfl rfl rfl
 have f0:=HX2.out.free 2 0 (b:=w.heap.size+1+1) rfl rfl
 have f1:=HX2.out.free 2 1 (b:=w.heap.size+1+1) rfl rfl
 go_wp2
 have q:=Zf (HX2.out.block 2 (b:=w.heap.size+1+1) rfl rfl) (.string x) (.string y)
 have HBQ:=Lib.hid (Ze HB2.out (b:=w.heap.size+1+1) (by omega) (.string x) (.string y))
 obtain⟨w9,hw9⟩:∃ w9,(w2.setCell ⟨w.heap.size+1+1,0,none⟩ (.string x)).setCell ⟨w.heap.size+1+1,1,none⟩ (.string y)=w9:=⟨_,rfl⟩
 rw[hw9] at q HBQ
 obtain⟨q0,q1⟩:=q
 rw[hw9]
 clear r0 r1 f0 f1 hw9
 go_wp2
 refine bodyPost_ret (v:=.tuple #[.agg #[.string x,.string y],.int .i64 n]) (by simp[results,Tryz.f169,go_sem,q0,q1]) rfl ⟨_,_,_,rfl,?_,HBQ.out⟩
 exact HR.out
end Go.Proofs.YtmpaflidennnoaaGreatDoor
