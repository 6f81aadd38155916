/- The parts EffG, Made, Ratio, Vals, LawOps, DetVals, Contains, DShort, Steps of a proof, put together by program (merge7.py). -/
import Derived.Test.YtmpaflidennnoaaGreatDoorH10
set_option maxRecDepth 100000
set_option maxHeartbeats 4000000
set_option linter.unusedVariables false
set_option linter.unusedSimpArgs false
namespace Go.Proofs.YtmpaflidennnoaaGreatDoor
open Go.RowKit Go.Shelf
attribute [local go_sem ↓] Go.wp_at_zero Go.wp_at_succ
def marg (f:Nat→Nat→Rat) (i k:Nat):Rat:=f i (k+1)-f i k
def GInv (f:Nat→Nat→Rat) (n:Nat) (g:Nat→Nat):Prop:=∀ i j k,i<n→j<n→k<g i→marg f j (g j)≤marg f i k
theorem GInv.zero (f:Nat→Nat→Rat) (n:Nat):GInv f n (fun _=>0):=fun i j k _ _ h=>absurd h (Nat.not_lt_zero _)
theorem GInv.step {f:Nat→Nat→Rat} {n:Nat} {g:Nat→Nat} (hc:∀ i k,i<n→marg f i (k+1)≤marg f i k) (h:GInv f n g) {a:Nat} (ha:a<n) (hmax:∀ j,j<n→marg f j (g j)≤marg f a (g a)) :
  GInv f n (fun i=>if i=a then g i+1 else g i):=fun i j k hi hj hk=>by
 have h1:marg f j (if j=a then g j+1 else g j)≤marg f j (g j):=by
  split
  ·exact hc j _ hj
  ·exact Rat.le_refl
 refine Rat.le_trans h1 ?_
 by_cases e:i=a
 ·subst e
  simp only[if_true] at hk
  rcases Nat.lt_or_ge k (g i) with hlt | hge
  ·exact h i j k hi hj hlt
  ·obtain rfl:k=g i:=by omega
   exact hmax j hj
 ·simp only[if_neg e] at hk
  exact h i j k hi hj hk
def Made (s t x y:ByteArray) (e:Int):Prop:=
 ((ZI s.data.toList && ZI t.data.toList)=false∧x=str []∧y=str []∧e=2)∨
 ((ZI s.data.toList && ZI t.data.toList)=true∧Zd t.data.toList=0∧x=str []∧y=str []∧e=10)∨
 ((ZI s.data.toList && ZI t.data.toList)=true∧0<Zd t.data.toList∧Ans (ratP s t) x y e)
theorem Zmm (s t:ByteArray) (w:World) (hs:s.size≤1000000) (ht:t.size≤1000000) (hT:Tabs w) :
  Calls Tryz.prog 159 #[.string s,.string t] w (Zx (Made s t) w):=by
 have HT:=ZnV hT
 clear hT
 cases h1:ZI s.data.toList
 ·have H1:=ZnV h1
  clear h1
  go_enter Tryz.func159,Tryz.ntmps159
  go_wp2_with fail
  obtain⟨w1,hw1⟩:=ZnX (w.alloc (.cells #[.string ⟨#[]⟩,.string ⟨#[]⟩] 41))
  rw[hw1]
  have HX1:Hid (Zj w.heap.size [.cells #[.string ⟨#[]⟩,.string ⟨#[]⟩] 41] w1):=by rw[← hw1];exact Zj.one w _
  have HB1:Hid (Below w.heap.size w w1):=by rw[← hw1];exact(Below.refl _ w).alloc ZnW _
  clear hw1
  refine(Zaz s _ hs).mono ?_
  rintro e w2 ⟨rfl,hb2⟩
  rw[H1.out]
  have HX2:=ZnV (HX1.out.below hb2 HX1.out.lt)
  have HB2:=ZnV (HB1.out.trans (hb2.mono HB1.out.size))
  clear hb2
  have r0:=HX2.out.cell 0 0 (b:=w.heap.size) rfl rfl rfl
  have r1:=HX2.out.cell 0 1 (b:=w.heap.size) rfl rfl rfl
  have f0:=HX2.out.free 0 0 (b:=w.heap.size) rfl rfl
  have f1:=HX2.out.free 0 1 (b:=w.heap.size) rfl rfl
  go_wp2
  have q:=Zi (HX2.out.block 0 (b:=w.heap.size) rfl rfl) (.string ⟨#[]⟩) (.string ⟨#[]⟩)
  have HBQ:=ZnV (Zf HB2.out (b:=w.heap.size) (by omega) (.string ⟨#[]⟩) (.string ⟨#[]⟩))
  obtain⟨w9,hw9⟩:=ZnX ((w2.setCell ⟨w.heap.size,0,none⟩ (.string ⟨#[]⟩)).setCell ⟨w.heap.size,1,none⟩ (.string ⟨#[]⟩))
  rw[hw9] at q HBQ
  obtain⟨q0,q1⟩:=q
  rw[hw9]
  clear r0 r1 f0 f1 hw9
  go_wp2
  refine bodyPost_ret (v:=.tuple #[.agg #[.string ⟨#[]⟩,.string ⟨#[]⟩],.int .i64 2]) (by simp[results,Tryz.f159,go_sem,q0,q1]) rfl ⟨_,_,_,rfl,?_,HBQ.out⟩
  exact .inl ⟨by rw[H1.out];rfl,rfl,rfl,rfl⟩
 ·have H1:=ZnV h1
  clear h1
  cases h2:ZI t.data.toList
  ·have H2:=ZnV h2
   clear h2
   go_enter Tryz.func159,Tryz.ntmps159
   go_wp2_with fail
   obtain⟨w1,hw1⟩:=ZnX (w.alloc (.cells #[.string ⟨#[]⟩,.string ⟨#[]⟩] 41))
   rw[hw1]
   have HX1:Hid (Zj w.heap.size [.cells #[.string ⟨#[]⟩,.string ⟨#[]⟩] 41] w1):=by rw[← hw1];exact Zj.one w _
   have HB1:Hid (Below w.heap.size w w1):=by rw[← hw1];exact(Below.refl _ w).alloc ZnW _
   clear hw1
   refine(Zaz s _ hs).mono ?_
   rintro e w2 ⟨rfl,hb2⟩
   rw[H1.out]
   have HX2:=ZnV (HX1.out.below hb2 HX1.out.lt)
   have HB2:=ZnV (HB1.out.trans (hb2.mono HB1.out.size))
   clear hb2
   go_wp2_with fail
   refine(Zaz t _ ht).mono ?_
   rintro e w3 ⟨rfl,hb3⟩
   rw[H2.out]
   have HX3:=ZnV (HX2.out.below hb3 HX2.out.lt)
   have HB3:=ZnV (HB2.out.trans (hb3.mono HB2.out.size))
   clear hb3
   have r0:=HX3.out.cell 0 0 (b:=w.heap.size) rfl rfl rfl
   have r1:=HX3.out.cell 0 1 (b:=w.heap.size) rfl rfl rfl
   have f0:=HX3.out.free 0 0 (b:=w.heap.size) rfl rfl
   have f1:=HX3.out.free 0 1 (b:=w.heap.size) rfl rfl
   go_wp2
   have q:=Zi (HX3.out.block 0 (b:=w.heap.size) rfl rfl) (.string ⟨#[]⟩) (.string ⟨#[]⟩)
   have HBQ:=ZnV (Zf HB3.out (b:=w.heap.size) (by omega) (.string ⟨#[]⟩) (.string ⟨#[]⟩))
   obtain⟨w9,hw9⟩:=ZnX ((w3.setCell ⟨w.heap.size,0,none⟩ (.string ⟨#[]⟩)).setCell ⟨w.heap.size,1,none⟩ (.string ⟨#[]⟩))
   rw[hw9] at q HBQ
   obtain⟨q0,q1⟩:=q
   rw[hw9]
   clear r0 r1 f0 f1 hw9
   go_wp2
   refine bodyPost_ret (v:=.tuple #[.agg #[.string ⟨#[]⟩,.string ⟨#[]⟩],.int .i64 2]) (by simp[results,Tryz.f159,go_sem,q0,q1]) rfl ⟨_,_,_,rfl,?_,HBQ.out⟩
   exact .inl ⟨by rw[H2.out,Bool.and_false],rfl,rfl,rfl⟩
  ·have HZ:=ZnV (Zc9 h2)
   have H2:=ZnV h2
   clear h2
   have dl:t.toList=t.data.toList:=ByteArray.toList_eq ..
   by_cases h0:Zd t.data.toList=0
   ·have hz:(t.toList==[48])=true:=by
     rw[dl,HZ.out.2 h0];rfl
    have H0:=ZnV h0
    clear h0 dl
    go_enter Tryz.func159,Tryz.ntmps159
    go_wp2_with fail
    obtain⟨w1,hw1⟩:=ZnX (w.alloc (.cells #[.string ⟨#[]⟩,.string ⟨#[]⟩] 41))
    rw[hw1]
    have HX1:Hid (Zj w.heap.size [.cells #[.string ⟨#[]⟩,.string ⟨#[]⟩] 41] w1):=by rw[← hw1];exact Zj.one w _
    have HB1:Hid (Below w.heap.size w w1):=by rw[← hw1];exact(Below.refl _ w).alloc ZnW _
    clear hw1
    refine(Zaz s _ hs).mono ?_
    rintro e w2 ⟨rfl,hb2⟩
    rw[H1.out]
    have HX2:=ZnV (HX1.out.below hb2 HX1.out.lt)
    have HB2:=ZnV (HB1.out.trans (hb2.mono HB1.out.size))
    clear hb2
    go_wp2_with fail
    refine(Zaz t _ ht).mono ?_
    rintro e w3 ⟨rfl,hb3⟩
    rw[H2.out]
    have HX3:=ZnV (HX2.out.below hb3 HX2.out.lt)
    have HB3:=ZnV (HB2.out.trans (hb3.mono HB2.out.size))
    clear hb3
    have r0:=HX3.out.cell 0 0 (b:=w.heap.size) rfl rfl rfl
    have r1:=HX3.out.cell 0 1 (b:=w.heap.size) rfl rfl rfl
    have f0:=HX3.out.free 0 0 (b:=w.heap.size) rfl rfl
    have f1:=HX3.out.free 0 1 (b:=w.heap.size) rfl rfl
    go_wp2
    have q:=Zi (HX3.out.block 0 (b:=w.heap.size) rfl rfl) (.string ⟨#[]⟩) (.string ⟨#[]⟩)
    have HBQ:=ZnV (Zf HB3.out (b:=w.heap.size) (by omega) (.string ⟨#[]⟩) (.string ⟨#[]⟩))
    obtain⟨w9,hw9⟩:=ZnX ((w3.setCell ⟨w.heap.size,0,none⟩ (.string ⟨#[]⟩)).setCell ⟨w.heap.size,1,none⟩ (.string ⟨#[]⟩))
    rw[hw9] at q HBQ
    obtain⟨q0,q1⟩:=q
    rw[hw9]
    clear r0 r1 f0 f1 hw9
    go_wp2
    refine bodyPost_ret (v:=.tuple #[.agg #[.string ⟨#[]⟩,.string ⟨#[]⟩],.int .i64 10]) (by simp[results,Tryz.f159,go_sem,q0,q1]) rfl ⟨_,_,_,rfl,?_,HBQ.out⟩
    exact .inr (.inl ⟨by rw[H1.out,H2.out];rfl,H0.out,rfl,rfl,rfl⟩)
   ·have hz:(t.toList==[48])=false:=by
     rw[beq_eq_false_iff_ne,dl]
     intro hc
     refine h0 (HZ.out.1 ?_)
     rw[← ZaN t,hc];rfl
    have H0:=ZnV h0
    clear h0 dl
    obtain⟨cs1,cs2⟩:=Z3 H1.out
    obtain⟨ct1,ct2⟩:=Z3 H2.out
    have hls:=ZbL cs1.dig (j:=70) (by rw[← Zl];omega)
    have hlt:=ZbL ct1.dig (j:=70) (by rw[← Zl];omega)
    have HDS:=ZnV cs1.dig
    have HDT:=ZnV ct1.dig
    clear cs1 cs2 ct1 ct2
    go_enter Tryz.func159,Tryz.ntmps159
    go_wp2_with fail
    obtain⟨w1,hw1⟩:=ZnX (w.alloc (.cells #[.string ⟨#[]⟩,.string ⟨#[]⟩] 41))
    rw[hw1]
    have HX1:Hid (Zj w.heap.size [.cells #[.string ⟨#[]⟩,.string ⟨#[]⟩] 41] w1):=by rw[← hw1];exact Zj.one w _
    have HB1:Hid (Below w.heap.size w w1):=by rw[← hw1];exact(Below.refl _ w).alloc ZnW _
    clear hw1
    refine(Zaz s _ hs).mono ?_
    rintro e w2 ⟨rfl,hb2⟩
    rw[H1.out]
    have HX2:=ZnV (HX1.out.below hb2 HX1.out.lt)
    have HB2:=ZnV (HB1.out.trans (hb2.mono HB1.out.size))
    clear hb2
    go_wp2_with fail
    refine(Zaz t _ ht).mono ?_
    rintro e w3 ⟨rfl,hb3⟩
    rw[H2.out]
    have HX3:=ZnV (HX2.out.below hb3 HX2.out.lt)
    have HB3:=ZnV (HB2.out.trans (hb3.mono HB2.out.size))
    clear hb3
    go_wp2_with fail
    refine(Zf7 s hs HDS.out _).mono ?_
    rintro e w4 ⟨vn,rfl,hN,hb4⟩
    obtain⟨pn,ln,cn,rfl⟩:=hN.form'
    have HN4:=ZnV hN
    have HX4:=ZnV (HX3.out.below hb4 HX3.out.lt)
    have HB4:=ZnV (HB3.out.trans (hb4.mono HB3.out.size))
    clear hN hb4
    go_wp2_with fail
    refine(Zf7 t ht HDT.out _).mono ?_
    rintro e w5 ⟨vd,rfl,hD,hb5⟩
    obtain⟨pd,ld,cd,rfl⟩:=hD.form'
    have HD5:=ZnV hD
    have HN5:=ZnV (HN4.out.after hb5 ZnW)
    have HX5:=ZnV (HX4.out.below hb5 HX4.out.lt)
    have HB5:=ZnV (HB4.out.trans (hb5.mono HB4.out.size))
    clear hD hb5
    go_wp2_with fail
    refine(Zdf HN5.out HD5.out (by omega) (by omega) (by have:=H0.out;omega) (HT.out.below HB5.out ZnW)).mono ?_
    rintro e w6 ⟨x,y,n,rfl,hR,hb6⟩
    have HR:=ZnV hR
    have HX6:=ZnV (HX5.out.below hb6 HX5.out.lt)
    have HB6:=ZnV (HB5.out.trans (hb6.mono HB5.out.size))
    clear hR hb6
    have r0:=HX6.out.cell 0 0 (b:=w.heap.size) rfl rfl rfl
    have r1:=HX6.out.cell 0 1 (b:=w.heap.size) rfl rfl rfl
    have f0:=HX6.out.free 0 0 (b:=w.heap.size) rfl rfl
    have f1:=HX6.out.free 0 1 (b:=w.heap.size) rfl rfl
    go_wp2
    have q:=Zi (HX6.out.block 0 (b:=w.heap.size) rfl rfl) (.string x) (.string y)
    have HBQ:=ZnV (Zf HB6.out (b:=w.heap.size) (by omega) (.string x) (.string y))
    obtain⟨w9,hw9⟩:=ZnX ((w6.setCell ⟨w.heap.size,0,none⟩ (.string x)).setCell ⟨w.heap.size,1,none⟩ (.string y))
    rw[hw9] at q HBQ
    obtain⟨q0,q1⟩:=q
    rw[hw9]
    clear r0 r1 f0 f1 hw9
    go_wp2
    refine bodyPost_ret (v:=.tuple #[.agg #[.string x,.string y],.int .i64 n]) (by simp[results,Tryz.f159,go_sem,q0,q1]) rfl ⟨_,_,_,rfl,?_,HBQ.out⟩
    exact .inr (.inr ⟨by rw[H1.out,H2.out];rfl,by have:=H0.out;omega,HR.out⟩)
def ZlR (n:Int) (w:World) (e:Ending) (w':World):Prop:=
 ∃ s r,e=.returned (.tuple #[.string s,.int .i64 r])∧((n<0∧s=str []∧r=11)∨(0≤n∧s=str (Lib.decDigits n.toNat)∧r=0))∧Below w.heap.size w w'
theorem Zjj {n:Int} (h:0≤n):Lib.itoa n=Lib.decDigits n.toNat:=by
 unfold Lib.itoa
 rw[if_neg (by omega)]
theorem Zhd (n:Int) (h0 : -9223372036854775808≤n) (h1:n≤9223372036854775807) (w:World) (hT:Tabs w) :
  Calls Tryz.prog 158 #[.int .i64 n] w (ZlR n w):=by
 have HI:=ZnV (Tryz.strconv_Itoa n h0 h1 w hT)
 have HT:=ZnV hT
 have H01:=ZnV (And.intro h0 h1)
 clear hT h0 h1
 by_cases hn:n<0
 ·go_enter Tryz.func158,Tryz.ntmps158
  go_wp2
  go_ret2
  exact⟨_,_,rfl,.inl ⟨hn,rfl,rfl⟩,Below.refl _ _⟩
 ·go_enter Tryz.func158,Tryz.ntmps158
  go_wp2_with fail
  refine HI.out.mono ?_
  rintro e w2 ⟨rfl,k,os,hw⟩
  have HB:Hid (Below w.heap.size w w2):=by rw[hw];exact Lib.below_grow _ _ ZnW _ _
  clear hw
  obtain⟨s,hs⟩:=ZnX ((⟨(Lib.itoa n).toArray⟩:ByteArray))
  rw[hs]
  have HS:Hid (s=str (Lib.decDigits n.toNat)):=by show _=_;rw[← hs,Zjj (by omega)];rfl
  clear hs
  go_wp2
  go_ret2
  exact⟨_,_,rfl,.inr ⟨by omega,HS.out,rfl⟩,HB.out⟩
def Zh0 (a b:Int) (x y:ByteArray) (e:Int):Prop:=
 ((a<0∨b<0)∧x=str []∧y=str []∧e=11)∨(0≤a∧b=0∧x=str []∧y=str []∧e=10)∨(0≤a∧0<b∧Ans (mkRat (a.toNat:Nat) b.toNat) x y e)
theorem Zev {n:Nat} (h:(Lib.decDigits n).length≤600):ZI (Lib.decDigits n)=true:=Zct (Zco n) h
theorem ZiY {a b:Nat} (ha:(Lib.decDigits a).length≤600) (hb:(Lib.decDigits b).length≤600) {x y:ByteArray} {e:Int} (h:Made (str (Lib.decDigits a)) (str (Lib.decDigits b)) x y e) :
  (b=0∧x=str []∧y=str []∧e=10)∨(0<b∧Ans (mkRat (a:Nat) b) x y e):=by
 unfold Made ratP at h
 rw[Za9,Za9,Zev ha,Zev hb,Zap,Zap] at h
 rcases h with ⟨h,_⟩ | ⟨_,h0,h1,h2,h3⟩ | ⟨_,h0,h1⟩
 ·cases h
 ·exact .inl ⟨h0,h1,h2,h3⟩
 ·exact .inr ⟨h0,h1⟩
theorem Zc7 {n:Int} (h:n≤9223372036854775807):(Lib.decDigits n.toNat).length≤600:=Nat.le_trans (ZO (k:=20) (by omega) (by omega)) (by omega)
theorem Zgh {a b:Int} (h0:0≤a) (h1:0≤b) (ha:a≤9223372036854775807) (hb:b≤9223372036854775807) {s t x y:ByteArray} {e:Int} (hs:s=str (Lib.decDigits a.toNat)) (ht:t=str (Lib.decDigits b.toNat)) (h:Made s t x y e):Zh0 a b x y e:=by
 subst hs;subst ht
 rcases ZiY (Zc7 ha) (Zc7 hb) h with ⟨k1,k2,k3,k4⟩ | ⟨k1,k2⟩
 ·exact .inr (.inl ⟨h0,by omega,k2,k3,k4⟩)
 ·exact .inr (.inr ⟨h0,by omega,k2⟩)
theorem Zg2 (a b:Int) (ha0 : -9223372036854775808≤a) (ha1:a≤9223372036854775807) (hb0 : -9223372036854775808≤b) (hb1:b≤9223372036854775807) (w:World) (hT:Tabs w) :
  Calls Tryz.prog 107 #[.int .i64 a,.int .i64 b] w (Zx (Zh0 a b) w):=by
 have HT:=ZnV hT
 clear hT
 go_enter Tryz.func107,Tryz.ntmps107
 go_wp2_with fail
 obtain⟨w1,hw1⟩:=ZnX (w.alloc (.cells #[.string ⟨#[]⟩,.string ⟨#[]⟩] 41))
 rw[hw1]
 have HX1:Hid (Zj w.heap.size [.cells #[.string ⟨#[]⟩,.string ⟨#[]⟩] 41] w1):=by rw[← hw1];exact Zj.one w _
 have HB1:Hid (Below w.heap.size w w1):=by rw[← hw1];exact(Below.refl _ w).alloc ZnW _
 clear hw1
 refine(Zhd a ha0 ha1 _ (HT.out.below HB1.out ZnW)).mono ?_
 rintro e w2 ⟨s,r1,rfl,hR1,hb2⟩
 have HX2:=ZnV (HX1.out.below hb2 HX1.out.lt)
 have HB2:=ZnV (HB1.out.trans (hb2.mono HB1.out.size))
 have HR1:=ZnV hR1
 clear hb2 hR1
 go_wp2_with fail
 refine(Zhd b hb0 hb1 _ (HT.out.below HB2.out ZnW)).mono ?_
 rintro e w3 ⟨t,r2,rfl,hR2,hb3⟩
 have HX3:=ZnV (HX2.out.below hb3 HX2.out.lt)
 have HB3:=ZnV (HB2.out.trans (hb3.mono HB2.out.size))
 have HR2:=ZnV hR2
 clear hb3 hR2
 by_cases hneg:a<0∨b<0
 ·
  have r0:=HX3.out.cell 0 0 (b:=w.heap.size) rfl rfl rfl
  have r1:=HX3.out.cell 0 1 (b:=w.heap.size) rfl rfl rfl
  have f0:=HX3.out.free 0 0 (b:=w.heap.size) rfl rfl
  have f1:=HX3.out.free 0 1 (b:=w.heap.size) rfl rfl
  rcases HR1.out with ⟨k1,k2,rfl⟩ | ⟨k1,k2,rfl⟩
  ·clear k1 k2
   go_wp2
   have q:=Zi (HX3.out.block 0 (b:=w.heap.size) rfl rfl) (.string ⟨#[]⟩) (.string ⟨#[]⟩)
   have HBQ:=ZnV (Zf HB3.out (b:=w.heap.size) (by omega) (.string ⟨#[]⟩) (.string ⟨#[]⟩))
   obtain⟨w9,hw9⟩:=ZnX ((w3.setCell ⟨w.heap.size,0,none⟩ (.string ⟨#[]⟩)).setCell ⟨w.heap.size,1,none⟩ (.string ⟨#[]⟩))
   rw[hw9] at q HBQ
   obtain⟨q0,q1⟩:=q
   rw[hw9]
   clear r0 r1 f0 f1 hw9
   go_wp2
   refine bodyPost_ret (v:=.tuple #[.agg #[.string ⟨#[]⟩,.string ⟨#[]⟩],.int .i64 11]) (by simp[results,Tryz.f107,go_sem,q0,q1]) rfl ⟨_,_,_,rfl,?_,HBQ.out⟩
   exact .inl ⟨hneg,rfl,rfl,rfl⟩
  ·rcases HR2.out with ⟨m1,m2,rfl⟩ | ⟨m1,m2,rfl⟩
   ·clear k1 k2 m1 m2
    go_wp2
    have q:=Zi (HX3.out.block 0 (b:=w.heap.size) rfl rfl) (.string ⟨#[]⟩) (.string ⟨#[]⟩)
    have HBQ:=ZnV (Zf HB3.out (b:=w.heap.size) (by omega) (.string ⟨#[]⟩) (.string ⟨#[]⟩))
    obtain⟨w9,hw9⟩:=ZnX ((w3.setCell ⟨w.heap.size,0,none⟩ (.string ⟨#[]⟩)).setCell ⟨w.heap.size,1,none⟩ (.string ⟨#[]⟩))
    rw[hw9] at q HBQ
    obtain⟨q0,q1⟩:=q
    rw[hw9]
    clear r0 r1 f0 f1 hw9
    go_wp2
    refine bodyPost_ret (v:=.tuple #[.agg #[.string ⟨#[]⟩,.string ⟨#[]⟩],.int .i64 11]) (by simp[results,Tryz.f107,go_sem,q0,q1]) rfl ⟨_,_,_,rfl,?_,HBQ.out⟩
    exact .inl ⟨hneg,rfl,rfl,rfl⟩
   ·exfalso;omega
 ·have hz:r1=0∧r2=0∧Hid (s=str (Lib.decDigits a.toNat))∧Hid (t=str (Lib.decDigits b.toNat))∧0≤a∧0≤b:=by
   rcases HR1.out with ⟨k1,k2,k3⟩ | ⟨k1,k2,k3⟩
   ·omega
   ·rcases HR2.out with ⟨m1,m2,m3⟩ | ⟨m1,m2,m3⟩
    ·omega
    ·exact⟨k3,m3,k2,m2,k1,m1⟩
  obtain⟨rfl,rfl,HS,HU,ka,kb⟩:=hz
  have hs:s.size≤1000000:=by rw[HS.out,Zao];exact Nat.le_trans (Zc7 ha1) (by omega)
  have ht:t.size≤1000000:=by rw[HU.out,Zao];exact Nat.le_trans (Zc7 hb1) (by omega)
  clear hneg
  go_wp2_with fail
  refine(Zmm s t _ hs ht (HT.out.below HB3.out ZnW)).mono ?_
  rintro e w4 ⟨x,y,n,rfl,hR,hb4⟩
  have HR:=ZnV hR
  have HX4:=ZnV (HX3.out.below hb4 HX3.out.lt)
  have HB4:=ZnV (HB3.out.trans (hb4.mono HB3.out.size))
  clear hR hb4
  have r0:=HX4.out.cell 0 0 (b:=w.heap.size) rfl rfl rfl
  have r1:=HX4.out.cell 0 1 (b:=w.heap.size) rfl rfl rfl
  have f0:=HX4.out.free 0 0 (b:=w.heap.size) rfl rfl
  have f1:=HX4.out.free 0 1 (b:=w.heap.size) rfl rfl
  go_wp2
  have q:=Zi (HX4.out.block 0 (b:=w.heap.size) rfl rfl) (.string x) (.string y)
  have HBQ:=ZnV (Zf HB4.out (b:=w.heap.size) (by omega) (.string x) (.string y))
  obtain⟨w9,hw9⟩:=ZnX ((w4.setCell ⟨w.heap.size,0,none⟩ (.string x)).setCell ⟨w.heap.size,1,none⟩ (.string y))
  rw[hw9] at q HBQ
  obtain⟨q0,q1⟩:=q
  rw[hw9]
  clear r0 r1 f0 f1 hw9
  go_wp2
  refine bodyPost_ret (v:=.tuple #[.agg #[.string x,.string y],.int .i64 n]) (by simp[results,Tryz.f107,go_sem,q0,q1]) rfl ⟨_,_,_,rfl,?_,HBQ.out⟩
  exact Zgh ka kb ha1 hb1 HS.out HU.out HR.out
abbrev pObj (x y:ByteArray):Obj:=.cells #[.string x,.string y] 41
def ZM (v:Value) (w:World) (e:Ending) (w':World):Prop:=e=.returned v∧Below w.heap.size w w'
abbrev pV (s t:ByteArray):Value:=.agg #[.string s,.string t]
def Ats (l:List (Nat×ByteArray×ByteArray)) (w:World):Prop:=∀ (i:Nat) (p:Nat×ByteArray×ByteArray),l[i]?=some p→w.heap[p.1]?=some (pObj p.2.1 p.2.2)
theorem Ats.nil (w:World):Ats [] w:=fun i p h=>by simp at h
theorem Ats.after {l:List (Nat×ByteArray×ByteArray)} {w w':World} {B:Nat} (h:Ats l w) (hb:Below B w w') (hB:w.heap.size≤B):Ats l w':=fun i p hp=>by
 have h1:=h i p hp
 have h2:=(Array.getElem?_eq_some_iff.1 h1).1
 rw[hb.block p.1 (by omega)]
 exact h1
theorem Ats.push {l:List (Nat×ByteArray×ByteArray)} {w:World} (h:Ats l w) (x y:ByteArray):Ats ((w.heap.size,x,y)::l) (w.alloc (pObj x y)):=fun i p hp=>by
 cases i with
 | zero=>
  obtain rfl:=Option.some.inj hp
  exact World.alloc_heap_new w _
 | succ i=>
  have h1:=h i p (by simpa using hp)
  have h2:=(Array.getElem?_eq_some_iff.1 h1).1
  rw[Below.heap_alloc _ _ _ (by omega)]
  exact h1
theorem Ats.c0 {l:List (Nat×ByteArray×ByteArray)} {w:World} (h:Ats l w) (i:Nat) {b:Nat} {x y:ByteArray} (hp:l[i]?=some (b,x,y)):w.cell? ⟨b,0,none⟩=some (.string x):=Za (h i _ hp) 0 rfl
theorem Ats.c1 {l:List (Nat×ByteArray×ByteArray)} {w:World} (h:Ats l w) (i:Nat) {b:Nat} {x y:ByteArray} (hp:l[i]?=some (b,x,y)):w.cell? ⟨b,1,none⟩=some (.string y):=Za (h i _ hp) 1 rfl
theorem Ats.lt {l:List (Nat×ByteArray×ByteArray)} {w:World} (h:Ats l w) (i:Nat) {p:Nat×ByteArray×ByteArray} (hp:l[i]?=some p):p.1<w.heap.size:=(Array.getElem?_eq_some_iff.1 (h i _ hp)).1
theorem Znt (w:World) (s t u v:ByteArray):PL (w.alloc (.cells #[.string s,.string t,.string u,.string v] 41)) (.slice (some ⟨w.heap.size,0,none⟩) 2 2) [(s,t),(u,v)]:=by
 refine⟨_,2,rfl,Nat.le_refl _,by simp[maxLen],fun _=>⟨_,0,rfl,by simp,fun j hj=>?_⟩⟩
 match j,hj with
 | 0,_=>exact⟨Zv _ _ _ 0 rfl,Zv _ _ _ 1 rfl⟩
 | 1,_=>exact⟨Zv _ _ _ 2 rfl,Zv _ _ _ 3 rfl⟩
 | j+2,h=>simp at h;try omega
theorem IsP.le {q:Rat} {s t:ByteArray} (h:IsP q s t):s.size≤1000000∧t.size≤1000000:=by
 obtain⟨h1,h2⟩:=h.fits
 rw[h.num,h.den,Zao,Zao]
 exact⟨Nat.le_trans h1 (by decide),Nat.le_trans h2 (by decide)⟩
theorem IsP.oks {q r:Rat} {s t u v:ByteArray} (h:IsP q s t) (k:IsP r u v):(okP s t && okP u v)=true:=by rw[h.ok,k.ok];rfl
theorem IsP.one {q:Rat} {s t u v:ByteArray} (h:IsP q s t) (k:IsP q u v):s=u∧t=v:=⟨by rw[h.num,k.num],by rw[h.den,k.den]⟩
theorem ZbY {q p:Rat} {x y u v:ByteArray} {n:Int} (h:Ans q u v n) (hx:IsP p x y) (hq:q=p):u=x∧v=y∧n=0:=by
 subst hq
 obtain⟨h1,h2⟩:=h.fit hx.fits
 obtain⟨h3,h4⟩:=h1.one hx
 exact⟨h3,h4,h2⟩
theorem Ziu {q r p:Rat} {s t u v x y:ByteArray} (ha:IsP q s t) (hb:IsP r u v) (hx:IsP p x y) (hq:q+r=p) (w:World) (hT:Tabs w) :
  Calls Tryz.prog 42 #[pV s t,pV u v] w (ZM (.tuple #[pV x y,.int .i64 0]) w):=by
 refine(Zjt s t u v w ha.le.1 ha.le.2 hb.le.1 hb.le.2 hT).mono ?_
 rintro e w' ⟨x',y',n,rfl,h,hbb⟩
 rcases h with ⟨h,_⟩ | ⟨_,h⟩
 ·rw[ha.oks hb] at h;cases h
 ·rw[ha.rat,hb.rat] at h
  obtain⟨rfl,rfl,rfl⟩:=ZbY h hx hq
  exact⟨rfl,hbb⟩
theorem Zc8 {q r p:Rat} {s t u v x y:ByteArray} (ha:IsP q s t) (hb:IsP r u v) (hx:IsP p x y) (hq:q*r=p) (w:World) (hT:Tabs w) :
  Calls Tryz.prog 119 #[pV s t,pV u v] w (ZM (.tuple #[pV x y,.int .i64 0]) w):=by
 refine(ZmZ s t u v w ha.le.1 ha.le.2 hb.le.1 hb.le.2 hT).mono ?_
 rintro e w' ⟨x',y',n,rfl,h,hbb⟩
 rcases h with ⟨h,_⟩ | ⟨_,h⟩
 ·rw[ha.oks hb] at h;cases h
 ·rw[ha.rat,hb.rat] at h
  obtain⟨rfl,rfl,rfl⟩:=ZbY h hx hq
  exact⟨rfl,hbb⟩
theorem Zdd {q r p:Rat} {s t u v x y:ByteArray} (ha:IsP q s t) (hb:IsP r u v) (hx:IsP p x y) (hq:q-r=p) (w:World) (hT:Tabs w) :
  Calls Tryz.prog 104 #[pV s t,pV u v] w (ZM (.tuple #[pV x y,.int .i64 0]) w):=by
 refine(Zni s t u v w ha.le.1 ha.le.2 hb.le.1 hb.le.2 hT).mono ?_
 rintro e w' ⟨x',y',n,rfl,h,hbb⟩
 rcases h with ⟨h,_⟩ | ⟨_,h⟩
 ·rw[ha.oks hb] at h;cases h
 ·rw[ha.rat,hb.rat] at h
  rcases h with ⟨h,_⟩ | ⟨_,h⟩
  ·have:=hx.nn;grind
  ·obtain⟨rfl,rfl,rfl⟩:=ZbY h hx hq
   exact⟨rfl,hbb⟩
theorem ZhZ {q r p:Rat} {s t u v x y:ByteArray} (ha:IsP q s t) (hb:IsP r u v) (hx:IsP p x y) (h0:0<r) (hq:q/r=p) (w:World) (hT:Tabs w) :
  Calls Tryz.prog 169 #[pV s t,pV u v] w (ZM (.tuple #[pV x y,.int .i64 0]) w):=by
 refine(Zna s t u v w ha.le.1 ha.le.2 hb.le.1 hb.le.2 hT).mono ?_
 rintro e w' ⟨x',y',n,rfl,h,hbb⟩
 rcases h with ⟨h,_⟩ | ⟨_,h⟩
 ·rw[ha.oks hb] at h;cases h
 ·rw[ha.rat,hb.rat] at h
  rcases h with ⟨h,_⟩ | ⟨_,h⟩
  ·grind
  ·obtain⟨rfl,rfl,rfl⟩:=ZbY h hx hq
   exact⟨rfl,hbb⟩
theorem Zbr {q r:Rat} {n:Int} {s t u v:ByteArray} (ha:IsP q s t) (hb:IsP r u v) (hn:sgnR q r=n) (w:World) :
  Calls Tryz.prog 22 #[pV s t,pV u v] w (ZM (.int .i64 n) w):=by
 refine(Zi5 s t u v w ha.le.1 ha.le.2 hb.le.1 hb.le.2).mono ?_
 rintro e w' ⟨m,rfl,h,hbb⟩
 rcases h with ⟨h,_⟩ | ⟨_,h⟩
 ·rw[ha.oks hb] at h;cases h
 ·rw[ha.rat,hb.rat,hn] at h
  subst h
  exact⟨rfl,hbb⟩
theorem Zml {q:Rat} {s t:ByteArray} (h:IsP q s t) (h0:s=⟨#[48]⟩):q=0:=by
 have h1:=h.vals.1
 rw[h0] at h1
 have h2:Zd (⟨#[48]⟩:ByteArray).data.toList=0:=by decide
 rw[h2] at h1
 have h3:=ZX h.nn
 rw[← h1] at h3
 exact Rat.num_eq_zero.1 h3.symm
theorem World.alloc_size (w:World) (o:Obj):(w.alloc o).heap.size=w.heap.size+1:=by simp
theorem Ats.three (w:World) (s t u v x y:ByteArray):Ats [(w.heap.size+1+1,x,y),(w.heap.size+1,u,v),(w.heap.size,s,t)] (((w.alloc (pObj s t)).alloc (pObj u v)).alloc (pObj x y)):=by
 have h:=(((Ats.nil w).push s t).push u v).push x y
 rw[World.alloc_size,World.alloc_size] at h
 exact h
structure DetV (w:World):Prop where
 z0:w.cell? ⟨1,0,none⟩=some (.string ⟨#[48]⟩)
 z1:w.cell? ⟨1,1,none⟩=some (.string ⟨#[49]⟩)
 o0:w.cell? ⟨2,0,none⟩=some (.string ⟨#[49]⟩)
 o1:w.cell? ⟨2,1,none⟩=some (.string ⟨#[49]⟩)
theorem DetV.below {w w':World} {B:Nat} (h:DetV w) (hb:Below B w w') (hB:w.heap.size≤B):DetV w':=
 ⟨(hb.cell (Nat.lt_of_lt_of_le (World.block_lt_of_cell? _ _ h.z0) hB)).trans h.z0,(hb.cell (Nat.lt_of_lt_of_le (World.block_lt_of_cell? _ _ h.z1) hB)).trans h.z1,
  (hb.cell (Nat.lt_of_lt_of_le (World.block_lt_of_cell? _ _ h.o0) hB)).trans h.o0,(hb.cell (Nat.lt_of_lt_of_le (World.block_lt_of_cell? _ _ h.o1) hB)).trans h.o1⟩
theorem Zbm (n low high:Int) (w:World):Calls Tryz.prog 128 #[.int .i64 n,.int .i64 low,.int .i64 high] w (ZP w (decide (low≤n) && decide (n≤high))):=by
 by_cases h1:low≤n
 ·by_cases h2:n≤high
  ·go_enter Tryz.func128,Tryz.ntmps128
   go_wp2
   go_ret
   exact⟨by simp[h1,h2],Below.refl _ _⟩
  ·go_enter Tryz.func128,Tryz.ntmps128
   go_wp2
   go_ret
   exact⟨by simp[h1,h2],Below.refl _ _⟩
 ·go_enter Tryz.func128,Tryz.ntmps128
  go_wp2
  go_ret
  exact⟨by rw[decide_eq_false (show ¬ low≤n by omega)];rfl,Below.refl _ _⟩
def Zia (n:Int):Ending:=.panicked [{ v:=.iface 258 (.agg #[.int .i64 n]),recovered:=false }]
def ZnD (s t:ByteArray) (n:Int) (w:World) (e:Ending) (w':World):Prop:=
 ((n=0∧e=.returned (.agg #[.string s,.string t]))∨(n≠0∧e=Zia n))∧Below w.heap.size w w'
theorem Zk8 (s t:ByteArray) (n:Int) (w:World):Calls Tryz.prog 180 #[.agg #[.string s,.string t],.int .i64 n] w (ZnD s t n w):=by
 by_cases hn:n=0
 ·have h0:(n !=0)=false:=by rw[bne_eq_false_iff_eq];exact hn
  have H0:=ZnV hn
  clear hn
  go_enter Tryz.func180,Tryz.ntmps180
  go_wp2
  refine bodyPost_ret (v:=.agg #[.string s,.string t]) (by simp[results,Tryz.f180,go_sem]) rfl ⟨.inl ⟨H0.out,rfl⟩,((Below.refl _ w).alloc ZnW _).alloc (by simp) _⟩
 ·have h0:(n !=0)=true:=by rw[bne_iff_ne];exact hn
  have H0:=ZnV hn
  clear hn
  go_enter Tryz.func180,Tryz.ntmps180
  go_wp2
  refine⟨rfl,.inr ⟨H0.out,rfl⟩,((Below.refl _ w).alloc ZnW _).alloc (by simp) _⟩
theorem Zbl (s t:ByteArray) (w:World):Calls Tryz.prog 180 #[pV s t,.int .i64 0] w (ZM (pV s t) w):=
 (Zk8 s t 0 w).mono fun e w' ⟨h,hb⟩=>by
  rcases h with ⟨_,rfl⟩ | ⟨h,_⟩
  ·exact⟨rfl,hb⟩
  ·exact absurd rfl h
def ZjD (w:World) (n:Nat) (f:Nat→Bool) (e:Ending) (w':World):Prop:=
 ∃ i:Int,e=.returned (.int .i64 i)∧((0≤i∧∃ k,k<n∧f k=true)∨(i = -1∧∀ k,k<n→f k=false))∧Below w.heap.size w w'
def ZdI (w:World) (n:Nat) (f:Nat→Bool) (e:Ending) (w':World):Prop:=
 ∃ b:Bool,e=.returned (.bool b)∧((b=true∧∃ k,k<n∧f k=true)∨(b=false∧∀ k,k<n→f k=false))∧Below w.heap.size w w'
theorem ZkJ {g:Nat} {caps:Array Value} (hent:∀ args w,(callFunc g args).run Tryz.prog w=.ok (.enter g args) w) {f:Nat→Bool} {v:Value} {bs:List BB} {n:Nat} {w:World} (hv:BL w v bs) (hn:bs.length=n)
  (hf:∀ k,k<n→∀ W,Below w.heap.size w W→Calls Tryz.prog g (#[bV (bAt bs k)]++caps) W (ZP W (f k))) :
  Calls Tryz.prog 177 #[v,.func (.func g) #[] caps] w (ZjD w n f):=by
 obtain⟨p,c,rfl⟩:∃ p c,v=.slice p n c:=by obtain⟨p,c,h,_⟩:=id hv;exact⟨_,_,by rw[← hn];exact h⟩
 obtain⟨_,hc,hnc⟩:=hv.len
 have HV:=ZnV hv
 have HN:=ZnV hn
 have HF:=ZnV hf
 clear hv hn hf
 go_enter Tryz.func177,Tryz.ntmps177
 go_wp2
 go_loopw [8] (fun i wr=>∃ (k:Nat),i=.int .i64 k∧k≤n∧Hid (∀ j,j<k→f j=false)∧Hid (Below w.heap.size w wr)) (fun i _=>n-(intOf i).toNat)
 case atStart=>exact⟨0,rfl,Nat.zero_le _,fun j h=>by omega,Below.refl _ _⟩
 case round=>
  obtain⟨k,rfl,hk,HK,HB⟩:=hrel
  by_cases hlt:k<n
  ·obtain⟨b,o,rfl,_,hat⟩:=HV.out.at HN.out (by omega)
   obtain⟨e0,e1,e2,e3⟩:=hat wr HB.out k hlt
   have hF:∀ W,Below w.heap.size w W→Calls Tryz.prog g (#[.agg #[.string (bAt bs k).1.1,.string (bAt bs k).1.2,.string (bAt bs k).2.1,.string (bAt bs k).2.2]]++caps) W (ZP W (f k)):=HF.out k hlt
   obtain⟨s,hs⟩:=ZnX ((bAt bs k).1.1)
   obtain⟨t,ht⟩:=ZnX ((bAt bs k).1.2)
   obtain⟨x,hx⟩:=ZnX ((bAt bs k).2.1)
   obtain⟨y,hy⟩:=ZnX ((bAt bs k).2.2)
   rw[hs] at e0
   rw[ht] at e1
   rw[hx] at e2
   rw[hy] at e3
   rw[hs,ht,hx,hy] at hF
   have HG:=ZnV hF
   clear hF hat hs ht hx hy
   obtain⟨r,hr⟩:=ZnX (f k)
   have HR:=ZnV hr
   clear hr
   go_wp2_with fail
   refine(HG.out _ HB.out).mono ?_
   rintro e w2 ⟨rfl,hb⟩
   rw[HR.out]
   have HB2:=ZnV (HB.out.trans (hb.mono HB.out.size))
   clear hb e0 e1 e2 e3
   cases r
   ·have HK2:Hid (∀ j,j<k+1→f j=false):=fun j h=>by
     rcases Nat.lt_or_ge j k with h3 | h3
     ·exact HK.out j h3
     ·obtain rfl:j=k:=by omega
      exact HR.out
    go_wp2
    go_roundw
    case rel=>exact⟨k+1,by go_num,by omega,HK2,HB2⟩
    case measure=>simp[intOf];omega
   ·go_wp2
    go_ret
    exact⟨k,rfl,.inl ⟨by omega,k,hlt,HR.out⟩,HB2.out⟩
  ·obtain rfl:n=k:=by omega
   go_wp2
   go_ret
   exact⟨-1,rfl,.inr ⟨rfl,fun j h=>HK.out j h⟩,HB.out⟩
theorem ZjT {g:Nat} {caps:Array Value} (hent:∀ args w,(callFunc g args).run Tryz.prog w=.ok (.enter g args) w) {f:Nat→Bool} {v:Value} {ps:List PP} {n:Nat} {w:World} (hv:PL w v ps) (hn:ps.length=n)
  (hf:∀ k (h:k<ps.length),∀ W,Below w.heap.size w W→Calls Tryz.prog g (#[pV ps[k].1 ps[k].2]++caps) W (ZP W (f k))) :
  Calls Tryz.prog 121 #[v,.func (.func g) #[] caps] w (ZjD w n f):=by
 obtain⟨p,c,rfl,hnc,hc,hp⟩:=hv
 unfold maxLen at hc
 rw[hn] at hnc ⊢
 have HV:=ZnV hp
 have HN:=ZnV hn
 have HF:=ZnV hf
 clear hp hn hf
 go_enter Tryz.func121,Tryz.ntmps121
 go_wp2
 go_loopw [8] (fun i wr=>∃ (k:Nat),i=.int .i64 k∧k≤n∧Hid (∀ j,j<k→f j=false)∧Hid (Below w.heap.size w wr)) (fun i _=>n-(intOf i).toNat)
 case atStart=>exact⟨0,rfl,Nat.zero_le _,fun j h=>by omega,Below.refl _ _⟩
 case round=>
  obtain⟨k,rfl,hk,HK,HB⟩:=hrel
  by_cases hlt:k<n
  ·have hkp:k<ps.length:=by rw[HN.out];exact hlt
   obtain⟨b,o,rfl,hbl,hat⟩:=HV.out (List.ne_nil_of_length_pos (by omega))
   obtain⟨e0,e1⟩:=(hat.below HB.out hbl) k hkp
   have hF:∀ W,Below w.heap.size w W→Calls Tryz.prog g (#[.agg #[.string ps[k].1,.string ps[k].2]]++caps) W (ZP W (f k)):=HF.out k hkp
   obtain⟨s,hs⟩:=ZnX (ps[k].1)
   obtain⟨t,ht⟩:=ZnX (ps[k].2)
   rw[hs] at e0
   rw[ht] at e1
   rw[hs,ht] at hF
   have HG:=ZnV hF
   clear hF hat hs ht hkp
   obtain⟨r,hr⟩:=ZnX (f k)
   have HR:=ZnV hr
   clear hr
   go_wp2_with fail
   refine(HG.out _ HB.out).mono ?_
   rintro e w2 ⟨rfl,hb⟩
   rw[HR.out]
   have HB2:=ZnV (HB.out.trans (hb.mono HB.out.size))
   clear hb e0 e1
   cases r
   ·have HK2:Hid (∀ j,j<k+1→f j=false):=fun j h=>by
     rcases Nat.lt_or_ge j k with h3 | h3
     ·exact HK.out j h3
     ·obtain rfl:j=k:=by omega
      exact HR.out
    go_wp2
    go_roundw
    case rel=>exact⟨k+1,by go_num,by omega,HK2,HB2⟩
    case measure=>simp[intOf];omega
   ·go_wp2
    go_ret
    exact⟨k,rfl,.inl ⟨by omega,k,hlt,HR.out⟩,HB2.out⟩
  ·obtain rfl:n=k:=by omega
   go_wp2
   go_ret
   exact⟨-1,rfl,.inr ⟨rfl,fun j h=>HK.out j h⟩,HB.out⟩
theorem Zhs {g:Nat} {caps:Array Value} (hent:∀ args w,(callFunc g args).run Tryz.prog w=.ok (.enter g args) w) {f:Nat→Bool} {v:Value} {bs:List BB} {n:Nat} {w:World} (hv:BL w v bs) (hn:bs.length=n) (hf:∀ k,k<n→∀ W,Below w.heap.size w W→Calls Tryz.prog g (#[bV (bAt bs k)]++caps) W (ZP W (f k))):Calls Tryz.prog 129 #[v,.func (.func g) #[] caps] w (ZdI w n f):=by
 have HI:=ZnV (ZkJ hent hv hn hf)
 go_enter Tryz.func129,Tryz.ntmps129
 go_wp2_with fail
 refine HI.out.mono ?_
 rintro e w2 ⟨i,rfl,hE,hb⟩
 have HB:=ZnV hb
 rcases hE with ⟨h0,h⟩ | ⟨rfl,h⟩
 ·have HE:=ZnV h
  have h0d:decide (0≤i)=true:=decide_eq_true h0
  clear h hb
  go_wp2
  go_ret
  exact⟨true,by simp,.inl ⟨rfl,HE.out⟩,HB.out⟩
 ·have HE:=ZnV h
  clear h hb
  go_wp2
  go_ret
  exact⟨false,by simp,.inr ⟨rfl,HE.out⟩,HB.out⟩
theorem ZcQ {g:Nat} {caps:Array Value} (hent:∀ args w,(callFunc g args).run Tryz.prog w=.ok (.enter g args) w) {f:Nat→Bool} {v:Value} {ps:List PP} {n:Nat} {w:World} (hv:PL w v ps) (hn:ps.length=n) (hf:∀ k (h:k<ps.length),∀ W,Below w.heap.size w W→Calls Tryz.prog g (#[pV ps[k].1 ps[k].2]++caps) W (ZP W (f k))):Calls Tryz.prog 61 #[v,.func (.func g) #[] caps] w (ZdI w n f):=by
 have HI:=ZnV (ZjT hent hv hn hf)
 go_enter Tryz.func61,Tryz.ntmps61
 go_wp2_with fail
 refine HI.out.mono ?_
 rintro e w2 ⟨i,rfl,hE,hb⟩
 have HB:=ZnV hb
 rcases hE with ⟨h0,h⟩ | ⟨rfl,h⟩
 ·have HE:=ZnV h
  have h0d:decide (0≤i)=true:=decide_eq_true h0
  clear h hb
  go_wp2
  go_ret
  exact⟨true,by simp,.inl ⟨rfl,HE.out⟩,HB.out⟩
 ·have HE:=ZnV h
  clear h hb
  go_wp2
  go_ret
  exact⟨false,by simp,.inr ⟨rfl,HE.out⟩,HB.out⟩
theorem Zi4 (k B:Nat) (s t:ByteArray) (hs:s.size≤1000000) (ht:t.size≤1000000) (w:World) (hB:w.cell? ⟨B,0,none⟩=some (.int .i64 k)) :
  Calls Tryz.prog 178 #[pV s t,.pointer (some ⟨B,0,none⟩)] w (ZP w (!Zh k (s,t))):=by
 have HAL:=ZnV ((Below.refl w.heap.size w).alloc ZnW (pObj s t))
 have hBl:=World.block_lt_of_cell? _ _ hB
 have hBc:(w.alloc (pObj s t)).cell? ⟨B,0,none⟩=some (.int .i64 k):=(Z1 _ _ _ hBl).trans hB
 by_cases h1:(k:Int)<s.size
 ·have HR:Hid (Zh k (s,t)=false):=by
   show _=_
   unfold Zh
   rw[decide_eq_false (p:=(s,t).1.size≤k) (by show ¬ s.size≤k;omega)]
   simp
  go_enter Tryz.func178,Tryz.ntmps178
  go_wp2
  go_ret
  exact⟨by rw[HR.out];rfl,HAL.out⟩
 ·by_cases h2:(k:Int)<t.size
  ·have HR:Hid (Zh k (s,t)=false):=by
    show _=_
    unfold Zh
    rw[decide_eq_false (p:=(s,t).2.size≤k) (by show ¬ t.size≤k;omega)]
    simp
   go_enter Tryz.func178,Tryz.ntmps178
   go_wp2
   go_ret
   exact⟨by rw[HR.out];rfl,HAL.out⟩
  ·cases h3:okP s t
   ·have HR:Hid (Zh k (s,t)=false):=by unfold Zh;show _=_;simp[h3]
    have HE:=ZnV (ZaB h3)
    clear h3
    go_enter Tryz.func178,Tryz.ntmps178
    go_wp2_with fail
    refine(ZaH s t _ hs ht).mono ?_
    rintro e w2 ⟨rfl,hb⟩
    rw[HE.out]
    have HB2:=ZnV (HAL.out.trans (hb.mono HAL.out.size))
    clear hb
    go_wp2
    go_ret
    exact⟨by rw[HR.out];rfl,HB2.out⟩
   ·have HR:Hid (Zh k (s,t)=true):=by unfold Zh;show _=_;simp[h3];omega
    have HE:=ZnV (Za4 h3)
    clear h3
    go_enter Tryz.func178,Tryz.ntmps178
    go_wp2_with fail
    refine(ZaH s t _ hs ht).mono ?_
    rintro e w2 ⟨rfl,hb⟩
    rw[HE.out]
    have HB2:=ZnV (HAL.out.trans (hb.mono HAL.out.size))
    clear hb
    go_wp2
    go_ret
    exact⟨by rw[HR.out];rfl,HB2.out⟩
def LimP (ps:List PP):Prop:=∀ p ∈ ps,p.1.size≤1000000∧p.2.size≤1000000
theorem Zgb (k:Nat) (hk:k≤1000) {v:Value} {ps:List PP} {w:World} (hv:PL w v ps) (hz:LimP ps) :
  Calls Tryz.prog 131 #[.int .i64 k,v] w (ZP w (ps.all (Zh k))):=by
 obtain⟨n,hn⟩:=ZnX ps.length
 obtain⟨p,c,rfl⟩:∃ p c,v=.slice p n c:=by obtain⟨p,c,h,_⟩:=id hv;exact⟨_,_,by rw[← hn];exact h⟩
 have hal:=(Below.refl w.heap.size w).alloc ZnW (.cells #[.int .i64 k] 3)
 have HAL:=ZnV hal
 have HC:Hid (Calls Tryz.prog 61 #[.slice p n c,.func (.func 178) #[] #[.pointer (some ⟨w.heap.size,0,none⟩)]] (w.alloc (.cells #[.int .i64 k] 3))
   (ZdI (w.alloc (.cells #[.int .i64 k] 3)) n (fun j=>!Zh k (ps.getD j (⟨#[]⟩,⟨#[]⟩))))):=by
  refine ZcQ (enters_of Tryz.func178 (by kernel_rfl) rfl) (hv.after hal ZnW) hn fun j hj W hW=>?_
  obtain⟨z1,z2⟩:=hz _ (List.getElem_mem hj)
  have e:ps.getD j (⟨#[]⟩,⟨#[]⟩)=ps[j]:=by simp[List.getD,hj]
  rw[e]
  exact Zi4 k w.heap.size ps[j].1 ps[j].2 z1 z2 W ((hW.cell (by simp)).trans (Zv _ _ _ _ rfl))
 have HR:Hid ((∃ j,j<n∧(!Zh k (ps.getD j (⟨#[]⟩,⟨#[]⟩)))=true)→ps.all (Zh k)=false):=by
  rintro⟨j,hj,h⟩
  have hj2:j<ps.length:=by rw[hn];exact hj
  have e:ps.getD j (⟨#[]⟩,⟨#[]⟩)=ps[j]:=by simp[List.getD,hj2]
  rw[e] at h
  rw[← Bool.not_eq_true,List.all_eq_true]
  intro hall
  rw[hall _ (List.getElem_mem hj2)] at h
  cases h
 have HR2:Hid ((∀ j,j<n→(!Zh k (ps.getD j (⟨#[]⟩,⟨#[]⟩)))=false)→ps.all (Zh k)=true):=by
  intro h
  rw[List.all_eq_true]
  intro q hq
  obtain⟨j,hj,rfl⟩:=List.getElem_of_mem hq
  have:=h j (by rw[← hn];exact hj)
  have e:ps.getD j (⟨#[]⟩,⟨#[]⟩)=ps[j]:=by simp[List.getD,hj]
  rw[e] at this
  simpa using this
 clear hal hv hz hn
 go_enter Tryz.func131,Tryz.ntmps131
 go_wp2_with fail
 refine HC.out.mono ?_
 rintro e w2 ⟨b,rfl,h,hb⟩
 have HB2:=ZnV (HAL.out.trans (hb.mono HAL.out.size))
 have HE:=ZnV h
 clear h hb HC HAL
 go_wp2
 go_ret
 refine⟨?_,HB2.out⟩
 rcases HE.out with ⟨rfl,h⟩ | ⟨rfl,h⟩
 ·rw[HR.out h];rfl
 ·rw[HR2.out h];rfl
theorem Zf6 (s t u v:ByteArray) (hs:s.size≤1000000) (ht:t.size≤1000000) (hu:u.size≤1000000) (hv:v.size≤1000000) (w:World) :
  Calls Tryz.prog 130 #[.agg #[.string s,.string t,.string u,.string v]] w (ZP w (!(Zh 18 (s,t) && Zh 18 (u,v)))):=by
 obtain⟨w1,hw1⟩:=ZnX (w.alloc (bO s t u v))
 have hb1:Below w.heap.size w w1:=by rw[← hw1];exact(Below.refl w.heap.size w).alloc ZnW _
 have hal:=(Below.refl w1.heap.size w1).alloc ZnW (.cells #[.string s,.string t,.string u,.string v] 41)
 have HAL:=ZnV (hb1.trans (hal.mono hb1.size))
 have hc:=Zgb 18 (by decide) (Znt w1 s t u v) (by
  intro p hp
  simp only[List.mem_cons,List.not_mem_nil,or_false] at hp
  rcases hp with rfl | rfl
  ·exact⟨hs,ht⟩
  ·exact⟨hu,hv⟩)
 rw[← hw1,World.size_alloc] at hc
 rw[← hw1] at HAL
 have HC:Hid (Calls Tryz.prog 131 #[.int .i64 18,.slice (some ⟨w.heap.size+1,0,none⟩) 2 2] ((w.alloc (bO s t u v)).alloc (.cells #[.string s,.string t,.string u,.string v] 41))
  (ZP ((w.alloc (bO s t u v)).alloc (.cells #[.string s,.string t,.string u,.string v] 41)) ([(s,t),(u,v)].all (Zh 18)))):=hc
 clear hal hb1 hw1 hs ht hu hv hc
 go_enter Tryz.func130,Tryz.ntmps130
 go_wp2_with fail
 refine HC.out.mono ?_
 rintro e w2 ⟨rfl,hb⟩
 have HB2:=ZnV (HAL.out.trans (hb.mono HAL.out.size))
 clear hb HC HAL
 go_wp2
 go_ret
 exact⟨by simp,HB2.out⟩
section
variable {P:Program} {ops:Array Oper} {Q:Exit→Act→World→Prop} {md:Region.Mode} {S:World→Prop} {bar:Nat→Bool}
def Za0 (P:Program) (ops:Array Oper) (Q:Exit→Act→World→Prop) (S:World→Prop) (bar:Nat→Bool):List (Bool×Nat)→Act→World→Prop
 | [],a,w=>Q .normal a w
 | (true,i)::ks,a,w=>∃ o v,ops[i]?=some o∧YieldsIf P ops S o v a∧Za0 P ops Q S bar ks (a.put o.dst v) w
 | (false,i)::ks,a,w=>∃ o,ops[i]?=some o∧(if Region.wanted o (yielded ops a.tmps) then o.wp P a w (fun a' w'=>(bar i=true∨S w')∧Za0 P ops Q S bar ks a' w') Q
   else (bar i=true∨S w)∧Za0 P ops Q S bar ks (a.put o.dst undef) w)
def ZdP (md:Region.Mode) (ops:Array Oper) (bar:Nat→Bool):List (Bool×Nat)→Array Bool→Bool
 | [],listed=>decide (Region.ready md ops listed=[])
 | (true,k)::ks,listed=>(Region.ready md ops listed).contains k && Region.free md ops listed k && !bar k && ((List.range ops.size).all fun j=>!bar j || decide (j=k) || Region.waitsFor md ops j k) && ZdP md ops bar ks (listed.setIfInBounds k true)
 | (false,k)::ks,listed=>decide (Region.ready md ops listed=[k]) && (!bar k || ks.all fun b=>!b.1) && ZdP md ops bar ks (listed.setIfInBounds k true)
theorem Zdj (hsel:Region.noSelect ops=true) (hQ:∀ c a o v w,Q (.panic c) (a.put o v) w→Q (.panic c) a w) (hbo:∀ j,ops.size≤j→bar j=false) :
  ∀ (ks:List (Bool×Nat)) (listed:Array Bool) (a:Act) (w:World),ZdP md ops bar ks listed=true→
   (S w∨ks.all (fun b=>!b.1)=true)→Za0 P ops Q S bar ks a w→wpJ P md ops Q S bar ks.length listed a w
 | [],listed,a,w,hB,_,h=>⟨of_decide_eq_true hB,h⟩
 | (true,k)::ks,listed,a,w,hB,hS,h=>by
  simp only[ZdP,Bool.and_eq_true] at hB
  obtain⟨⟨⟨⟨hr,hf⟩,hbk⟩,hw⟩,hB'⟩:=hB
  have hSw:S w:=by
   rcases hS with hS | hS
   ·exact hS
   ·simp at hS
  obtain⟨o,v,h0,hy,hrest⟩:=h
  have hbk':bar k=false:=by simpa using hbk
  have hwait:ZhI md ops bar k:=fun j hj hne=>by
   have hjl:j<ops.size:=by
    rcases Nat.lt_or_ge j ops.size with h' | h'
    ·exact h'
    ·rw[hbo j h'] at hj;cases hj
   rw[List.all_eq_true] at hw
   have:=hw j (List.mem_range.2 hjl)
   rw[hj] at this
   simpa[hne] using this
  have ih:=Zdj hsel hQ hbo ks (listed.setIfInBounds k true) (a.put o.dst v) w hB' (.inl hSw) hrest
  rw[List.length_cons]
  exact Zes h0 hsel (fun c a w=>hQ c a o.dst v w) hwait hbk' ks.length listed a w (Region.free_spec h0 hf) (by simpa using hr) hy hSw ih
 | (false,k)::ks,listed,a,w,hB,hS,h=>by
  simp only[ZdP,Bool.and_eq_true,decide_eq_true_eq] at hB
  obtain⟨⟨hr,hbk⟩,hB'⟩:=hB
  obtain⟨o,h0,h⟩:=h
  refine⟨fun h1=>(by rw[hr] at h1;cases h1),fun i hi=>?_⟩
  rw[hr] at hi
  obtain rfl:i=k:=by simpa using hi
  have ih:=fun a' w' (hs:bar i=true∨S w') h'=>Zdj hsel hQ hbo ks (listed.setIfInBounds i true) a' w' hB' (by
   rcases hs with hs | hs
   ·rw[hs] at hbk
    exact .inr (by simpa using hbk)
   ·exact .inl hs) h'
  unfold wpOp
  simp only[h0]
  split at h
  ·rename_i hw;simp only[hw,if_true];exact .inl (Oper.wp_mono (fun a' w' h'=>⟨h'.1,ih a' w' h'.1 h'.2⟩) h)
  ·rename_i hw;simp only[hw];exact⟨h.1,ih _ _ h.1 h.2⟩
def ZdL (l:List Oper) (ks:List (Bool×Nat)) (bar:Nat→Bool):Bool:=
 Region.noSelect l.toArray && decide (ks.length=l.length) && ZdP .any l.toArray bar ks (Array.replicate l.toArray.size false) && Zce l.toArray
theorem Zeu {l:List Oper} (ks:List (Bool×Nat)) (S:World→Prop) (bar:Nat→Bool) (hB:ZdL l ks bar=true) (hbo:∀ j,l.length≤j→bar j=false) (hQ:∀ c a o v w,Q (.panic c) (a.put o v) w→Q (.panic c) a w) {a:Act} {w:World} (hS:S w)
  (H:Za0 P l.toArray Q S bar ks a w):wpAny P .any l.toArray Q l.toArray.size (Array.replicate l.toArray.size false) a w:=by
 simp only[ZdL,Bool.and_eq_true,decide_eq_true_eq] at hB
 obtain⟨⟨⟨hsel,hn⟩,hm⟩,_⟩:=hB
 have:=Zbp _ _ _ _ (Zdj hsel hQ (fun j hj=>hbo j (by simpa using hj)) ks _ a w hm (.inl hS) H)
 rw[hn] at this
 simpa using this
theorem ZZ {id:Nat} {a:Act} {w:World} {l:List Oper} (ks:List (Bool×Nat)) (S:World→Prop) (bar:Nat→Bool) (hm:P.follows .mixedOrders=true)
  (hB:ZdL l ks bar=true) (hbo:∀ j,l.length≤j→bar j=false) (hQ:∀ c a o v w,Q (.panic c) (a.put o v) w→Q (.panic c) a w) (hS:S w.drew)
  (H:Za0 P l.toArray Q S bar ks a w.drew):(Code.region id l.toArray true).wp P Q a w:=
 wp_region_any hm (Zeu ks S bar hB hbo hQ hS H)
theorem Ze {i:Nat} {o:Oper} {ks:List (Bool×Nat)} {a:Act} {w:World} (v:Value) (ho:ops[i]?=some o) (hw:Region.wanted o (yielded ops a.tmps)=true) (hv:∀ w,S w→(execOp a.eval o).run P w=.ok (.value v) w)
  (h:Za0 P ops Q S bar ks (a.put o.dst v) w):Za0 P ops Q S bar ((true,i)::ks) a w:=⟨o,v,ho,.inl ⟨hw,hv⟩,h⟩
theorem Zg {i:Nat} {o:Oper} {ks:List (Bool×Nat)} {a:Act} {w:World} (ho:ops[i]?=some o) (hw:Region.wanted o (yielded ops a.tmps)=true)
  (h:∀ K:Act→World→Prop,(∀ a' w',(bar i=true∨S w')→Za0 P ops Q S bar ks a' w'→K a' w')→o.wp P a w K Q):Za0 P ops Q S bar ((false,i)::ks) a w:=by
 refine⟨o,ho,?_⟩
 rw[if_pos hw]
 exact h _ fun _ _ h1 h2=>⟨h1,h2⟩
theorem Zw {a:Act} {w:World} (h:Q .normal a w):Za0 P ops Q S bar [] a w:=h
end
end Go.Proofs.YtmpaflidennnoaaGreatDoor
