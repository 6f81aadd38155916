/- The parts EffG, Made, Ratio, Vals, LawOps, DetVals, Contains, DShort, Steps. -/
import Derived.Test.YtmpaflidennnoaaGreatDoorH10
set_option maxRecDepth 100000
set_option maxHeartbeats 4000000
set_option linter.unusedVariables false
set_option linter.unusedSimpArgs false
namespace Go.Proofs.YtmpaflidennnoaaGreatDoor
open Go.RowKit Go.Shelf
attribute [local go_sem ↓] Go.wp_at_zero Go.wp_at_succ
def Made (s t x y:ByteArray) (e:Int):Prop:=
 ((ZW s.data.toList && ZW t.data.toList)=false/\x=str []/\y=str []/\e=2)\/
 ((ZW s.data.toList && ZW t.data.toList)=true/\Zq t.data.toList=0/\x=str []/\y=str []/\e=10)\/
 ((ZW s.data.toList && ZW t.data.toList)=true/\0<Zq t.data.toList/\Ans (ratP s t) x y e)
theorem Zm0 (s t:ByteArray) (w:World) (hs:s.size<=1000000) (ht:t.size<=1000000) (hT:Tabs w) :
  Calls Tryz.prog 159 #[.string s,.string t] w (ZL (Made s t) w):=by
 have HT:=Zpe hT
 clear hT
 cases h1:ZW s.data.toList
 ·have H1:=Zpe h1
  clear h1
  go_enter Tryz.func159,Tryz.ntmps159
  go_wp2_with fail
  obtain⟨w1,hw1⟩:=Zpg (w.alloc (Zpc Zpa Zpa))
  rw[hw1]
  have HX1:Hid (Zv w.heap.size [Zpc Zpa Zpa] w1):=by rw[<- hw1];exact Zv.one w _
  have HB1:Zo8 w w1:=by rw[<- hw1];exact(Zoq _ w).alloc Zpf _
  clear hw1
  refine(ZaH s _ hs).mono ?_
  rintro e w2 ⟨rfl,hb2⟩
  rw[H1.out]
  have HX2:=Zpe (HX1.out.below hb2 HX1.out.lt)
  have HB2:=Zpe (HB1.out.trans (hb2.mono HB1.out.size))
  clear hb2
  have r0:=HX2.out.cell 0 0 (b:=w.heap.size) rfl rfl rfl
  have r1:=HX2.out.cell 0 1 (b:=w.heap.size) rfl rfl rfl
  have f0:=HX2.out.free 0 0 (b:=w.heap.size) rfl rfl
  have f1:=HX2.out.free 0 1 (b:=w.heap.size) rfl rfl
  go_wp2
  have q:=Zu (HX2.out.block 0 (b:=w.heap.size) rfl rfl) (.string Zpa) (.string Zpa)
  have HBQ:=Zpe (Zs HB2.out (b:=w.heap.size) Za (.string Zpa) (.string Zpa))
  obtain⟨w9,hw9⟩:=Zpg ((w2.setCell ⟨w.heap.size,0,none⟩ (.string Zpa)).setCell ⟨w.heap.size,1,none⟩ (.string Zpa))
  rw[hw9] at q HBQ
  obtain⟨q0,q1⟩:=q
  rw[hw9]
  clear r0 r1 f0 f1 hw9
  go_wp2
  refine Zor (v:=.tuple #[Zpb Zpa Zpa,.int .i64 2]) (by simp[results,Tryz.f159,go_sem,q0,q1]) rfl ⟨_,_,_,rfl,?_,HBQ.out⟩
  exact .inl ⟨by rw[H1.out];rfl,rfl,rfl,rfl⟩
 ·have H1:=Zpe h1
  clear h1
  cases h2:ZW t.data.toList
  ·have H2:=Zpe h2
   clear h2
   go_enter Tryz.func159,Tryz.ntmps159
   go_wp2_with fail
   obtain⟨w1,hw1⟩:=Zpg (w.alloc (Zpc Zpa Zpa))
   rw[hw1]
   have HX1:Hid (Zv w.heap.size [Zpc Zpa Zpa] w1):=by rw[<- hw1];exact Zv.one w _
   have HB1:Zo8 w w1:=by rw[<- hw1];exact(Zoq _ w).alloc Zpf _
   clear hw1
   refine(ZaH s _ hs).mono ?_
   rintro e w2 ⟨rfl,hb2⟩
   rw[H1.out]
   have HX2:=Zpe (HX1.out.below hb2 HX1.out.lt)
   have HB2:=Zpe (HB1.out.trans (hb2.mono HB1.out.size))
   clear hb2
   go_wp2_with fail
   refine(ZaH t _ ht).mono ?_
   rintro e w3 ⟨rfl,hb3⟩
   rw[H2.out]
   have HX3:=Zpe (HX2.out.below hb3 HX2.out.lt)
   have HB3:=Zpe (HB2.out.trans (hb3.mono HB2.out.size))
   clear hb3
   have r0:=HX3.out.cell 0 0 (b:=w.heap.size) rfl rfl rfl
   have r1:=HX3.out.cell 0 1 (b:=w.heap.size) rfl rfl rfl
   have f0:=HX3.out.free 0 0 (b:=w.heap.size) rfl rfl
   have f1:=HX3.out.free 0 1 (b:=w.heap.size) rfl rfl
   go_wp2
   have q:=Zu (HX3.out.block 0 (b:=w.heap.size) rfl rfl) (.string Zpa) (.string Zpa)
   have HBQ:=Zpe (Zs HB3.out (b:=w.heap.size) Za (.string Zpa) (.string Zpa))
   obtain⟨w9,hw9⟩:=Zpg ((w3.setCell ⟨w.heap.size,0,none⟩ (.string Zpa)).setCell ⟨w.heap.size,1,none⟩ (.string Zpa))
   rw[hw9] at q HBQ
   obtain⟨q0,q1⟩:=q
   rw[hw9]
   clear r0 r1 f0 f1 hw9
   go_wp2
   refine Zor (v:=.tuple #[Zpb Zpa Zpa,.int .i64 2]) (by simp[results,Tryz.f159,go_sem,q0,q1]) rfl ⟨_,_,_,rfl,?_,HBQ.out⟩
   exact .inl ⟨by rw[H2.out,Bool.and_false],rfl,rfl,rfl⟩
  ·have HZ:=Zpe (ZcN h2)
   have H2:=Zpe h2
   clear h2
   have dl:t.toList=t.data.toList:=ZoN ..
   by_cases h0:Zq t.data.toList=0
   ·have hz:(t.toList==[48])=true:=by
     rw[dl,HZ.out.2 h0];rfl
    have H0:=Zpe h0
    clear h0 dl
    go_enter Tryz.func159,Tryz.ntmps159
    go_wp2_with fail
    obtain⟨w1,hw1⟩:=Zpg (w.alloc (Zpc Zpa Zpa))
    rw[hw1]
    have HX1:Hid (Zv w.heap.size [Zpc Zpa Zpa] w1):=by rw[<- hw1];exact Zv.one w _
    have HB1:Zo8 w w1:=by rw[<- hw1];exact(Zoq _ w).alloc Zpf _
    clear hw1
    refine(ZaH s _ hs).mono ?_
    rintro e w2 ⟨rfl,hb2⟩
    rw[H1.out]
    have HX2:=Zpe (HX1.out.below hb2 HX1.out.lt)
    have HB2:=Zpe (HB1.out.trans (hb2.mono HB1.out.size))
    clear hb2
    go_wp2_with fail
    refine(ZaH t _ ht).mono ?_
    rintro e w3 ⟨rfl,hb3⟩
    rw[H2.out]
    have HX3:=Zpe (HX2.out.below hb3 HX2.out.lt)
    have HB3:=Zpe (HB2.out.trans (hb3.mono HB2.out.size))
    clear hb3
    have r0:=HX3.out.cell 0 0 (b:=w.heap.size) rfl rfl rfl
    have r1:=HX3.out.cell 0 1 (b:=w.heap.size) rfl rfl rfl
    have f0:=HX3.out.free 0 0 (b:=w.heap.size) rfl rfl
    have f1:=HX3.out.free 0 1 (b:=w.heap.size) rfl rfl
    go_wp2
    have q:=Zu (HX3.out.block 0 (b:=w.heap.size) rfl rfl) (.string Zpa) (.string Zpa)
    have HBQ:=Zpe (Zs HB3.out (b:=w.heap.size) Za (.string Zpa) (.string Zpa))
    obtain⟨w9,hw9⟩:=Zpg ((w3.setCell ⟨w.heap.size,0,none⟩ (.string Zpa)).setCell ⟨w.heap.size,1,none⟩ (.string Zpa))
    rw[hw9] at q HBQ
    obtain⟨q0,q1⟩:=q
    rw[hw9]
    clear r0 r1 f0 f1 hw9
    go_wp2
    refine Zor (v:=.tuple #[Zpb Zpa Zpa,.int .i64 10]) (by simp[results,Tryz.f159,go_sem,q0,q1]) rfl ⟨_,_,_,rfl,?_,HBQ.out⟩
    exact .inr (.inl ⟨by rw[H1.out,H2.out];rfl,H0.out,rfl,rfl,rfl⟩)
   ·have hz:(t.toList==[48])=false:=by
     rw[beq_eq_false_iff_ne,dl]
     intro hc
     refine h0 (HZ.out.1 ?_)
     rw[<- ZaZ t,hc];rfl
    have H0:=Zpe h0
    clear h0 dl
    obtain⟨cs1,cs2⟩:=Zak H1.out
    obtain⟨ct1,ct2⟩:=Zak H2.out
    have hls:=Zb1 cs1.dig (j:=70) (by rw[<- Zz];omega)
    have hlt:=Zb1 ct1.dig (j:=70) (by rw[<- Zz];omega)
    have HDS:=Zpe cs1.dig
    have HDT:=Zpe ct1.dig
    clear cs1 cs2 ct1 ct2
    go_enter Tryz.func159,Tryz.ntmps159
    go_wp2_with fail
    obtain⟨w1,hw1⟩:=Zpg (w.alloc (Zpc Zpa Zpa))
    rw[hw1]
    have HX1:Hid (Zv w.heap.size [Zpc Zpa Zpa] w1):=by rw[<- hw1];exact Zv.one w _
    have HB1:Zo8 w w1:=by rw[<- hw1];exact(Zoq _ w).alloc Zpf _
    clear hw1
    refine(ZaH s _ hs).mono ?_
    rintro e w2 ⟨rfl,hb2⟩
    rw[H1.out]
    have HX2:=Zpe (HX1.out.below hb2 HX1.out.lt)
    have HB2:=Zpe (HB1.out.trans (hb2.mono HB1.out.size))
    clear hb2
    go_wp2_with fail
    refine(ZaH t _ ht).mono ?_
    rintro e w3 ⟨rfl,hb3⟩
    rw[H2.out]
    have HX3:=Zpe (HX2.out.below hb3 HX2.out.lt)
    have HB3:=Zpe (HB2.out.trans (hb3.mono HB2.out.size))
    clear hb3
    go_wp2_with fail
    refine(Zgt s hs HDS.out _).mono ?_
    rintro e w4 ⟨vn,rfl,hN,hb4⟩
    obtain⟨pn,ln,cn,rfl⟩:=hN.form'
    have HN4:=Zpe hN
    have HX4:=Zpe (HX3.out.below hb4 HX3.out.lt)
    have HB4:=Zpe (HB3.out.trans (hb4.mono HB3.out.size))
    clear hN hb4
    go_wp2_with fail
    refine(Zgt t ht HDT.out _).mono ?_
    rintro e w5 ⟨vd,rfl,hD,hb5⟩
    obtain⟨pd,ld,cd,rfl⟩:=hD.form'
    have HD5:=Zpe hD
    have HN5:=Zpe (HN4.out.after hb5 Zpf)
    have HX5:=Zpe (HX4.out.below hb5 HX4.out.lt)
    have HB5:=Zpe (HB4.out.trans (hb5.mono HB4.out.size))
    clear hD hb5
    go_wp2_with fail
    refine(ZdK HN5.out HD5.out Za Za (by have:=H0.out;omega) (HT.out.below HB5.out Zpf)).mono ?_
    rintro e w6 ⟨x,y,n,rfl,hR,hb6⟩
    have HR:=Zpe hR
    have HX6:=Zpe (HX5.out.below hb6 HX5.out.lt)
    have HB6:=Zpe (HB5.out.trans (hb6.mono HB5.out.size))
    clear hR hb6
    have r0:=HX6.out.cell 0 0 (b:=w.heap.size) rfl rfl rfl
    have r1:=HX6.out.cell 0 1 (b:=w.heap.size) rfl rfl rfl
    have f0:=HX6.out.free 0 0 (b:=w.heap.size) rfl rfl
    have f1:=HX6.out.free 0 1 (b:=w.heap.size) rfl rfl
    go_wp2
    have q:=Zu (HX6.out.block 0 (b:=w.heap.size) rfl rfl) (.string x) (.string y)
    have HBQ:=Zpe (Zs HB6.out (b:=w.heap.size) Za (.string x) (.string y))
    obtain⟨w9,hw9⟩:=Zpg ((w6.setCell ⟨w.heap.size,0,none⟩ (.string x)).setCell ⟨w.heap.size,1,none⟩ (.string y))
    rw[hw9] at q HBQ
    obtain⟨q0,q1⟩:=q
    rw[hw9]
    clear r0 r1 f0 f1 hw9
    go_wp2
    refine Zor (v:=.tuple #[Zpb x y,.int .i64 n]) (by simp[results,Tryz.f159,go_sem,q0,q1]) rfl ⟨_,_,_,rfl,?_,HBQ.out⟩
    exact .inr (.inr ⟨by rw[H1.out,H2.out];rfl,by have:=H0.out;omega,HR.out⟩)
def ZlB (n:Int) (w:World) (e:Ending) (w':World):Prop:=
 ∃ s r,e=.returned (.tuple #[.string s,.int .i64 r])/\((n<0/\s=str []/\r=11)\/(0<=n/\s=str (Lib.decDigits n.toNat)/\r=0))/\Below w.heap.size w w'
theorem ZjH {n:Int} (h:0<=n):Lib.itoa n=Lib.decDigits n.toNat:=by
 unfold Lib.itoa
 rw[if_neg Za]
theorem Zhs (n:Int) (h0 : -9223372036854775808<=n) (h1:n<=9223372036854775807) (w:World) (hT:Tabs w) :
  Calls Tryz.prog 158 #[.int .i64 n] w (ZlB n w):=by
 have HI:=Zpe (Tryz.strconv_Itoa n h0 h1 w hT)
 have HT:=Zpe hT
 have H01:=Zpe (Zo5 h0 h1)
 clear hT h0 h1
 by_cases hn:n<0
 ·go_enter Tryz.func158,Tryz.ntmps158
  go_wp2
  go_ret2
  exact⟨_,_,rfl,.inl ⟨hn,rfl,rfl⟩,Zoq _ _⟩
 ·go_enter Tryz.func158,Tryz.ntmps158
  go_wp2_with fail
  refine HI.out.mono ?_
  rintro e w2 ⟨rfl,k,os,hw⟩
  have HB:Zo8 w w2:=by rw[hw];exact Lib.below_grow _ _ Zpf _ _
  clear hw
  obtain⟨s,hs⟩:=Zpg ((⟨(Lib.itoa n).toArray⟩:ByteArray))
  rw[hs]
  have HS:Hid (s=str (Lib.decDigits n.toNat)):=by show _=_;rw[<- hs,ZjH Za];rfl
  clear hs
  go_wp2
  go_ret2
  exact⟨_,_,rfl,.inr ⟨Za,HS.out,rfl⟩,HB.out⟩
def Zid (a b:Int) (x y:ByteArray) (e:Int):Prop:=
 ((a<0\/b<0)/\x=str []/\y=str []/\e=11)\/(0<=a/\b=0/\x=str []/\y=str []/\e=10)\/(0<=a/\0<b/\Ans (mkRat (a.toNat:Nat) b.toNat) x y e)
theorem Ze9 {n:Nat} (h:(Lib.decDigits n).length<=600):ZW (Lib.decDigits n)=true:=ZcO (ZcF n) h
theorem Zjr {a b:Nat} (ha:(Lib.decDigits a).length<=600) (hb:(Lib.decDigits b).length<=600) {x y:ByteArray} {e:Int} (h:Made (str (Lib.decDigits a)) (str (Lib.decDigits b)) x y e) :
  (b=0/\x=str []/\y=str []/\e=10)\/(0<b/\Ans (mkRat (a:Nat) b) x y e):=by
 unfold Made ratP at h
 rw[Zbo,Zbo,Ze9 ha,Ze9 hb,ZaA,ZaA] at h
 rcases h with ⟨h,_⟩ | ⟨_,h0,h1,h2,h3⟩ | ⟨_,h0,h1⟩
 ·cases h
 ·exact .inl ⟨h0,h1,h2,h3⟩
 ·exact .inr ⟨h0,h1⟩
theorem ZdA {n:Int} (h:n<=9223372036854775807):(Lib.decDigits n.toNat).length<=600:=Zoz (Z5 (k:=20) Za Za) Za
theorem Zgx {a b:Int} (h0:0<=a) (h1:0<=b) (ha:a<=9223372036854775807) (hb:b<=9223372036854775807) {s t x y:ByteArray} {e:Int} (hs:s=str (Lib.decDigits a.toNat)) (ht:t=str (Lib.decDigits b.toNat)) (h:Made s t x y e):Zid a b x y e:=by
 subst hs;subst ht
 rcases Zjr (ZdA ha) (ZdA hb) h with ⟨k1,k2,k3,k4⟩ | ⟨k1,k2⟩
 ·exact .inr (.inl ⟨h0,Za,k2,k3,k4⟩)
 ·exact .inr (.inr ⟨h0,Za,k2⟩)
theorem Zhw (a b:Int) (ha0 : -9223372036854775808<=a) (ha1:a<=9223372036854775807) (hb0 : -9223372036854775808<=b) (hb1:b<=9223372036854775807) (w:World) (hT:Tabs w) :
  Calls Tryz.prog 107 #[.int .i64 a,.int .i64 b] w (ZL (Zid a b) w):=by
 have HT:=Zpe hT
 clear hT
 go_enter Tryz.func107,Tryz.ntmps107
 go_wp2_with fail
 obtain⟨w1,hw1⟩:=Zpg (w.alloc (Zpc Zpa Zpa))
 rw[hw1]
 have HX1:Hid (Zv w.heap.size [Zpc Zpa Zpa] w1):=by rw[<- hw1];exact Zv.one w _
 have HB1:Zo8 w w1:=by rw[<- hw1];exact(Zoq _ w).alloc Zpf _
 clear hw1
 refine(Zhs a ha0 ha1 _ (HT.out.below HB1.out Zpf)).mono ?_
 rintro e w2 ⟨s,r1,rfl,hR1,hb2⟩
 have HX2:=Zpe (HX1.out.below hb2 HX1.out.lt)
 have HB2:=Zpe (HB1.out.trans (hb2.mono HB1.out.size))
 have HR1:=Zpe hR1
 clear hb2 hR1
 go_wp2_with fail
 refine(Zhs b hb0 hb1 _ (HT.out.below HB2.out Zpf)).mono ?_
 rintro e w3 ⟨t,r2,rfl,hR2,hb3⟩
 have HX3:=Zpe (HX2.out.below hb3 HX2.out.lt)
 have HB3:=Zpe (HB2.out.trans (hb3.mono HB2.out.size))
 have HR2:=Zpe hR2
 clear hb3 hR2
 by_cases hneg:a<0\/b<0
 ·
  have r0:=HX3.out.cell 0 0 (b:=w.heap.size) rfl rfl rfl
  have r1:=HX3.out.cell 0 1 (b:=w.heap.size) rfl rfl rfl
  have f0:=HX3.out.free 0 0 (b:=w.heap.size) rfl rfl
  have f1:=HX3.out.free 0 1 (b:=w.heap.size) rfl rfl
  rcases HR1.out with ⟨k1,k2,rfl⟩ | ⟨k1,k2,rfl⟩
  ·clear k1 k2
   go_wp2
   have q:=Zu (HX3.out.block 0 (b:=w.heap.size) rfl rfl) (.string Zpa) (.string Zpa)
   have HBQ:=Zpe (Zs HB3.out (b:=w.heap.size) Za (.string Zpa) (.string Zpa))
   obtain⟨w9,hw9⟩:=Zpg ((w3.setCell ⟨w.heap.size,0,none⟩ (.string Zpa)).setCell ⟨w.heap.size,1,none⟩ (.string Zpa))
   rw[hw9] at q HBQ
   obtain⟨q0,q1⟩:=q
   rw[hw9]
   clear r0 r1 f0 f1 hw9
   go_wp2
   refine Zor (v:=.tuple #[Zpb Zpa Zpa,.int .i64 11]) (by simp[results,Tryz.f107,go_sem,q0,q1]) rfl ⟨_,_,_,rfl,?_,HBQ.out⟩
   exact .inl ⟨hneg,rfl,rfl,rfl⟩
  ·rcases HR2.out with ⟨m1,m2,rfl⟩ | ⟨m1,m2,rfl⟩
   ·clear k1 k2 m1 m2
    go_wp2
    have q:=Zu (HX3.out.block 0 (b:=w.heap.size) rfl rfl) (.string Zpa) (.string Zpa)
    have HBQ:=Zpe (Zs HB3.out (b:=w.heap.size) Za (.string Zpa) (.string Zpa))
    obtain⟨w9,hw9⟩:=Zpg ((w3.setCell ⟨w.heap.size,0,none⟩ (.string Zpa)).setCell ⟨w.heap.size,1,none⟩ (.string Zpa))
    rw[hw9] at q HBQ
    obtain⟨q0,q1⟩:=q
    rw[hw9]
    clear r0 r1 f0 f1 hw9
    go_wp2
    refine Zor (v:=.tuple #[Zpb Zpa Zpa,.int .i64 11]) (by simp[results,Tryz.f107,go_sem,q0,q1]) rfl ⟨_,_,_,rfl,?_,HBQ.out⟩
    exact .inl ⟨hneg,rfl,rfl,rfl⟩
   ·exfalso;omega
 ·have hz:r1=0/\r2=0/\Hid (s=str (Lib.decDigits a.toNat))/\Hid (t=str (Lib.decDigits b.toNat))/\0<=a/\0<=b:=by
   rcases HR1.out with ⟨k1,k2,k3⟩ | ⟨k1,k2,k3⟩
   ·omega
   ·rcases HR2.out with ⟨m1,m2,m3⟩ | ⟨m1,m2,m3⟩
    ·omega
    ·exact⟨k3,m3,k2,m2,k1,m1⟩
  obtain⟨rfl,rfl,HS,HU,ka,kb⟩:=hz
  have hs:s.size<=1000000:=by rw[HS.out,Zaz];exact Zoz (ZdA ha1) Za
  have ht:t.size<=1000000:=by rw[HU.out,Zaz];exact Zoz (ZdA hb1) Za
  clear hneg
  go_wp2_with fail
  refine(Zm0 s t _ hs ht (HT.out.below HB3.out Zpf)).mono ?_
  rintro e w4 ⟨x,y,n,rfl,hR,hb4⟩
  have HR:=Zpe hR
  have HX4:=Zpe (HX3.out.below hb4 HX3.out.lt)
  have HB4:=Zpe (HB3.out.trans (hb4.mono HB3.out.size))
  clear hR hb4
  have r0:=HX4.out.cell 0 0 (b:=w.heap.size) rfl rfl rfl
  have r1:=HX4.out.cell 0 1 (b:=w.heap.size) rfl rfl rfl
  have f0:=HX4.out.free 0 0 (b:=w.heap.size) rfl rfl
  have f1:=HX4.out.free 0 1 (b:=w.heap.size) rfl rfl
  go_wp2
  have q:=Zu (HX4.out.block 0 (b:=w.heap.size) rfl rfl) (.string x) (.string y)
  have HBQ:=Zpe (Zs HB4.out (b:=w.heap.size) Za (.string x) (.string y))
  obtain⟨w9,hw9⟩:=Zpg ((w4.setCell ⟨w.heap.size,0,none⟩ (.string x)).setCell ⟨w.heap.size,1,none⟩ (.string y))
  rw[hw9] at q HBQ
  obtain⟨q0,q1⟩:=q
  rw[hw9]
  clear r0 r1 f0 f1 hw9
  go_wp2
  refine Zor (v:=.tuple #[Zpb x y,.int .i64 n]) (by simp[results,Tryz.f107,go_sem,q0,q1]) rfl ⟨_,_,_,rfl,?_,HBQ.out⟩
  exact Zgx ka kb ha1 hb1 HS.out HU.out HR.out
abbrev pObj (x y:ByteArray):Obj:=.cells #[.string x,.string y] 41
def ZV (v:Value) (w:World) (e:Ending) (w':World):Prop:=e=.returned v/\Below w.heap.size w w'
abbrev pV (s t:ByteArray):Value:=.agg #[.string s,.string t]
theorem Zn0 (w:World) (s t u v:ByteArray):PL (w.alloc (.cells #[.string s,.string t,.string u,.string v] 41)) (.slice (some ⟨w.heap.size,0,none⟩) 2 2) [(s,t),(u,v)]:=by
 refine⟨_,2,rfl,Nat.le_refl _,by simp[maxLen],fun _=>⟨_,0,rfl,Zc,fun j hj=>?_⟩⟩
 match j,hj with
 | 0,_=>exact⟨ZK _ _ _ 0 rfl,ZK _ _ _ 1 rfl⟩
 | 1,_=>exact⟨ZK _ _ _ 2 rfl,ZK _ _ _ 3 rfl⟩
 | j+2,h=>simp at h;try omega
theorem IsP.le {q:Rat} {s t:ByteArray} (h:IsP q s t):s.size<=1000000/\t.size<=1000000:=by
 obtain⟨h1,h2⟩:=h.fits
 rw[h.num,h.den,Zaz,Zaz]
 exact⟨Zoz h1 Zd,Zoz h2 Zd⟩
theorem IsP.oks {q r:Rat} {s t u v:ByteArray} (h:IsP q s t) (k:IsP r u v):(okP s t && okP u v)=true:=by rw[h.ok,k.ok];rfl
theorem IsP.one {q:Rat} {s t u v:ByteArray} (h:IsP q s t) (k:IsP q u v):s=u/\t=v:=⟨by rw[h.num,k.num],by rw[h.den,k.den]⟩
theorem Zcf {q p:Rat} {x y u v:ByteArray} {n:Int} (h:Ans q u v n) (hx:IsP p x y) (hq:q=p):u=x/\v=y/\n=0:=by
 subst hq
 obtain⟨h1,h2⟩:=h.fit hx.fits
 obtain⟨h3,h4⟩:=h1.one hx
 exact⟨h3,h4,h2⟩
theorem Zi1 {q r p:Rat} {s t u v x y:ByteArray} (ha:IsP q s t) (hb:IsP r u v) (hx:IsP p x y) (hq:q+r=p) (w:World) (hT:Tabs w) :
  Calls Tryz.prog 42 #[pV s t,pV u v] w (ZV (.tuple #[pV x y,.int .i64 0]) w):=by
 refine(Zkb s t u v w ha.le.1 ha.le.2 hb.le.1 hb.le.2 hT).mono ?_
 rintro e w' ⟨x',y',n,rfl,h,hbb⟩
 rcases h with ⟨h,_⟩ | ⟨_,h⟩
 ·rw[ha.oks hb] at h;cases h
 ·rw[ha.rat,hb.rat] at h
  obtain⟨rfl,rfl,rfl⟩:=Zcf h hx hq
  exact⟨rfl,hbb⟩
theorem ZdL {q r p:Rat} {s t u v x y:ByteArray} (ha:IsP q s t) (hb:IsP r u v) (hx:IsP p x y) (hq:q*r=p) (w:World) (hT:Tabs w) :
  Calls Tryz.prog 119 #[pV s t,pV u v] w (ZV (.tuple #[pV x y,.int .i64 0]) w):=by
 refine(Znx s t u v w ha.le.1 ha.le.2 hb.le.1 hb.le.2 hT).mono ?_
 rintro e w' ⟨x',y',n,rfl,h,hbb⟩
 rcases h with ⟨h,_⟩ | ⟨_,h⟩
 ·rw[ha.oks hb] at h;cases h
 ·rw[ha.rat,hb.rat] at h
  obtain⟨rfl,rfl,rfl⟩:=Zcf h hx hq
  exact⟨rfl,hbb⟩
theorem ZdT {q r p:Rat} {s t u v x y:ByteArray} (ha:IsP q s t) (hb:IsP r u v) (hx:IsP p x y) (hq:q-r=p) (w:World) (hT:Tabs w) :
  Calls Tryz.prog 104 #[pV s t,pV u v] w (ZV (.tuple #[pV x y,.int .i64 0]) w):=by
 refine(Znw s t u v w ha.le.1 ha.le.2 hb.le.1 hb.le.2 hT).mono ?_
 rintro e w' ⟨x',y',n,rfl,h,hbb⟩
 rcases h with ⟨h,_⟩ | ⟨_,h⟩
 ·rw[ha.oks hb] at h;cases h
 ·rw[ha.rat,hb.rat] at h
  rcases h with ⟨h,_⟩ | ⟨_,h⟩
  ·have:=hx.nn;grind
  ·obtain⟨rfl,rfl,rfl⟩:=Zcf h hx hq
   exact⟨rfl,hbb⟩
theorem ZiT {q r p:Rat} {s t u v x y:ByteArray} (ha:IsP q s t) (hb:IsP r u v) (hx:IsP p x y) (h0:0<r) (hq:q/r=p) (w:World) (hT:Tabs w) :
  Calls Tryz.prog 169 #[pV s t,pV u v] w (ZV (.tuple #[pV x y,.int .i64 0]) w):=by
 refine(Zns s t u v w ha.le.1 ha.le.2 hb.le.1 hb.le.2 hT).mono ?_
 rintro e w' ⟨x',y',n,rfl,h,hbb⟩
 rcases h with ⟨h,_⟩ | ⟨_,h⟩
 ·rw[ha.oks hb] at h;cases h
 ·rw[ha.rat,hb.rat] at h
  rcases h with ⟨h,_⟩ | ⟨_,h⟩
  ·grind
  ·obtain⟨rfl,rfl,rfl⟩:=Zcf h hx hq
   exact⟨rfl,hbb⟩
theorem ZbH {q r:Rat} {n:Int} {s t u v:ByteArray} (ha:IsP q s t) (hb:IsP r u v) (hn:sgnR q r=n) (w:World) :
  Calls Tryz.prog 22 #[pV s t,pV u v] w (ZV (.int .i64 n) w):=by
 refine(ZjB s t u v w ha.le.1 ha.le.2 hb.le.1 hb.le.2).mono ?_
 rintro e w' ⟨m,rfl,h,hbb⟩
 rcases h with ⟨h,_⟩ | ⟨_,h⟩
 ·rw[ha.oks hb] at h;cases h
 ·rw[ha.rat,hb.rat,hn] at h
  subst h
  exact⟨rfl,hbb⟩
theorem ZmC {q:Rat} {s t:ByteArray} (h:IsP q s t) (h0:s=⟨#[48]⟩):q=0:=by
 have h1:=h.vals.1
 rw[h0] at h1
 have h2:Zq (⟨#[48]⟩:ByteArray).data.toList=0:=Zd
 rw[h2] at h1
 have h3:=Zac h.nn
 rw[<- h1] at h3
 exact Rat.num_eq_zero.1 h3.symm
structure DetV (w:World):Prop where
 z0:w.cell? ⟨1,0,none⟩=some (.string ⟨#[48]⟩)
 z1:w.cell? ⟨1,1,none⟩=some (.string ⟨#[49]⟩)
 o0:w.cell? ⟨2,0,none⟩=some (.string ⟨#[49]⟩)
 o1:w.cell? ⟨2,1,none⟩=some (.string ⟨#[49]⟩)
theorem DetV.below {w w':World} {B:Nat} (h:DetV w) (hb:Below B w w') (hB:w.heap.size<=B):DetV w':=
 ⟨(hb.cell (Zox (ZoK _ _ h.z0) hB)).trans h.z0,(hb.cell (Zox (ZoK _ _ h.z1) hB)).trans h.z1,
  (hb.cell (Zox (ZoK _ _ h.o0) hB)).trans h.o0,(hb.cell (Zox (ZoK _ _ h.o1) hB)).trans h.o1⟩
theorem Zbz (n low high:Int) (w:World):Calls Tryz.prog 128 #[.int .i64 n,.int .i64 low,.int .i64 high] w (Z3 w (decide (low<=n) && decide (n<=high))):=by
 by_cases h1:low<=n
 ·by_cases h2:n<=high
  ·go_enter Tryz.func128,Tryz.ntmps128
   go_wp2
   go_ret
   exact⟨by simp[h1,h2],Zoq _ _⟩
  ·go_enter Tryz.func128,Tryz.ntmps128
   go_wp2
   go_ret
   exact⟨by simp[h1,h2],Zoq _ _⟩
 ·go_enter Tryz.func128,Tryz.ntmps128
  go_wp2
  go_ret
  exact⟨by rw[decide_eq_false (show ¬ low<=n by omega)];rfl,Zoq _ _⟩
def ZiY (n:Int):Ending:=.panicked [{ v:=.iface 258 (.agg #[.int .i64 n]),recovered:=false }]
def Zn9 (s t:ByteArray) (n:Int) (w:World) (e:Ending) (w':World):Prop:=
 ((n=0/\e=.returned (Zpb s t))\/(n≠0/\e=ZiY n))/\Below w.heap.size w w'
theorem Zmh (s t:ByteArray) (n:Int) (w:World):Calls Tryz.prog 180 #[Zpb s t,.int .i64 n] w (Zn9 s t n w):=by
 by_cases hn:n=0
 ·have h0:(n !=0)=false:=by rw[bne_eq_false_iff_eq];exact hn
  have H0:=Zpe hn
  clear hn
  go_enter Tryz.func180,Tryz.ntmps180
  go_wp2
  refine Zor (v:=Zpb s t) (by simp[results,Tryz.f180,go_sem]) rfl ⟨.inl ⟨H0.out,rfl⟩,((Zoq _ w).alloc Zpf _).alloc Zc _⟩
 ·have h0:(n !=0)=true:=by rw[bne_iff_ne];exact hn
  have H0:=Zpe hn
  clear hn
  go_enter Tryz.func180,Tryz.ntmps180
  go_wp2
  refine⟨rfl,.inr ⟨H0.out,rfl⟩,((Zoq _ w).alloc Zpf _).alloc Zc _⟩
theorem ZbD (s t:ByteArray) (w:World):Calls Tryz.prog 180 #[pV s t,.int .i64 0] w (ZV (pV s t) w):=
 (Zmh s t 0 w).mono fun e w' ⟨h,hb⟩=>by
  rcases h with ⟨_,rfl⟩ | ⟨h,_⟩
  ·exact⟨rfl,hb⟩
  ·exact Zo4 rfl h
def Zkc (w:World) (n:Nat) (f:Nat->Bool) (e:Ending) (w':World):Prop:=
 ∃ i:Int,e=.returned (.int .i64 i)/\((0<=i/\∃ k,k<n/\f k=true)\/(i = -1/\∀ k,k<n->f k=false))/\Below w.heap.size w w'
def Zed (w:World) (n:Nat) (f:Nat->Bool) (e:Ending) (w':World):Prop:=
 ∃ b:Bool,e=.returned (.bool b)/\((b=true/\∃ k,k<n/\f k=true)\/(b=false/\∀ k,k<n->f k=false))/\Below w.heap.size w w'
theorem Zky {g:Nat} {caps:Array Value} (hent:∀ args w,(callFunc g args).run Tryz.prog w=.ok (.enter g args) w) {f:Nat->Bool} {v:Value} {bs:List BB} {n:Nat} {w:World} (hv:BL w v bs) (hn:bs.length=n)
  (hf:∀ k,k<n->∀ W,Below w.heap.size w W->Calls Tryz.prog g (#[bV (bAt bs k)]++caps) W (Z3 W (f k))) :
  Calls Tryz.prog 177 #[v,.func (.func g) #[] caps] w (Zkc w n f):=by
 obtain⟨p,c,rfl⟩:∃ p c,v=.slice p n c:=by obtain⟨p,c,h,_⟩:=id hv;exact⟨_,_,by rw[<- hn];exact h⟩
 obtain⟨_,hc,hnc⟩:=hv.len
 have HV:=Zpe hv
 have HN:=Zpe hn
 have HF:=Zpe hf
 clear hv hn hf
 go_enter Tryz.func177,Tryz.ntmps177
 go_wp2
 go_loopw [8] (fun i wr=>∃ (k:Nat),i=.int .i64 k/\k<=n/\Hid (∀ j,j<k->f j=false)/\Zo8 w wr) (fun i _=>n-(intOf i).toNat)
 case atStart=>exact⟨0,rfl,ZoD _,fun j h=>Za,Zoq _ _⟩
 case round=>
  obtain⟨k,rfl,hk,HK,HB⟩:=hrel
  by_cases hlt:k<n
  ·obtain⟨b,o,rfl,_,hat⟩:=HV.out.at HN.out Za
   obtain⟨e0,e1,e2,e3⟩:=hat wr HB.out k hlt
   have hF:∀ W,Below w.heap.size w W->Calls Tryz.prog g (#[.agg #[.string (bAt bs k).1.1,.string (bAt bs k).1.2,.string (bAt bs k).2.1,.string (bAt bs k).2.2]]++caps) W (Z3 W (f k)):=HF.out k hlt
   obtain⟨s,hs⟩:=Zpg ((bAt bs k).1.1)
   obtain⟨t,ht⟩:=Zpg ((bAt bs k).1.2)
   obtain⟨x,hx⟩:=Zpg ((bAt bs k).2.1)
   obtain⟨y,hy⟩:=Zpg ((bAt bs k).2.2)
   rw[hs] at e0
   rw[ht] at e1
   rw[hx] at e2
   rw[hy] at e3
   rw[hs,ht,hx,hy] at hF
   have HG:=Zpe hF
   clear hF hat hs ht hx hy
   obtain⟨r,hr⟩:=Zpg (f k)
   have HR:=Zpe hr
   clear hr
   go_wp2_with fail
   refine(HG.out _ HB.out).mono ?_
   rintro e w2 ⟨rfl,hb⟩
   rw[HR.out]
   have HB2:=Zpe (HB.out.trans (hb.mono HB.out.size))
   clear hb e0 e1 e2 e3
   cases r
   ·have HK2:Hid (∀ j,j<k+1->f j=false):=fun j h=>by
     rcases Zow j k with h3 | h3
     ·exact HK.out j h3
     ·obtain rfl:j=k:=Za
      exact HR.out
    go_wp2
    go_roundw
    case rel=>exact⟨k+1,by go_num,Za,HK2,HB2⟩
    case measure=>exact Zj
   ·go_wp2
    go_ret
    exact⟨k,rfl,.inl ⟨Za,k,hlt,HR.out⟩,HB2.out⟩
  ·obtain rfl:n=k:=Za
   go_wp2
   go_ret
   exact⟨-1,rfl,.inr ⟨rfl,fun j h=>HK.out j h⟩,HB.out⟩
theorem Zkn {g:Nat} {caps:Array Value} (hent:∀ args w,(callFunc g args).run Tryz.prog w=.ok (.enter g args) w) {f:Nat->Bool} {v:Value} {ps:List PP} {n:Nat} {w:World} (hv:PL w v ps) (hn:ps.length=n)
  (hf:∀ k (h:k<ps.length),∀ W,Below w.heap.size w W->Calls Tryz.prog g (#[pV ps[k].1 ps[k].2]++caps) W (Z3 W (f k))) :
  Calls Tryz.prog 121 #[v,.func (.func g) #[] caps] w (Zkc w n f):=by
 obtain⟨p,c,rfl,hnc,hc,hp⟩:=hv
 unfold maxLen at hc
 rw[hn] at hnc ⊢
 have HV:=Zpe hp
 have HN:=Zpe hn
 have HF:=Zpe hf
 clear hp hn hf
 go_enter Tryz.func121,Tryz.ntmps121
 go_wp2
 go_loopw [8] (fun i wr=>∃ (k:Nat),i=.int .i64 k/\k<=n/\Hid (∀ j,j<k->f j=false)/\Zo8 w wr) (fun i _=>n-(intOf i).toNat)
 case atStart=>exact⟨0,rfl,ZoD _,fun j h=>Za,Zoq _ _⟩
 case round=>
  obtain⟨k,rfl,hk,HK,HB⟩:=hrel
  by_cases hlt:k<n
  ·have hkp:k<ps.length:=by rw[HN.out];exact hlt
   obtain⟨b,o,rfl,hbl,hat⟩:=HV.out (Zoy Za)
   obtain⟨e0,e1⟩:=(hat.below HB.out hbl) k hkp
   have hF:∀ W,Below w.heap.size w W->Calls Tryz.prog g (#[.agg #[.string ps[k].1,.string ps[k].2]]++caps) W (Z3 W (f k)):=HF.out k hkp
   obtain⟨s,hs⟩:=Zpg (ps[k].1)
   obtain⟨t,ht⟩:=Zpg (ps[k].2)
   rw[hs] at e0
   rw[ht] at e1
   rw[hs,ht] at hF
   have HG:=Zpe hF
   clear hF hat hs ht hkp
   obtain⟨r,hr⟩:=Zpg (f k)
   have HR:=Zpe hr
   clear hr
   go_wp2_with fail
   refine(HG.out _ HB.out).mono ?_
   rintro e w2 ⟨rfl,hb⟩
   rw[HR.out]
   have HB2:=Zpe (HB.out.trans (hb.mono HB.out.size))
   clear hb e0 e1
   cases r
   ·have HK2:Hid (∀ j,j<k+1->f j=false):=fun j h=>by
     rcases Zow j k with h3 | h3
     ·exact HK.out j h3
     ·obtain rfl:j=k:=Za
      exact HR.out
    go_wp2
    go_roundw
    case rel=>exact⟨k+1,by go_num,Za,HK2,HB2⟩
    case measure=>exact Zj
   ·go_wp2
    go_ret
    exact⟨k,rfl,.inl ⟨Za,k,hlt,HR.out⟩,HB2.out⟩
  ·obtain rfl:n=k:=Za
   go_wp2
   go_ret
   exact⟨-1,rfl,.inr ⟨rfl,fun j h=>HK.out j h⟩,HB.out⟩
theorem Zh0 {g:Nat} {caps:Array Value} (hent:∀ args w,(callFunc g args).run Tryz.prog w=.ok (.enter g args) w) {f:Nat->Bool} {v:Value} {bs:List BB} {n:Nat} {w:World} (hv:BL w v bs) (hn:bs.length=n) (hf:∀ k,k<n->∀ W,Below w.heap.size w W->Calls Tryz.prog g (#[bV (bAt bs k)]++caps) W (Z3 W (f k))):Calls Tryz.prog 129 #[v,.func (.func g) #[] caps] w (Zed w n f):=by
 have HI:=Zpe (Zky hent hv hn hf)
 go_enter Tryz.func129,Tryz.ntmps129
 go_wp2_with fail
 refine HI.out.mono ?_
 rintro e w2 ⟨i,rfl,hE,hb⟩
 have HB:=Zpe hb
 rcases hE with ⟨h0,h⟩ | ⟨rfl,h⟩
 ·have HE:=Zpe h
  have h0d:decide (0<=i)=true:=decide_eq_true h0
  clear h hb
  go_wp2
  go_ret
  exact⟨true,Zc,.inl ⟨rfl,HE.out⟩,HB.out⟩
 ·have HE:=Zpe h
  clear h hb
  go_wp2
  go_ret
  exact⟨false,Zc,.inr ⟨rfl,HE.out⟩,HB.out⟩
theorem Zdg {g:Nat} {caps:Array Value} (hent:∀ args w,(callFunc g args).run Tryz.prog w=.ok (.enter g args) w) {f:Nat->Bool} {v:Value} {ps:List PP} {n:Nat} {w:World} (hv:PL w v ps) (hn:ps.length=n) (hf:∀ k (h:k<ps.length),∀ W,Below w.heap.size w W->Calls Tryz.prog g (#[pV ps[k].1 ps[k].2]++caps) W (Z3 W (f k))):Calls Tryz.prog 61 #[v,.func (.func g) #[] caps] w (Zed w n f):=by
 have HI:=Zpe (Zkn hent hv hn hf)
 go_enter Tryz.func61,Tryz.ntmps61
 go_wp2_with fail
 refine HI.out.mono ?_
 rintro e w2 ⟨i,rfl,hE,hb⟩
 have HB:=Zpe hb
 rcases hE with ⟨h0,h⟩ | ⟨rfl,h⟩
 ·have HE:=Zpe h
  have h0d:decide (0<=i)=true:=decide_eq_true h0
  clear h hb
  go_wp2
  go_ret
  exact⟨true,Zc,.inl ⟨rfl,HE.out⟩,HB.out⟩
 ·have HE:=Zpe h
  clear h hb
  go_wp2
  go_ret
  exact⟨false,Zc,.inr ⟨rfl,HE.out⟩,HB.out⟩
theorem ZjC (k B:Nat) (s t:ByteArray) (hs:s.size<=1000000) (ht:t.size<=1000000) (w:World) (hB:w.cell? ⟨B,0,none⟩=some (.int .i64 k)) :
  Calls Tryz.prog 178 #[pV s t,.pointer (some ⟨B,0,none⟩)] w (Z3 w (!Zw k (s,t))):=by
 have HAL:=Zpe ((Zoq w.heap.size w).alloc Zpf (pObj s t))
 have hBl:=ZoK _ _ hB
 have hBc:(w.alloc (pObj s t)).cell? ⟨B,0,none⟩=some (.int .i64 k):=(Zaj _ _ _ hBl).trans hB
 by_cases h1:(k:Int)<s.size
 ·have HR:Hid (Zw k (s,t)=false):=by
   show _=_
   unfold Zw
   rw[decide_eq_false (p:=(s,t).1.size<=k) (by show ¬ s.size<=k;omega)]
   simp
  go_enter Tryz.func178,Tryz.ntmps178
  go_wp2
  go_ret
  exact⟨by rw[HR.out];rfl,HAL.out⟩
 ·by_cases h2:(k:Int)<t.size
  ·have HR:Hid (Zw k (s,t)=false):=by
    show _=_
    unfold Zw
    rw[decide_eq_false (p:=(s,t).2.size<=k) (by show ¬ t.size<=k;omega)]
    simp
   go_enter Tryz.func178,Tryz.ntmps178
   go_wp2
   go_ret
   exact⟨by rw[HR.out];rfl,HAL.out⟩
  ·cases h3:okP s t
   ·have HR:Hid (Zw k (s,t)=false):=by unfold Zw;show _=_;simp[h3]
    have HE:=Zpe (ZaM h3)
    clear h3
    go_enter Tryz.func178,Tryz.ntmps178
    go_wp2_with fail
    refine(ZaS s t _ hs ht).mono ?_
    rintro e w2 ⟨rfl,hb⟩
    rw[HE.out]
    have HB2:=Zpe (HAL.out.trans (hb.mono HAL.out.size))
    clear hb
    go_wp2
    go_ret
    exact⟨by rw[HR.out];rfl,HB2.out⟩
   ·have HR:Hid (Zw k (s,t)=true):=by unfold Zw;show _=_;simp[h3];omega
    have HE:=Zpe (Zbg h3)
    clear h3
    go_enter Tryz.func178,Tryz.ntmps178
    go_wp2_with fail
    refine(ZaS s t _ hs ht).mono ?_
    rintro e w2 ⟨rfl,hb⟩
    rw[HE.out]
    have HB2:=Zpe (HAL.out.trans (hb.mono HAL.out.size))
    clear hb
    go_wp2
    go_ret
    exact⟨by rw[HR.out];rfl,HB2.out⟩
def LimP (ps:List PP):Prop:=∀ p ∈ ps,p.1.size<=1000000/\p.2.size<=1000000
theorem ZgJ (k:Nat) (hk:k<=1000) {v:Value} {ps:List PP} {w:World} (hv:PL w v ps) (hz:LimP ps) :
  Calls Tryz.prog 131 #[.int .i64 k,v] w (Z3 w (ps.all (Zw k))):=by
 obtain⟨n,hn⟩:=Zpg ps.length
 obtain⟨p,c,rfl⟩:∃ p c,v=.slice p n c:=by obtain⟨p,c,h,_⟩:=id hv;exact⟨_,_,by rw[<- hn];exact h⟩
 have hal:=(Zoq w.heap.size w).alloc Zpf (.cells #[.int .i64 k] 3)
 have HAL:=Zpe hal
 have HC:Hid (Calls Tryz.prog 61 #[.slice p n c,.func (.func 178) #[] #[.pointer (some ⟨w.heap.size,0,none⟩)]] (w.alloc (.cells #[.int .i64 k] 3))
   (Zed (w.alloc (.cells #[.int .i64 k] 3)) n (fun j=>!Zw k (ps.getD j (Zpa,Zpa))))):=by
  refine Zdg (enters_of Tryz.func178 Zb rfl) (hv.after hal Zpf) hn fun j hj W hW=>?_
  obtain⟨z1,z2⟩:=hz _ (ZoR hj)
  have e:ps.getD j (Zpa,Zpa)=ps[j]:=by simp[List.getD,hj]
  rw[e]
  exact ZjC k w.heap.size ps[j].1 ps[j].2 z1 z2 W ((hW.cell Zc).trans (ZK _ _ _ _ rfl))
 have HR:Hid ((∃ j,j<n/\(!Zw k (ps.getD j (Zpa,Zpa)))=true)->ps.all (Zw k)=false):=by
  rintro⟨j,hj,h⟩
  have hj2:j<ps.length:=by rw[hn];exact hj
  have e:ps.getD j (Zpa,Zpa)=ps[j]:=by simp[List.getD,hj2]
  rw[e] at h
  rw[<- Bool.not_eq_true,Zo3]
  intro hall
  rw[hall _ (ZoR hj2)] at h
  cases h
 have HR2:Hid ((∀ j,j<n->(!Zw k (ps.getD j (Zpa,Zpa)))=false)->ps.all (Zw k)=true):=by
  intro h
  rw[Zo3]
  intro q hq
  obtain⟨j,hj,rfl⟩:=List.getElem_of_mem hq
  have:=h j (by rw[<- hn];exact hj)
  have e:ps.getD j (Zpa,Zpa)=ps[j]:=by simp[List.getD,hj]
  rw[e] at this
  simpa using this
 clear hal hv hz hn
 go_enter Tryz.func131,Tryz.ntmps131
 go_wp2_with fail
 refine HC.out.mono ?_
 rintro e w2 ⟨b,rfl,h,hb⟩
 have HB2:=Zpe (HAL.out.trans (hb.mono HAL.out.size))
 have HE:=Zpe h
 clear h hb HC HAL
 go_wp2
 go_ret
 refine⟨?_,HB2.out⟩
 rcases HE.out with ⟨rfl,h⟩ | ⟨rfl,h⟩
 ·rw[HR.out h];rfl
 ·rw[HR2.out h];rfl
theorem ZgA (s t u v:ByteArray) (hs:s.size<=1000000) (ht:t.size<=1000000) (hu:u.size<=1000000) (hv:v.size<=1000000) (w:World) :
  Calls Tryz.prog 130 #[.agg #[.string s,.string t,.string u,.string v]] w (Z3 w (!(Zw 18 (s,t) && Zw 18 (u,v)))):=by
 obtain⟨w1,hw1⟩:=Zpg (w.alloc (bO s t u v))
 have hb1:Below w.heap.size w w1:=by rw[<- hw1];exact(Zoq w.heap.size w).alloc Zpf _
 have hal:=(Zoq w1.heap.size w1).alloc Zpf (.cells #[.string s,.string t,.string u,.string v] 41)
 have HAL:=Zpe (hb1.trans (hal.mono hb1.size))
 have hc:=ZgJ 18 Zd (Zn0 w1 s t u v) (by
  intro p hp
  simp only[List.mem_cons,List.not_mem_nil,or_false] at hp
  rcases hp with rfl | rfl
  ·exact⟨hs,ht⟩
  ·exact⟨hu,hv⟩)
 rw[<- hw1,ZoP] at hc
 rw[<- hw1] at HAL
 have HC:Hid (Calls Tryz.prog 131 #[.int .i64 18,.slice (some ⟨w.heap.size+1,0,none⟩) 2 2] ((w.alloc (bO s t u v)).alloc (.cells #[.string s,.string t,.string u,.string v] 41))
  (Z3 ((w.alloc (bO s t u v)).alloc (.cells #[.string s,.string t,.string u,.string v] 41)) ([(s,t),(u,v)].all (Zw 18)))):=hc
 clear hal hb1 hw1 hs ht hu hv hc
 go_enter Tryz.func130,Tryz.ntmps130
 go_wp2_with fail
 refine HC.out.mono ?_
 rintro e w2 ⟨rfl,hb⟩
 have HB2:=Zpe (HAL.out.trans (hb.mono HAL.out.size))
 clear hb HC HAL
 go_wp2
 go_ret
 exact⟨Zc,HB2.out⟩
section
variable {P:Program} {ops:Array Oper} {Q:Exit->Act->World->Prop} {md:Region.Mode} {S:World->Prop} {bar:Nat->Bool}
def Zbd (P:Program) (ops:Array Oper) (Q:Exit->Act->World->Prop) (S:World->Prop) (bar:Nat->Bool):List (Bool×Nat)->Act->World->Prop
 | [],a,w=>Q .normal a w
 | (true,i)::ks,a,w=>∃ o v,ops[i]?=some o/\YieldsIf P ops S o v a/\Zbd P ops Q S bar ks (a.put o.dst v) w
 | (false,i)::ks,a,w=>∃ o,ops[i]?=some o/\(if Region.wanted o (yielded ops a.tmps) then o.wp P a w (fun a' w'=>(bar i=true\/S w')/\Zbd P ops Q S bar ks a' w') Q
   else (bar i=true\/S w)/\Zbd P ops Q S bar ks (a.put o.dst undef) w)
def Zef (md:Region.Mode) (ops:Array Oper) (bar:Nat->Bool):List (Bool×Nat)->Array Bool->Bool
 | [],listed=>decide (Region.ready md ops listed=[])
 | (true,k)::ks,listed=>(Region.ready md ops listed).contains k && Region.free md ops listed k && !bar k && ((List.range ops.size).all fun j=>!bar j || decide (j=k) || Region.waitsFor md ops j k) && Zef md ops bar ks (listed.setIfInBounds k true)
 | (false,k)::ks,listed=>decide (Region.ready md ops listed=[k]) && (!bar k || ks.all fun b=>!b.1) && Zef md ops bar ks (listed.setIfInBounds k true)
theorem ZdC (hsel:Region.noSelect ops=true) (hQ:∀ c a o v w,Q (.panic c) (a.put o v) w->Q (.panic c) a w) (hbo:∀ j,ops.size<=j->bar j=false) :
  ∀ (ks:List (Bool×Nat)) (listed:Array Bool) (a:Act) (w:World),Zef md ops bar ks listed=true->
   (S w\/ks.all (fun b=>!b.1)=true)->Zbd P ops Q S bar ks a w->wpJ P md ops Q S bar ks.length listed a w
 | [],listed,a,w,hB,_,h=>⟨of_decide_eq_true hB,h⟩
 | (true,k)::ks,listed,a,w,hB,hS,h=>by
  simp only[Zef,ZoY] at hB
  obtain⟨⟨⟨⟨hr,hf⟩,hbk⟩,hw⟩,hB'⟩:=hB
  have hSw:S w:=by
   rcases hS with hS | hS
   ·exact hS
   ·simp at hS
  obtain⟨o,v,h0,hy,hrest⟩:=h
  have hbk':bar k=false:=by simpa using hbk
  have hwait:Zh6 md ops bar k:=fun j hj hne=>by
   have hjl:j<ops.size:=by
    rcases Zow j ops.size with h' | h'
    ·exact h'
    ·rw[hbo j h'] at hj;cases hj
   rw[Zo3] at hw
   have:=hw j (List.mem_range.2 hjl)
   rw[hj] at this
   simpa[hne] using this
  have ih:=ZdC hsel hQ hbo ks (listed.setIfInBounds k true) (a.put o.dst v) w hB' (.inl hSw) hrest
  rw[Zo0]
  exact Zfe h0 hsel (fun c a w=>hQ c a o.dst v w) hwait hbk' ks.length listed a w (Region.free_spec h0 hf) (by simpa using hr) hy hSw ih
 | (false,k)::ks,listed,a,w,hB,hS,h=>by
  simp only[Zef,ZoY,ZoZ] at hB
  obtain⟨⟨hr,hbk⟩,hB'⟩:=hB
  obtain⟨o,h0,h⟩:=h
  refine⟨fun h1=>(by rw[hr] at h1;cases h1),fun i hi=>?_⟩
  rw[hr] at hi
  obtain rfl:i=k:=by simpa using hi
  have ih:=fun a' w' (hs:bar i=true\/S w') h'=>ZdC hsel hQ hbo ks (listed.setIfInBounds i true) a' w' hB' (by
   rcases hs with hs | hs
   ·rw[hs] at hbk
    exact .inr (by simpa using hbk)
   ·exact .inl hs) h'
  unfold wpOp
  simp only[h0]
  split at h
  ·rename_i hw;simp only[hw,if_true];exact .inl (Oper.wp_mono (fun a' w' h'=>⟨h'.1,ih a' w' h'.1 h'.2⟩) h)
  ·rename_i hw;simp only[hw];exact⟨h.1,ih _ _ h.1 h.2⟩
def Zec (l:List Oper) (ks:List (Bool×Nat)) (bar:Nat->Bool):Bool:=
 Region.noSelect l.toArray && decide (ks.length=l.length) && Zef .any l.toArray bar ks (Array.replicate l.toArray.size false) && Zcx l.toArray
theorem ZeT {l:List Oper} (ks:List (Bool×Nat)) (S:World->Prop) (bar:Nat->Bool) (hB:Zec l ks bar=true) (hbo:∀ j,l.length<=j->bar j=false) (hQ:∀ c a o v w,Q (.panic c) (a.put o v) w->Q (.panic c) a w) {a:Act} {w:World} (hS:S w)
  (H:Zbd P l.toArray Q S bar ks a w):wpAny P .any l.toArray Q l.toArray.size (Array.replicate l.toArray.size false) a w:=by
 simp only[Zec,ZoY,ZoZ] at hB
 obtain⟨⟨⟨hsel,hn⟩,hm⟩,_⟩:=hB
 have:=ZbE _ _ _ _ (ZdC hsel hQ (fun j hj=>hbo j (by simpa using hj)) ks _ a w hm (.inl hS) H)
 rw[hn] at this
 simpa using this
theorem Zaf {id:Nat} {a:Act} {w:World} {l:List Oper} (ks:List (Bool×Nat)) (S:World->Prop) (bar:Nat->Bool) (hm:P.follows .mixedOrders=true)
  (hB:Zec l ks bar=true) (hbo:∀ j,l.length<=j->bar j=false) (hQ:∀ c a o v w,Q (.panic c) (a.put o v) w->Q (.panic c) a w) (hS:S w.drew)
  (H:Zbd P l.toArray Q S bar ks a w.drew):(Code.region id l.toArray true).wp P Q a w:=
 wp_region_any hm (ZeT ks S bar hB hbo hQ hS H)
theorem Zr {i:Nat} {o:Oper} {ks:List (Bool×Nat)} {a:Act} {w:World} (v:Value) (ho:ops[i]?=some o) (hw:Region.wanted o (yielded ops a.tmps)=true) (hv:∀ w,S w->(execOp a.eval o).run P w=.ok (.value v) w)
  (h:Zbd P ops Q S bar ks (a.put o.dst v) w):Zbd P ops Q S bar ((true,i)::ks) a w:=⟨o,v,ho,.inl ⟨hw,hv⟩,h⟩
theorem Zt {i:Nat} {o:Oper} {ks:List (Bool×Nat)} {a:Act} {w:World} (ho:ops[i]?=some o) (hw:Region.wanted o (yielded ops a.tmps)=true)
  (h:∀ K:Act->World->Prop,(∀ a' w',(bar i=true\/S w')->Zbd P ops Q S bar ks a' w'->K a' w')->o.wp P a w K Q):Zbd P ops Q S bar ((false,i)::ks) a w:=by
 refine⟨o,ho,?_⟩
 rw[if_pos hw]
 exact h _ fun _ _ h1 h2=>⟨h1,h2⟩
theorem ZJ {a:Act} {w:World} (h:Q .normal a w):Zbd P ops Q S bar [] a w:=h
end
end Go.Proofs.YtmpaflidennnoaaGreatDoor
