/- The parts Part, Lim, Check, Clone, Minus, Does. -/
import Derived.Test.YtjmckebecpjjfaaGreatDoorH06
import Derived.Deep.DrawnRows
set_option maxRecDepth 100000
set_option maxHeartbeats 4000000
set_option linter.unusedVariables false
set_option linter.unusedSimpArgs false
namespace Go.Proofs.YtjmckebecpjjfaaGreatDoor
open Go.RowKit Go.Shelf
attribute [local go_sem ↓] Go.wp_at_zero Go.wp_at_succ
def Zaq (R:ByteArray->ByteArray->Int->Prop) (w:World) (e:Ending) (w':World):Prop:=
 ∃ s t n,e=.returned (.tuple #[ZqE s t,.int .i64 n])/\R s t n/\Below w.heap.size w w'
theorem Num.after {w w':World} {v:Value} {n B:Nat} (h:Num w v n) (hb:Below B w w') (hB:w.heap.size<=B):Num w' v n:=Nums.below h hb hB
theorem ZeO {v1 v2:Value} {n d:Nat} {w:World} (h1:Num w v1 n) (h2:Num w v2 d) (hl1:(Zp 1000000000 n).length<=100000) (hl2:(Zp 1000000000 d).length<=100000) (hd:0<d) (hT:Tabs w) :
  Calls Tryz.prog 55 #[.agg #[v1,v2]] w (Zaq (Ans (mkRat (n:Nat) d)) w):=by
 obtain⟨g,hg⟩:=ZqJ (Nat.gcd n d)
 have hg0:0<g:=by rw[<- hg];exact Nat.gcd_pos_of_pos_right _ hd
 have hgl:(Zp 1000000000 g).length<=100000:=Zp4 (Zas Za (by rw[<- hg];exact Nat.gcd_le_right _ hd)) hl2
 have HQ:Hid (numD (mkRat (n:Nat) d)=Lib.decDigits (n/g)/\denD (mkRat (n:Nat) d)=Lib.decDigits (d/g)):=by rw[<- hg];exact ZfL n hd
 obtain⟨p1,l1,c1,rfl⟩:=h1.form'
 obtain⟨p2,l2,c2,rfl⟩:=h2.form'
 have H1:=ZqH h1
 have H2:=ZqH h2
 have HT:=ZqH hT
 have HG0:=ZqH hg
 clear h1 h2 hT hg
 go_enter Tryz.func55,Tryz.ntmps55
 go_wp2_with fail
 obtain⟨w1,hw1⟩:=ZqJ ((w.alloc (.cells #[.slice p1 l1 c1,.slice p2 l2 c2] 107)).alloc (ZqF ZqD ZqD))
 rw[hw1]
 have HX1:Hid (Zu w.heap.size [.cells #[.slice p1 l1 c1,.slice p2 l2 c2] 107,ZqF ZqD ZqD] w1):=by rw[<- hw1];exact Zu.two w _ _
 have HB1:ZqB w w1:=by rw[<- hw1];exact((ZpV _ w).alloc ZqI _).alloc Zc _
 clear hw1
 refine(Zlm (H1.out.after HB1.out ZqI) (H2.out.after HB1.out ZqI) hl1 hl2).mono ?_
 rintro e w2 ⟨vg,rfl,hG,hb2⟩
 obtain⟨pg,lg,cg,rfl⟩:=hG.form'
 rw[HG0.out] at hG
 have HG:=ZqH hG
 have HB2:=ZqH (HB1.out.trans (hb2.mono HB1.out.size))
 have HX2:=ZqH (HX1.out.below hb2 HX1.out.lt)
 clear hG hb2
 have c20:=HX2.out.cell 0 0 (b:=w.heap.size) rfl rfl rfl
 have c21:=HX2.out.cell 0 1 (b:=w.heap.size) rfl rfl rfl
 go_wp2_with fail
 refine(ZgP (H1.out.after HB2.out ZqI) HG.out hl1 hgl hg0).mono ?_
 rintro e w3 ⟨vn,vr,rfl,hN,_,hb3⟩
 obtain⟨pn,ln,cn,rfl⟩:=hN.form'
 have HN3:=ZqH hN
 have HG3:=ZqH (HG.out.after hb3 ZqI)
 have HB3:=ZqH (HB2.out.trans (hb3.mono HB2.out.size))
 have HX3:=ZqH (HX2.out.below hb3 HX2.out.lt)
 clear hN hb3 c20 c21
 have c31:=HX3.out.cell 0 1 (b:=w.heap.size) rfl rfl rfl
 go_wp2_with fail
 refine(ZgP (H2.out.after HB3.out ZqI) HG3.out hl2 hgl hg0).mono ?_
 rintro e w4 ⟨vd,vs,rfl,hD,_,hb4⟩
 obtain⟨pd,ld,cd,rfl⟩:=hD.form'
 have HD4:=ZqH hD
 have HN4:=ZqH (HN3.out.after hb4 ZqI)
 have HB4:=ZqH (HB3.out.trans (hb4.mono HB3.out.size))
 have HX4:=ZqH (HX3.out.below hb4 HX3.out.lt)
 clear hD hb4 c31
 have hln:(Zp 1000000000 (n/g)).length<=100000:=Zp4 (Zas Za (Nat.div_le_self _ _)) hl1
 have hld:(Zp 1000000000 (d/g)).length<=100000:=Zp4 (Zas Za (Nat.div_le_self _ _)) hl2
 go_wp2_with fail
 refine(Zhz HN4.out hln (HT.out.below HB4.out ZqI)).mono ?_
 rintro e w5 ⟨rfl,hb5⟩
 have HD5:=ZqH (HD4.out.after hb5 ZqI)
 have HN5:=ZqH (HN4.out.after hb5 ZqI)
 have HB5:=ZqH (HB4.out.trans (hb5.mono HB4.out.size))
 have HX5:=ZqH (HX4.out.below hb5 HX4.out.lt)
 clear hb5
 obtain⟨m1,hm1⟩:=ZqJ ((Lib.decDigits (n/g)).length)
 obtain⟨m2,hm2⟩:=ZqJ ((Lib.decDigits (d/g)).length)
 rw[hm1]
 have HM1:=ZqH hm1
 have HM2:=ZqH hm2
 clear hm1 hm2
 by_cases hc1:600<m1
 ·have e1:(600:Int)<(m1:Nat):=Za
  have r0:=HX5.out.cell 1 0 (b:=w.heap.size+1) rfl rfl rfl
  have r1:=HX5.out.cell 1 1 (b:=w.heap.size+1) rfl rfl rfl
  have f0:=HX5.out.free 1 0 (b:=w.heap.size+1) rfl rfl
  have f1:=HX5.out.free 1 1 (b:=w.heap.size+1) rfl rfl
  go_wp2
  have q:=ZD (HX5.out.block 1 (b:=w.heap.size+1) rfl rfl) (.string ZqD) (.string ZqD)
  have HBQ:=ZqH (Zy HB5.out (b:=w.heap.size+1) Za (.string ZqD) (.string ZqD))
  obtain⟨w9,hw9⟩:=ZqJ ((w5.setCell ⟨w.heap.size+1,0,none⟩ (.string ZqD)).setCell ⟨w.heap.size+1,1,none⟩ (.string ZqD))
  rw[hw9] at q HBQ
  obtain⟨q0,q1⟩:=q
  rw[hw9]
  clear r0 r1 f0 f1 hw9
  go_wp2
  refine ZpW (v:=.tuple #[ZqE ZqD ZqD,.int .i64 4]) (by simp[results,Tryz.f55,go_sem,q0,q1]) rfl ⟨_,_,_,rfl,?_,HBQ.out⟩
  exact .inr ⟨fun hf=>by have:=hf.1;rw[HQ.out.1,HM1.out] at this;omega,rfl,rfl,rfl⟩
 ·have e1:¬ (600:Int)<(m1:Nat):=Za
  go_wp2_with fail
  refine(Zhz HD5.out hld (HT.out.below HB5.out ZqI)).mono ?_
  rintro e w6 ⟨rfl,hb6⟩
  have HD6:=ZqH (HD5.out.after hb6 ZqI)
  have HN6:=ZqH (HN5.out.after hb6 ZqI)
  have HB6:=ZqH (HB5.out.trans (hb6.mono HB5.out.size))
  have HX6:=ZqH (HX5.out.below hb6 HX5.out.lt)
  clear hb6
  rw[HM2.out]
  by_cases hc2:600<m2
  ·have e2:(600:Int)<(m2:Nat):=Za
   have r0:=HX6.out.cell 1 0 (b:=w.heap.size+1) rfl rfl rfl
   have r1:=HX6.out.cell 1 1 (b:=w.heap.size+1) rfl rfl rfl
   have f0:=HX6.out.free 1 0 (b:=w.heap.size+1) rfl rfl
   have f1:=HX6.out.free 1 1 (b:=w.heap.size+1) rfl rfl
   go_wp2
   have q:=ZD (HX6.out.block 1 (b:=w.heap.size+1) rfl rfl) (.string ZqD) (.string ZqD)
   have HBQ:=ZqH (Zy HB6.out (b:=w.heap.size+1) Za (.string ZqD) (.string ZqD))
   obtain⟨w9,hw9⟩:=ZqJ ((w6.setCell ⟨w.heap.size+1,0,none⟩ (.string ZqD)).setCell ⟨w.heap.size+1,1,none⟩ (.string ZqD))
   rw[hw9] at q HBQ
   obtain⟨q0,q1⟩:=q
   rw[hw9]
   clear r0 r1 f0 f1 hw9
   go_wp2
   refine ZpW (v:=.tuple #[ZqE ZqD ZqD,.int .i64 4]) (by simp[results,Tryz.f55,go_sem,q0,q1]) rfl ⟨_,_,_,rfl,?_,HBQ.out⟩
   exact .inr ⟨fun hf=>by have:=hf.2;rw[HQ.out.2,HM2.out] at this;omega,rfl,rfl,rfl⟩
  ·have e2:¬ (600:Int)<(m2:Nat):=Za
   go_wp2_with fail
   refine(ZgN HN6.out hln (HT.out.below HB6.out ZqI)).mono ?_
   rintro e w7 ⟨s,rfl,hs,hb7⟩
   have HS:=ZqH hs
   have HD7:=ZqH (HD6.out.after hb7 ZqI)
   have HB7:=ZqH (HB6.out.trans (hb7.mono HB6.out.size))
   have HX7:=ZqH (HX6.out.below hb7 HX6.out.lt)
   clear hb7 hs
   go_wp2_with fail
   refine(ZgN HD7.out hld (HT.out.below HB7.out ZqI)).mono ?_
   rintro e w8 ⟨t,rfl,ht,hb8⟩
   have HT8:=ZqH ht
   have HB8:=ZqH (HB7.out.trans (hb8.mono HB7.out.size))
   have HX8:=ZqH (HX7.out.below hb8 HX7.out.lt)
   clear hb8 ht
   have r0:=HX8.out.cell 1 0 (b:=w.heap.size+1) rfl rfl rfl
   have r1:=HX8.out.cell 1 1 (b:=w.heap.size+1) rfl rfl rfl
   have f0:=HX8.out.free 1 0 (b:=w.heap.size+1) rfl rfl
   have f1:=HX8.out.free 1 1 (b:=w.heap.size+1) rfl rfl
   go_wp2
   have q:=ZD (HX8.out.block 1 (b:=w.heap.size+1) rfl rfl) (.string s) (.string t)
   have HBQ:=ZqH (Zy HB8.out (b:=w.heap.size+1) Za (.string s) (.string t))
   obtain⟨w9,hw9⟩:=ZqJ ((w8.setCell ⟨w.heap.size+1,0,none⟩ (.string s)).setCell ⟨w.heap.size+1,1,none⟩ (.string t))
   rw[hw9] at q HBQ
   obtain⟨q0,q1⟩:=q
   rw[hw9]
   clear r0 r1 f0 f1 hw9
   go_wp2
   refine ZpW (v:=.tuple #[ZqE s t,.int .i64 0]) (by simp[results,Tryz.f55,go_sem,q0,q1]) rfl ⟨_,_,_,rfl,?_,HBQ.out⟩
   refine .inl ⟨⟨Zfi _ _,?_,?_,?_⟩,rfl⟩
   ·rw[HS.out,HQ.out.1]
   ·rw[HT8.out,HQ.out.2]
   ·unfold Fits
    rw[HQ.out.1,HQ.out.2,HM1.out,HM2.out]
    omega
theorem Zlz {n k j:Nat} (h:n<10 ^ k) (hj:k<=9*j):(Zp 1000000000 n).length<=j:=by
 refine Za0 Za (Zp2 h ?_)
 have e:(1000000000:Nat) ^ j=10 ^ (9*j):=by rw[Nat.pow_mul]
 rw[e]
 exact Zp6 Za hj
theorem Zcl {s:ByteArray} (hd:∀ c ∈ s.data.toList,ZT c=true) {j:Nat} (hj:s.size<=9*j):(Zp 1000000000 (Zr s.data.toList)).length<=j:=
 Zlz (ZdR hd) (by rw[ZJ];exact hj)
theorem Zom {s t:ByteArray} (h:Z7 s.data.toList=false):okP s t=false:=by unfold okP;rw[h];rfl
theorem ZnG {s t:ByteArray} (h:Z7 t.data.toList=false):okP s t=false:=by unfold okP;rw[h,Bool.and_false];rfl
theorem Zor {s t:ByteArray} (h:Zr t.data.toList=0):okP s t=false:=by unfold okP;rw[h];simp
theorem Zle {s t:ByteArray} (h:Nat.gcd (Zr s.data.toList) (Zr t.data.toList)≠1):okP s t=false:=by unfold okP;simp[h]
theorem ZoG {s t:ByteArray} (h1:Z7 s.data.toList=true) (h2:Z7 t.data.toList=true) (h3:Zr t.data.toList≠0) (h4:Nat.gcd (Zr s.data.toList) (Zr t.data.toList)=1):okP s t=true:=
 ZfN.2 ⟨h1,h2,Za,h4⟩
def okE (s t:ByteArray):Int:=if okP s t then 0 else 2
theorem Zb9 {s t:ByteArray} (h:okP s t=false):okE s t=2:=by unfold okE;rw[h];rfl
theorem ZcJ {s t:ByteArray} (h:okP s t=true):okE s t=0:=by unfold okE;rw[h];rfl
theorem Zjy {t:ByteArray} (h:Z7 t.data.toList=true):t=⟨#[48]⟩<->Zr t.data.toList=0:=by
 constructor
 ·rintro rfl;rfl
 ·intro h0
  have h1:=(Zaj h).1.text
  rw[h0,Zcm] at h1
  have h2:=ZdN t
  rw[<- h1] at h2
  exact h2.symm
theorem Zbd (s t:ByteArray) (w:World) (hs:s.size<=1000000) (ht:t.size<=1000000) :
  Calls Tryz.prog 29 #[ZqE s t] w (ZfZ w (okE s t)):=by
 cases h1:Z7 s.data.toList
 ·have HQ:=ZqH (Zom (t:=t) h1)
  have H1:=ZqH h1
  clear h1
  go_enter Tryz.func29,Tryz.ntmps29
  go_wp2_with fail
  refine(ZaN s _ hs).mono ?_
  rintro e w2 ⟨rfl,hb2⟩
  rw[H1.out]
  have HB2:=ZqH (((ZpV _ w).alloc ZqI (ZqF s t)).trans (hb2.mono Zc))
  clear hb2
  go_wp2
  go_ret
  exact⟨by rw[Zb9 HQ.out];rfl,HB2.out⟩
 ·have H1:=ZqH h1
  clear h1
  cases h2:Z7 t.data.toList
  ·have HQ:=ZqH (ZnG (s:=s) h2)
   have H2:=ZqH h2
   clear h2
   go_enter Tryz.func29,Tryz.ntmps29
   go_wp2_with fail
   refine(ZaN s _ hs).mono ?_
   rintro e w2 ⟨rfl,hb2⟩
   rw[H1.out]
   have HX2:=ZqH ((Zu.one w _).below hb2 Zc)
   have HB2:=ZqH (((ZpV _ w).alloc ZqI (ZqF s t)).trans (hb2.mono Zc))
   clear hb2
   have c1:=HX2.out.cell 0 1 (b:=w.heap.size) rfl rfl rfl
   go_wp2_with fail
   refine(ZaN t _ ht).mono ?_
   rintro e w3 ⟨rfl,hb3⟩
   rw[H2.out]
   have HB3:=ZqH (HB2.out.trans (hb3.mono HB2.out.size))
   clear hb3 c1
   go_wp2
   go_ret
   exact⟨by rw[Zb9 HQ.out];rfl,HB3.out⟩
  ·have HZ:=ZqH (Zjy h2)
   have H2:=ZqH h2
   clear h2
   go_enter Tryz.func29,Tryz.ntmps29
   go_wp2_with fail
   refine(ZaN s _ hs).mono ?_
   rintro e w2 ⟨rfl,hb2⟩
   rw[H1.out]
   have HX2:=ZqH ((Zu.one w _).below hb2 Zc)
   have HB2:=ZqH (((ZpV _ w).alloc ZqI (ZqF s t)).trans (hb2.mono Zc))
   clear hb2
   have c1:=HX2.out.cell 0 1 (b:=w.heap.size) rfl rfl rfl
   go_wp2_with fail
   refine(ZaN t _ ht).mono ?_
   rintro e w3 ⟨rfl,hb3⟩
   rw[H2.out]
   have HX3:=ZqH (HX2.out.below hb3 HX2.out.lt)
   have HB3:=ZqH (HB2.out.trans (hb3.mono HB2.out.size))
   clear hb3 c1
   have d0:=HX3.out.cell 0 0 (b:=w.heap.size) rfl rfl rfl
   have d1:=HX3.out.cell 0 1 (b:=w.heap.size) rfl rfl rfl
   have dl:t.toList=t.data.toList:=Zqi ..
   by_cases h0:Zr t.data.toList=0
   ·have hz:(t.toList==[48])=true:=by
     rw[dl,HZ.out.2 h0];rfl
    have HQ:=ZqH (Zor (s:=s) h0)
    clear h0 dl
    go_wp2
    go_ret
    exact⟨by rw[Zb9 HQ.out];rfl,HB3.out⟩
   ·have hz:(t.toList==[48])=false:=by
     rw[beq_eq_false_iff_ne,dl]
     intro hc
     refine h0 (HZ.out.1 ?_)
     rw[<- ZdN t,hc];rfl
    have H0:=ZqH h0
    clear h0 dl
    obtain⟨cs1,cs2⟩:=Zaj H1.out
    obtain⟨ct1,ct2⟩:=Zaj H2.out
    have hls:=Zcl cs1.dig (j:=70) (by rw[<- ZJ];omega)
    have hlt:=Zcl ct1.dig (j:=70) (by rw[<- ZJ];omega)
    have HDS:=ZqH cs1.dig
    have HDT:=ZqH ct1.dig
    clear cs1 cs2 ct1 ct2
    go_wp2_with fail
    refine(Zdi s t hs ht HDS.out HDT.out _).mono ?_
    rintro e w4 ⟨vn,vd,rfl,hN,hD,hb4⟩
    obtain⟨pn,ln,cn,rfl⟩:=hN.form'
    obtain⟨pd,ld,cd,rfl⟩:=hD.form'
    have HN:=ZqH hN
    have HD:=ZqH hD
    have HB4:=ZqH (HB3.out.trans (hb4.mono HB3.out.size))
    clear hN hD hb4 d0 d1
    go_wp2_with fail
    obtain⟨g,hg⟩:=ZqJ (Nat.gcd (Zr s.data.toList) (Zr t.data.toList))
    have hal:=(ZpV w4.heap.size w4).alloc ZqI (.cells #[.slice pn ln cn,.slice pd ld cd] 107)
    have hgc:=Zlm (HN.out.after hal ZqI) (HD.out.after hal ZqI) Za Za
    rw[hg] at hgc
    have HG:=ZqH hg
    refine hgc.mono ?_
    rintro e w5 ⟨vg,rfl,hG,hb5⟩
    obtain⟨pg,cg,hv,_,_,hp⟩:=id hG
    have HB5:=ZqH (HB4.out.trans ((hal.trans (hb5.mono Zc)).mono HB4.out.size))
    obtain⟨lg,hlg⟩:=ZqJ ((Zp 1000000000 g).length)
    rw[hlg] at hv
    subst hv
    have HP:=ZqH hp
    have HLG:=ZqH hlg
    clear hgc hG hb5 hal hp hlg hg
    by_cases h1:lg=1
    ·have hb1:((lg:Int) !=1)=false:=by rw[bne_eq_false_iff_eq];omega
     have hx:∃ b off x,pg=some ⟨b,off,none⟩/\w5.cell? ⟨b,off,none⟩=some (.int .u64 (x:Nat))/\Zp 1000000000 g=[x]:=by
      have h2:=HLG.out
      rw[h1] at h2
      obtain⟨x,hx⟩:=List.length_eq_one_iff.1 h2
      obtain⟨b,off,rfl,_,ha⟩:=HP.out (by rw[hx];simp)
      have h3:=ha.getD (j:=0) (x:=x) (by rw[hx];simp) (by rw[hx];rfl)
      exact⟨b,off,x,rfl,h3,hx⟩
     obtain⟨b,off,x,rfl,hc,hx⟩:=hx
     have HXL:=ZqH hx
     have HV:Hid (x=g):=by
      show _=_
      have:=ZO (B:=1000000000) Za g
      rw[hx] at this
      simpa[val] using this
     subst h1
     clear hx
     by_cases h2:x=1
     ·have hb2:((x:Int) !=1)=false:=by rw[bne_eq_false_iff_eq];omega
      have HQ:Hid (okE s t=0):=ZcJ (ZoG H1.out H2.out H0.out (by rw[HG.out,<- HV.out];exact h2))
      clear h2
      go_wp2
      go_ret
      exact⟨by rw[HQ.out];rfl,HB5.out⟩
     ·have hb2:((x:Int) !=1)=true:=by rw[bne_iff_ne];omega
      have HQ:Hid (okE s t=2):=Zb9 (Zle (by rw[HG.out,<- HV.out];exact h2))
      clear h2
      go_wp2
      go_ret
      exact⟨by rw[HQ.out];rfl,HB5.out⟩
    ·have hb1:((lg:Int) !=1)=true:=by rw[bne_iff_ne];omega
     have HQ:Hid (okE s t=2):=by
      refine Zb9 (Zle ?_)
      rw[HG.out]
      intro hc
      refine h1 ?_
      rw[<- HLG.out,hc,ZbJ Za Za,ZL];rfl
     clear h1
     go_wp2
     go_ret
     exact⟨by rw[HQ.out];rfl,HB5.out⟩
theorem Zbs {v1 v2:Value} {n m:Nat} {w:World} (h1:Num w v1 n) (h2:Num w v2 m) (l1:(Zp 1000000000 n).length<=1000) (l2:(Zp 1000000000 m).length<=1000) :
  Calls Tryz.prog 48 #[v1,v2] w (ZfU w (n*m)):=by
 refine(ZfJ h1 h2 Za Za).mono ?_
 rintro e w' ⟨v,rfl,h,hb⟩
 exact⟨v,rfl,h.num,hb⟩
theorem Zoy {v1 v2:Value} {n m:Nat} {w:World} (h1:Num w v1 n) (h2:Num w v2 m) (l1:(Zp 1000000000 n).length<=100000) (l2:(Zp 1000000000 m).length<=100000) :
  Calls Tryz.prog 66 #[v1,v2] w (ZfU w (n+m)):=by
 refine(Zn3 h1 h2 Za Za).mono ?_
 rintro e w' ⟨v,rfl,h,hb⟩
 exact⟨v,rfl,h.num,hb⟩
theorem ZgJ {n m k l:Nat} (h1:(Zp 1000000000 n).length<=k) (h2:(Zp 1000000000 m).length<=l):(Zp 1000000000 (n*m)).length<=k+l:=by
 refine Za0 Za ?_
 have a1:=Z4 (ZR (B:=1000000000) Za n)
 have a2:=Z4 (ZR (B:=1000000000) Za m)
 rw[ZO Za] at a1 a2
 rw[Nat.pow_add]
 refine Nat.mul_lt_mul'' (Zp2 a1 (Zp6 Za h1)) (Zp2 a2 (Zp6 Za h2))
theorem Zc6 {n m:Nat} (h1:(Zp 1000000000 n).length<=1000) (h2:(Zp 1000000000 m).length<=1000):(Zp 1000000000 (n*m)).length<=100000:=Zp4 (ZgJ h1 h2) Za
theorem ZnW {v1 v2 v3 v4:Value} {n1 d1 n2 d2:Nat} {w:World} (h1:Num w v1 n1) (h2:Num w v2 d1) (h3:Num w v3 n2) (h4:Num w v4 d2)
  (l1:(Zp 1000000000 n1).length<=1000) (l2:(Zp 1000000000 d1).length<=1000) (l3:(Zp 1000000000 n2).length<=1000) (l4:(Zp 1000000000 d2).length<=1000) (hd1:0<d1) (hd2:0<d2) (hT:Tabs w) :
  Calls Tryz.prog 67 #[.agg #[v1,v2],.agg #[v3,v4]] w (Zaq (Ans (mkRat ((n1*n2:Nat):Int) (d1*d2))) w):=by
 obtain⟨p1,m1,c1,rfl⟩:=h1.form'
 obtain⟨p2,m2,c2,rfl⟩:=h2.form'
 obtain⟨p3,m3,c3,rfl⟩:=h3.form'
 obtain⟨p4,m4,c4,rfl⟩:=h4.form'
 have H1:=ZqH h1
 have H2:=ZqH h2
 have H3:=ZqH h3
 have H4:=ZqH h4
 have HT:=ZqH hT
 clear h1 h2 h3 h4 hT
 have HL1:Hid ((Zp 1000000000 (n1*n2)).length<=100000):=Zc6 l1 l3
 have HL2:Hid ((Zp 1000000000 (d1*d2)).length<=100000):=Zc6 l2 l4
 have HD:Hid (0<d1*d2):=Nat.mul_pos hd1 hd2
 go_enter Tryz.func67,Tryz.ntmps67
 go_wp2_with fail
 obtain⟨w1,hw1⟩:=ZqJ (((w.alloc (.cells #[.slice p1 m1 c1,.slice p2 m2 c2] 107)).alloc (.cells #[.slice p3 m3 c3,.slice p4 m4 c4] 107)).alloc (ZqF ZqD ZqD))
 rw[hw1]
 have HX1:Hid (Zu w.heap.size [.cells #[.slice p1 m1 c1,.slice p2 m2 c2] 107,.cells #[.slice p3 m3 c3,.slice p4 m4 c4] 107,ZqF ZqD ZqD] w1):=by rw[<- hw1];exact Zu.three w _ _ _
 have HB1:ZqB w w1:=by rw[<- hw1];exact(((ZpV _ w).alloc ZqI _).alloc Zc _).alloc (by simp<;>omega) _
 clear hw1
 have k1:=HX1.out.f4
 obtain⟨ka1,kb1,kc1,kd1⟩:=id k1
 go_region_held3
  (fun w'=>w'.cell? ⟨w.heap.size,0,none⟩=some (.slice p1 m1 c1)/\w'.cell? ⟨w.heap.size,1,none⟩=some (.slice p2 m2 c2)/\w'.cell? ⟨w.heap.size+1,0,none⟩=some (.slice p3 m3 c3)/\w'.cell? ⟨w.heap.size+1,1,none⟩=some (.slice p4 m4 c4))
  (first | exact k1 | exact k2 | exact k3 | exact k4 | exact k5 | exact k6 | exact Zhw Za Za k9 _ _ | exact k9)
  (first
   | (go_at_call_of 48 (Value.slice p1 m1 c1);refine(Zbs (H1.out.after HB1.out.drew ZqI) (H3.out.after HB1.out.drew ZqI) l1 l3).mono ?_;rintro e w4 ⟨va,rfl,hv,hb⟩;obtain⟨pa,ma,ca,rfl⟩:=hv.form';have HA:=ZqH hv;have HX4:=ZqH (HX1.out.drew.below hb HX1.out.lt);have HB4:ZqB w w4:=HB1.out.drew.trans (hb.mono HB1.out.drew.size);have k4:=HX4.out.f4;clear hv hb)
   | (go_at_call_of 48 (Value.slice p2 m2 c2);refine(Zbs (H2.out.after HB4.out ZqI) (H4.out.after HB4.out ZqI) l2 l4).mono ?_;rintro e w5 ⟨vb,rfl,hv,hb⟩;obtain⟨pb,mb,cb,rfl⟩:=hv.form';have HC:=ZqH hv;have HA5:=ZqH (HA.out.after hb ZqI);have HX5:=ZqH (HX4.out.below hb HX4.out.lt);have HB5:ZqB w w5:=HB4.out.trans (hb.mono HB4.out.size);have k5:=HX5.out.f4;clear hv hb)
   | (go_at_call 55;refine(ZeO HA5.out HC.out HL1.out HL2.out HD.out (HT.out.below HB5.out ZqI)).mono ?_;rintro e w9 ⟨x,y,n,rfl,hR,hb9⟩;have HR:=ZqH hR;have HX9:=ZqH (HX5.out.below hb9 HX5.out.lt);have HB9:ZqB w w9:=HB5.out.trans (hb9.mono HB5.out.size);have k9:=HX9.out.f4;have r0:=HX9.out.cell 2 0 (b:=w.heap.size+1+1) rfl rfl rfl;have r1:=HX9.out.cell 2 1 (b:=w.heap.size+1+1) rfl rfl rfl;have f0:=HX9.out.free 2 0 (b:=w.heap.size+1+1) rfl rfl;have f1:=HX9.out.free 2 1 (b:=w.heap.size+1+1) rfl rfl;clear hR hb9)
  )
 all_goals
  have q:=ZD (HX9.out.block 2 (b:=w.heap.size+1+1) rfl rfl) (.string x) (.string y)
  have HBQ:=ZqH (Zy HB9.out (b:=w.heap.size+1+1) Za (.string x) (.string y))
  obtain⟨wz,hwz⟩:=ZqJ ((w9.setCell ⟨w.heap.size+1+1,0,none⟩ (.string x)).setCell ⟨w.heap.size+1+1,1,none⟩ (.string y))
  rw[hwz] at q HBQ
  obtain⟨q0,q1⟩:=q
  rw[hwz]
  clear r0 r1 f0 f1 hwz
  go_wp2
  refine ZpW (v:=.tuple #[ZqE x y,.int .i64 n]) (by simp[results,Tryz.f67,go_sem,q0,q1]) rfl ⟨_,_,_,rfl,HR.out,HBQ.out⟩
theorem ZmP {v1 v2 v3 v4:Value} {n1 d1 n2 d2:Nat} {w:World} (h1:Num w v1 n1) (h2:Num w v2 d1) (h3:Num w v3 n2) (h4:Num w v4 d2)
  (l1:(Zp 1000000000 n1).length<=1000) (l2:(Zp 1000000000 d1).length<=1000) (l3:(Zp 1000000000 n2).length<=1000) (l4:(Zp 1000000000 d2).length<=1000) (hd1:0<d1) (hd2:0<d2) (hT:Tabs w) (h0:n2=0) :
  Calls Tryz.prog 54 #[.agg #[v1,v2],.agg #[v3,v4]] w (Zaq (fun s t e=>s=str []/\t=str []/\e=10) w):=by
 subst h0
 obtain⟨p3,c3,rfl,_,_,_⟩:=h3
 obtain⟨p1,m1,c1,rfl⟩:=h1.form'
 obtain⟨p2,m2,c2,rfl⟩:=h2.form'
 obtain⟨p4,m4,c4,rfl⟩:=h4.form'
 rw[ZL,List.length_nil]
 obtain⟨m3,hm3⟩:=ZqJ 0
 have hm:((m3:Nat):Int)==0:=by simp;omega
 clear h1 h2 h4
 rw[hm3]
 have HM3:=ZqH hm3
 clear hm3
 go_enter Tryz.func54,Tryz.ntmps54
 go_wp2_with fail
 obtain⟨w1,hw1⟩:=ZqJ (((w.alloc (.cells #[.slice p1 m1 c1,.slice p2 m2 c2] 107)).alloc (.cells #[.slice p3 m3 c3,.slice p4 m4 c4] 107)).alloc (ZqF ZqD ZqD))
 rw[hw1]
 have HX1:Hid (Zu w.heap.size [.cells #[.slice p1 m1 c1,.slice p2 m2 c2] 107,.cells #[.slice p3 m3 c3,.slice p4 m4 c4] 107,ZqF ZqD ZqD] w1):=by rw[<- hw1];exact Zu.three w _ _ _
 have HB1:ZqB w w1:=by rw[<- hw1];exact(((ZpV _ w).alloc ZqI _).alloc Zc _).alloc (by simp<;>omega) _
 clear hw1
 have r0:=HX1.out.cell 2 0 (b:=w.heap.size+1+1) rfl rfl rfl
 have r1:=HX1.out.cell 2 1 (b:=w.heap.size+1+1) rfl rfl rfl
 refine ZpW (v:=.tuple #[ZqE ZqD ZqD,.int .i64 10]) (by simp[results,Tryz.f54,go_sem,r0,r1]) rfl ⟨_,_,_,rfl,?_,HB1.out⟩
 exact⟨rfl,rfl,rfl⟩
theorem Zn7 {v1 v2 v3 v4:Value} {n1 d1 n2 d2:Nat} {w:World} (h1:Num w v1 n1) (h2:Num w v2 d1) (h3:Num w v3 n2) (h4:Num w v4 d2)
  (l1:(Zp 1000000000 n1).length<=1000) (l2:(Zp 1000000000 d1).length<=1000) (l3:(Zp 1000000000 n2).length<=1000) (l4:(Zp 1000000000 d2).length<=1000) (hd1:0<d1) (hd2:0<d2) (hT:Tabs w) (h0:0<n2) :
  Calls Tryz.prog 54 #[.agg #[v1,v2],.agg #[v3,v4]] w (Zaq (Ans (mkRat ((n1*d2:Nat):Int) (d1*n2))) w):=by
 obtain⟨m0,hm0⟩:=ZqJ ((Zp 1000000000 n2).length)
 have hmp:=(Zbe (B:=1000000000) Za).2 h0
 obtain⟨p3,c3,rfl⟩:=h3.form
 rw[hm0] at h3 hmp l3 ⊢
 obtain⟨m3,rfl⟩:=ZqJ m0
 have hz:(((m0:Nat):Int)==0)=false:=by rw[beq_eq_false_iff_ne];omega
 have L3:Hid ((Zp 1000000000 n2).length<=1000):=by show _<=_;rw[hm0];exact l3
 clear hm0
 obtain⟨p1,m1,c1,rfl⟩:=h1.form'
 obtain⟨p2,m2,c2,rfl⟩:=h2.form'
 obtain⟨p4,m4,c4,rfl⟩:=h4.form'
 have H1:=ZqH h1
 have H2:=ZqH h2
 have H3:=ZqH h3
 have H4:=ZqH h4
 have HT:=ZqH hT
 clear h1 h2 h3 h4 hT
 obtain⟨m3,hm3⟩:=ZqJ m0
 subst hm3
 have HL1:Hid ((Zp 1000000000 (n1*d2)).length<=100000):=Zc6 l1 l4
 have HL2:Hid ((Zp 1000000000 (d1*n2)).length<=100000):=Zc6 l2 L3.out
 have HD:Hid (0<d1*n2):=Nat.mul_pos hd1 h0
 go_enter Tryz.func54,Tryz.ntmps54
 go_wp2_with fail
 obtain⟨w1,hw1⟩:=ZqJ (((w.alloc (.cells #[.slice p1 m1 c1,.slice p2 m2 c2] 107)).alloc (.cells #[.slice p3 m0 c3,.slice p4 m4 c4] 107)).alloc (ZqF ZqD ZqD))
 rw[hw1]
 have HX1:Hid (Zu w.heap.size [.cells #[.slice p1 m1 c1,.slice p2 m2 c2] 107,.cells #[.slice p3 m0 c3,.slice p4 m4 c4] 107,ZqF ZqD ZqD] w1):=by rw[<- hw1];exact Zu.three w _ _ _
 have HB1:ZqB w w1:=by rw[<- hw1];exact(((ZpV _ w).alloc ZqI _).alloc Zc _).alloc (by simp<;>omega) _
 clear hw1
 have k1:=HX1.out.f4
 obtain⟨ka1,kb1,kc1,kd1⟩:=id k1
 go_wp2_with fail
 go_region_held3
  (fun w'=>w'.cell? ⟨w.heap.size,0,none⟩=some (.slice p1 m1 c1)/\w'.cell? ⟨w.heap.size,1,none⟩=some (.slice p2 m2 c2)/\w'.cell? ⟨w.heap.size+1,0,none⟩=some (.slice p3 m0 c3)/\w'.cell? ⟨w.heap.size+1,1,none⟩=some (.slice p4 m4 c4))
  (first | exact k1 | exact k2 | exact k3 | exact k4 | exact k5 | exact k6 | exact Zhw Za Za k9 _ _ | exact k9)
  (first
   | (go_at_call_of 48 (Value.slice p1 m1 c1);refine(Zbs (H1.out.after HB1.out.drew ZqI) (H4.out.after HB1.out.drew ZqI) l1 l4).mono ?_;rintro e w4 ⟨va,rfl,hv,hb⟩;obtain⟨pa,ma,ca,rfl⟩:=hv.form';have HA:=ZqH hv;have HX4:=ZqH (HX1.out.drew.below hb HX1.out.lt);have HB4:ZqB w w4:=HB1.out.drew.trans (hb.mono HB1.out.drew.size);have k4:=HX4.out.f4;clear hv hb)
   | (go_at_call_of 48 (Value.slice p2 m2 c2);refine(Zbs (H2.out.after HB4.out ZqI) (H3.out.after HB4.out ZqI) l2 L3.out).mono ?_;rintro e w5 ⟨vb,rfl,hv,hb⟩;obtain⟨pb,mb,cb,rfl⟩:=hv.form';have HC:=ZqH hv;have HA5:=ZqH (HA.out.after hb ZqI);have HX5:=ZqH (HX4.out.below hb HX4.out.lt);have HB5:ZqB w w5:=HB4.out.trans (hb.mono HB4.out.size);have k5:=HX5.out.f4;clear hv hb)
   | (go_at_call 55;refine(ZeO HA5.out HC.out HL1.out HL2.out HD.out (HT.out.below HB5.out ZqI)).mono ?_;rintro e w9 ⟨x,y,n,rfl,hR,hb9⟩;have HR:=ZqH hR;have HX9:=ZqH (HX5.out.below hb9 HX5.out.lt);have HB9:ZqB w w9:=HB5.out.trans (hb9.mono HB5.out.size);have k9:=HX9.out.f4;have r0:=HX9.out.cell 2 0 (b:=w.heap.size+1+1) rfl rfl rfl;have r1:=HX9.out.cell 2 1 (b:=w.heap.size+1+1) rfl rfl rfl;have f0:=HX9.out.free 2 0 (b:=w.heap.size+1+1) rfl rfl;have f1:=HX9.out.free 2 1 (b:=w.heap.size+1+1) rfl rfl;clear hR hb9)
  )
 all_goals
  have q:=ZD (HX9.out.block 2 (b:=w.heap.size+1+1) rfl rfl) (.string x) (.string y)
  have HBQ:=ZqH (Zy HB9.out (b:=w.heap.size+1+1) Za (.string x) (.string y))
  obtain⟨wz,hwz⟩:=ZqJ ((w9.setCell ⟨w.heap.size+1+1,0,none⟩ (.string x)).setCell ⟨w.heap.size+1+1,1,none⟩ (.string y))
  rw[hwz] at q HBQ
  obtain⟨q0,q1⟩:=q
  rw[hwz]
  clear r0 r1 f0 f1 hwz
  go_wp2
  refine ZpW (v:=.tuple #[ZqE x y,.int .i64 n]) (by simp[results,Tryz.f54,go_sem,q0,q1]) rfl ⟨_,_,_,rfl,HR.out,HBQ.out⟩
end Go.Proofs.YtjmckebecpjjfaaGreatDoor
