/- The parts BelL, Made, Ratio, Vals, LawOps, BelB. -/
import Derived.Test.YtjmckebecpjjfaaGreatDoorH11
set_option maxRecDepth 100000
set_option maxHeartbeats 4000000
set_option linter.unusedVariables false
set_option linter.unusedSimpArgs false
namespace Go.Proofs.YtjmckebecpjjfaaGreatDoor
open Go.RowKit Go.Shelf
attribute [local go_sem ↓] Go.wp_at_zero Go.wp_at_succ
def I64 (x:Int):Prop:=-9223372036854775808<=x/\x<=9223372036854775807
section
variable {w w':World} {b o B:Nat}
theorem ZS {v:Value} (h:w.cell? ⟨b,o,none⟩=some v) (hb:b<w.heap.size) (hw:Below B w w') (hB:w.heap.size<=B):w'.cell? ⟨b,o,none⟩=some v:=
 (hw.cell (p:=⟨b,o,none⟩) (Zp2 hb hB)).trans h
def Zdu (w:World) (b o:Nat) (p:PP):Prop:=w.cell? ⟨b,o,none⟩=some (.string p.1)/\w.cell? ⟨b,o+1,none⟩=some (.string p.2)
def IntC (w:World) (b o:Nat) (x:Int):Prop:=w.cell? ⟨b,o,none⟩=some (.int .i64 x)/\I64 x
theorem Zdu.stay {p:PP} (h:Zdu w b o p) (hb:b<w.heap.size) (hw:Below B w w') (hB:w.heap.size<=B):Zdu w' b o p:=⟨ZS h.1 hb hw hB,ZS h.2 hb hw hB⟩
theorem IntC.stay {x:Int} (h:IntC w b o x) (hb:b<w.heap.size) (hw:Below B w w') (hB:w.heap.size<=B):IntC w' b o x:=⟨ZS h.1 hb hw hB,h.2⟩
end
def RunR (w:World) (b o:Nat) (r:RunP):Prop:=IntC w b o r.y/\IntC w b (o+1) r.a/\IntC w b (o+2) r.b
def ZbQ (w:World) (b o:Nat) (s:ShareP):Prop:=IntC w b o s.x/\IntC w b (o+1) s.y/\Zdu w b (o+2) s.weight
def Zb1 (w:World) (b o:Nat) (s:StrideP):Prop:=IntC w b o s.dx/\IntC w b (o+1) s.dy/\Zdu w b (o+2) s.chance
theorem RunR.stays:Zde RunR:=fun _ _ _ _ _ _ h hb hw hB=>⟨h.1.stay hb hw hB,h.2.1.stay hb hw hB,h.2.2.stay hb hw hB⟩
theorem ZbQ.stays:Zde ZbQ:=fun _ _ _ _ _ _ h hb hw hB=>⟨h.1.stay hb hw hB,h.2.1.stay hb hw hB,h.2.2.stay hb hw hB⟩
theorem Zb1.stays:Zde Zb1:=fun _ _ _ _ _ _ h hb hw hB=>⟨h.1.stay hb hw hB,h.2.1.stay hb hw hB,h.2.2.stay hb hw hB⟩
abbrev RunL (w:World) (v:Value) (l:List RunP):Prop:=LL 3 RunR w v l
abbrev Zay (w:World) (v:Value) (l:List ShareP):Prop:=LL 4 ZbQ w v l
abbrev Zad (w:World) (v:Value) (l:List StrideP):Prop:=LL 4 Zb1 w v l
theorem RunL.stay (w w':World) (v:Value) (x:List RunP) (B:Nat) (h:RunL w v x) (hb:Below B w w') (hB:w.heap.size<=B):RunL w' v x:=LL.after RunR.stays h hb hB
theorem Zay.stay (w w':World) (v:Value) (x:List ShareP) (B:Nat) (h:Zay w v x) (hb:Below B w w') (hB:w.heap.size<=B):Zay w' v x:=LL.after ZbQ.stays h hb hB
theorem Zad.stay (w w':World) (v:Value) (x:List StrideP) (B:Nat) (h:Zad w v x) (hb:Below B w w') (hB:w.heap.size<=B):Zad w' v x:=LL.after Zb1.stays h hb hB
def Zeq (w:World) (b o:Nat) (s:SceneP):Prop:=Zdu w b o s.weight/\InR Zay w b (o+2) s.start/\InR Zad w b (o+3) s.strides
theorem Zeq.stays:Zde Zeq:=fun w w' b o x B h hb hw hB=>⟨h.1.stay hb hw hB,InR.stays Zay.stay w w' b (o+2) x.start B h.2.1 hb hw hB,InR.stays Zad.stay w w' b (o+3) x.strides B h.2.2 hb hw hB⟩
abbrev Zb7 (w:World) (v:Value) (l:List SceneP):Prop:=LL 4 Zeq w v l
def Zdy (w:World) (b o:Nat) (n:NoteP):Prop:=IntC w b o n.time/\IntC w b (o+1) n.mask/\InR RunL w b (o+2) n.cells/\Zdu w b (o+3) n.inn/\Zdu w b (o+5) n.out
theorem Zdy.stays:Zde Zdy:=fun w w' b o x B h hb hw hB=>⟨h.1.stay hb hw hB,h.2.1.stay hb hw hB,InR.stays RunL.stay w w' b (o+2) x.cells B h.2.2.1 hb hw hB,h.2.2.2.1.stay hb hw hB,h.2.2.2.2.stay hb hw hB⟩
abbrev Zbm (w:World) (v:Value) (l:List NoteP):Prop:=LL 7 Zdy w v l
def ZaQ (w:World) (b o:Nat) (m:Pl×Rat):Prop:=IntC w b o m.1.1/\IntC w b (o+1) m.1.2.1/\IntC w b (o+2) m.1.2.2/\∃ p:PP,IsP m.2 p.1 p.2/\Zdu w b (o+3) p
theorem ZaQ.stays:Zde ZaQ:=fun _ _ _ _ _ _ h hb hw hB=>by
 obtain⟨h1,h2,h3,p,h4,h5⟩:=h
 exact⟨h1.stay hb hw hB,h2.stay hb hw hB,h3.stay hb hw hB,p,h4,h5.stay hb hw hB⟩
abbrev ZK (w:World) (v:Value) (l:Fl):Prop:=LL 5 ZaQ w v l
structure BelZ (w:World):Prop where
 z0:w.cell? ⟨1,0,none⟩=some (.string ⟨#[48]⟩)
 z1:w.cell? ⟨1,1,none⟩=some (.string ⟨#[49]⟩)
 o0:w.cell? ⟨0,0,none⟩=some (.string ⟨#[49]⟩)
 o1:w.cell? ⟨0,1,none⟩=some (.string ⟨#[49]⟩)
 g0:w.cell? ⟨2,0,none⟩=some (.int .i64 (-1))
 g1:w.cell? ⟨2,1,none⟩=some (.int .i64 (-1))
theorem BelZ.below {w w':World} {B:Nat} (h:BelZ w) (hb:Below B w w') (hB:w.heap.size<=B):BelZ w':=
 have k:∀ {b o:Nat} {v:Value},w.cell? ⟨b,o,none⟩=some v->w'.cell? ⟨b,o,none⟩=some v:=fun hc=>ZS hc (Zqf _ _ hc) hb hB
 ⟨k h.z0,k h.z1,k h.o0,k h.o1,k h.g0,k h.g1⟩
abbrev belV (b:BelP) (lv sv:Value):Value:=.agg #[.int .i64 b.sea.w,.int .i64 b.sea.h,.int .i64 b.sea.size,lv,sv]
abbrev Ze1 (g:GridP) (lv:Value):Value:=.agg #[.int .i64 g.w,.int .i64 g.h,.int .i64 g.size,lv]
abbrev belO (b:BelP) (lv sv:Value):Obj:=.cells #[.int .i64 b.sea.w,.int .i64 b.sea.h,.int .i64 b.sea.size,lv,sv] 27
abbrev ZaS (g:GridP) (lv:Value):Obj:=.cells #[.int .i64 g.w,.int .i64 g.h,.int .i64 g.size,lv] 24
structure GridIn (g:GridP) (lv:Value) (w:World):Prop where
 land:RunL w lv g.land
 w64:I64 g.w
 h64:I64 g.h
 s64:I64 g.size
structure BelIn (b:BelP) (lv sv:Value) (w:World):Prop where
 sea:GridIn b.sea lv w
 scenes:Zb7 w sv b.scenes
 tabs:Tabs w
 vars:BelZ w
theorem GridIn.below {g:GridP} {lv:Value} {w w':World} {B:Nat} (h:GridIn g lv w) (hb:Below B w w') (hB:w.heap.size<=B):GridIn g lv w':=⟨h.land.after RunR.stays hb hB,h.w64,h.h64,h.s64⟩
theorem BelIn.below {b:BelP} {lv sv:Value} {w w':World} {B:Nat} (h:BelIn b lv sv w) (hb:Below B w w') (hB:w.heap.size<=B):BelIn b lv sv w':=
 ⟨h.sea.below hb hB,h.scenes.after Zeq.stays hb hB,h.tabs.below hb hB,h.vars.below hb hB⟩
theorem Zee {l:List RunP} {i:Nat} (h:i<l.length):l[i]=rnA l i:=by simp[rnA,List.getD,h]
theorem Zc2 {l:List ShareP} {i:Nat} (h:i<l.length):l[i]=shA l i:=by simp[shA,List.getD,h]
theorem ZcG {l:List StrideP} {i:Nat} (h:i<l.length):l[i]=stA l i:=by simp[stA,List.getD,h]
theorem ZdC {l:List SceneP} {i:Nat} (h:i<l.length):l[i]=scA l i:=by simp[scA,List.getD,h]
theorem Zbn {l:List NoteP} {i:Nat} (h:i<l.length):l[i]=ntA l i:=by simp[ntA,List.getD,h]
theorem Z9 {l:Fl} {i:Nat} (h:i<l.length):l[i]=mA l i:=by simp[mA,List.getD,h]
def Made (s t x y:ByteArray) (e:Int):Prop:=
 ((Z7 s.data.toList && Z7 t.data.toList)=false/\x=str []/\y=str []/\e=2)\/
 ((Z7 s.data.toList && Z7 t.data.toList)=true/\Zr t.data.toList=0/\x=str []/\y=str []/\e=10)\/
 ((Z7 s.data.toList && Z7 t.data.toList)=true/\0<Zr t.data.toList/\Ans (ratP s t) x y e)
theorem Zoj (s t:ByteArray) (w:World) (hs:s.size<=1000000) (ht:t.size<=1000000) (hT:Tabs w) :
  Calls Tryz.prog 100 #[.string s,.string t] w (Zaq (Made s t) w):=by
 have HT:=ZqH hT
 clear hT
 cases h1:Z7 s.data.toList
 ·have H1:=ZqH h1
  clear h1
  go_enter Tryz.func100,Tryz.ntmps100
  go_wp2_with fail
  obtain⟨w1,hw1⟩:=ZqJ (w.alloc (ZqF ZqD ZqD))
  rw[hw1]
  have HX1:Hid (Zu w.heap.size [ZqF ZqD ZqD] w1):=by rw[<- hw1];exact Zu.one w _
  have HB1:ZqB w w1:=by rw[<- hw1];exact(ZpV _ w).alloc ZqI _
  clear hw1
  refine(ZaN s _ hs).mono ?_
  rintro e w2 ⟨rfl,hb2⟩
  rw[H1.out]
  have HX2:=ZqH (HX1.out.below hb2 HX1.out.lt)
  have HB2:=ZqH (HB1.out.trans (hb2.mono HB1.out.size))
  clear hb2
  have r0:=HX2.out.cell 0 0 (b:=w.heap.size) rfl rfl rfl
  have r1:=HX2.out.cell 0 1 (b:=w.heap.size) rfl rfl rfl
  have f0:=HX2.out.free 0 0 (b:=w.heap.size) rfl rfl
  have f1:=HX2.out.free 0 1 (b:=w.heap.size) rfl rfl
  go_wp2
  have q:=ZD (HX2.out.block 0 (b:=w.heap.size) rfl rfl) (.string ZqD) (.string ZqD)
  have HBQ:=ZqH (Zy HB2.out (b:=w.heap.size) Za (.string ZqD) (.string ZqD))
  obtain⟨w9,hw9⟩:=ZqJ ((w2.setCell ⟨w.heap.size,0,none⟩ (.string ZqD)).setCell ⟨w.heap.size,1,none⟩ (.string ZqD))
  rw[hw9] at q HBQ
  obtain⟨q0,q1⟩:=q
  rw[hw9]
  clear r0 r1 f0 f1 hw9
  go_wp2
  refine ZpW (v:=.tuple #[ZqE ZqD ZqD,.int .i64 2]) (by simp[results,Tryz.f100,go_sem,q0,q1]) rfl ⟨_,_,_,rfl,?_,HBQ.out⟩
  exact .inl ⟨by rw[H1.out];rfl,rfl,rfl,rfl⟩
 ·have H1:=ZqH h1
  clear h1
  cases h2:Z7 t.data.toList
  ·have H2:=ZqH h2
   clear h2
   go_enter Tryz.func100,Tryz.ntmps100
   go_wp2_with fail
   obtain⟨w1,hw1⟩:=ZqJ (w.alloc (ZqF ZqD ZqD))
   rw[hw1]
   have HX1:Hid (Zu w.heap.size [ZqF ZqD ZqD] w1):=by rw[<- hw1];exact Zu.one w _
   have HB1:ZqB w w1:=by rw[<- hw1];exact(ZpV _ w).alloc ZqI _
   clear hw1
   refine(ZaN s _ hs).mono ?_
   rintro e w2 ⟨rfl,hb2⟩
   rw[H1.out]
   have HX2:=ZqH (HX1.out.below hb2 HX1.out.lt)
   have HB2:=ZqH (HB1.out.trans (hb2.mono HB1.out.size))
   clear hb2
   go_wp2_with fail
   refine(ZaN t _ ht).mono ?_
   rintro e w3 ⟨rfl,hb3⟩
   rw[H2.out]
   have HX3:=ZqH (HX2.out.below hb3 HX2.out.lt)
   have HB3:=ZqH (HB2.out.trans (hb3.mono HB2.out.size))
   clear hb3
   have r0:=HX3.out.cell 0 0 (b:=w.heap.size) rfl rfl rfl
   have r1:=HX3.out.cell 0 1 (b:=w.heap.size) rfl rfl rfl
   have f0:=HX3.out.free 0 0 (b:=w.heap.size) rfl rfl
   have f1:=HX3.out.free 0 1 (b:=w.heap.size) rfl rfl
   go_wp2
   have q:=ZD (HX3.out.block 0 (b:=w.heap.size) rfl rfl) (.string ZqD) (.string ZqD)
   have HBQ:=ZqH (Zy HB3.out (b:=w.heap.size) Za (.string ZqD) (.string ZqD))
   obtain⟨w9,hw9⟩:=ZqJ ((w3.setCell ⟨w.heap.size,0,none⟩ (.string ZqD)).setCell ⟨w.heap.size,1,none⟩ (.string ZqD))
   rw[hw9] at q HBQ
   obtain⟨q0,q1⟩:=q
   rw[hw9]
   clear r0 r1 f0 f1 hw9
   go_wp2
   refine ZpW (v:=.tuple #[ZqE ZqD ZqD,.int .i64 2]) (by simp[results,Tryz.f100,go_sem,q0,q1]) rfl ⟨_,_,_,rfl,?_,HBQ.out⟩
   exact .inl ⟨by rw[H2.out,Bool.and_false],rfl,rfl,rfl⟩
  ·have HZ:=ZqH (Zjy h2)
   have H2:=ZqH h2
   clear h2
   have dl:t.toList=t.data.toList:=Zqi ..
   by_cases h0:Zr t.data.toList=0
   ·have hz:(t.toList==[48])=true:=by
     rw[dl,HZ.out.2 h0];rfl
    have H0:=ZqH h0
    clear h0 dl
    go_enter Tryz.func100,Tryz.ntmps100
    go_wp2_with fail
    obtain⟨w1,hw1⟩:=ZqJ (w.alloc (ZqF ZqD ZqD))
    rw[hw1]
    have HX1:Hid (Zu w.heap.size [ZqF ZqD ZqD] w1):=by rw[<- hw1];exact Zu.one w _
    have HB1:ZqB w w1:=by rw[<- hw1];exact(ZpV _ w).alloc ZqI _
    clear hw1
    refine(ZaN s _ hs).mono ?_
    rintro e w2 ⟨rfl,hb2⟩
    rw[H1.out]
    have HX2:=ZqH (HX1.out.below hb2 HX1.out.lt)
    have HB2:=ZqH (HB1.out.trans (hb2.mono HB1.out.size))
    clear hb2
    go_wp2_with fail
    refine(ZaN t _ ht).mono ?_
    rintro e w3 ⟨rfl,hb3⟩
    rw[H2.out]
    have HX3:=ZqH (HX2.out.below hb3 HX2.out.lt)
    have HB3:=ZqH (HB2.out.trans (hb3.mono HB2.out.size))
    clear hb3
    have r0:=HX3.out.cell 0 0 (b:=w.heap.size) rfl rfl rfl
    have r1:=HX3.out.cell 0 1 (b:=w.heap.size) rfl rfl rfl
    have f0:=HX3.out.free 0 0 (b:=w.heap.size) rfl rfl
    have f1:=HX3.out.free 0 1 (b:=w.heap.size) rfl rfl
    go_wp2
    have q:=ZD (HX3.out.block 0 (b:=w.heap.size) rfl rfl) (.string ZqD) (.string ZqD)
    have HBQ:=ZqH (Zy HB3.out (b:=w.heap.size) Za (.string ZqD) (.string ZqD))
    obtain⟨w9,hw9⟩:=ZqJ ((w3.setCell ⟨w.heap.size,0,none⟩ (.string ZqD)).setCell ⟨w.heap.size,1,none⟩ (.string ZqD))
    rw[hw9] at q HBQ
    obtain⟨q0,q1⟩:=q
    rw[hw9]
    clear r0 r1 f0 f1 hw9
    go_wp2
    refine ZpW (v:=.tuple #[ZqE ZqD ZqD,.int .i64 10]) (by simp[results,Tryz.f100,go_sem,q0,q1]) rfl ⟨_,_,_,rfl,?_,HBQ.out⟩
    exact .inr (.inl ⟨by rw[H1.out,H2.out];rfl,H0.out,rfl,rfl,rfl⟩)
   ·have hz:(t.toList==[48])=false:=by
     rw[beq_eq_false_iff_ne,dl]
     intro hc
     refine h0 (HZ.out.1 ?_)
     rw[<- ZdN t,hc];rfl
    have H0:=ZqH h0
    clear h0 dl
    obtain⟨cs1,cs2⟩:=Zaj H1.out
    obtain⟨ct1,ct2⟩:=Zaj H2.out
    have hls:=Zcl cs1.dig (j:=70) (by rw[<- ZJ];omega)
    have hlt:=Zcl ct1.dig (j:=70) (by rw[<- ZJ];omega)
    have HDS:=ZqH cs1.dig
    have HDT:=ZqH ct1.dig
    clear cs1 cs2 ct1 ct2
    go_enter Tryz.func100,Tryz.ntmps100
    go_wp2_with fail
    obtain⟨w1,hw1⟩:=ZqJ (w.alloc (ZqF ZqD ZqD))
    rw[hw1]
    have HX1:Hid (Zu w.heap.size [ZqF ZqD ZqD] w1):=by rw[<- hw1];exact Zu.one w _
    have HB1:ZqB w w1:=by rw[<- hw1];exact(ZpV _ w).alloc ZqI _
    clear hw1
    refine(ZaN s _ hs).mono ?_
    rintro e w2 ⟨rfl,hb2⟩
    rw[H1.out]
    have HX2:=ZqH (HX1.out.below hb2 HX1.out.lt)
    have HB2:=ZqH (HB1.out.trans (hb2.mono HB1.out.size))
    clear hb2
    go_wp2_with fail
    refine(ZaN t _ ht).mono ?_
    rintro e w3 ⟨rfl,hb3⟩
    rw[H2.out]
    have HX3:=ZqH (HX2.out.below hb3 HX2.out.lt)
    have HB3:=ZqH (HB2.out.trans (hb3.mono HB2.out.size))
    clear hb3
    go_wp2_with fail
    refine(ZhJ s hs HDS.out _).mono ?_
    rintro e w4 ⟨vn,rfl,hN,hb4⟩
    obtain⟨pn,ln,cn,rfl⟩:=hN.form'
    have HN4:=ZqH hN
    have HX4:=ZqH (HX3.out.below hb4 HX3.out.lt)
    have HB4:=ZqH (HB3.out.trans (hb4.mono HB3.out.size))
    clear hN hb4
    go_wp2_with fail
    refine(ZhJ t ht HDT.out _).mono ?_
    rintro e w5 ⟨vd,rfl,hD,hb5⟩
    obtain⟨pd,ld,cd,rfl⟩:=hD.form'
    have HD5:=ZqH hD
    have HN5:=ZqH (HN4.out.after hb5 ZqI)
    have HX5:=ZqH (HX4.out.below hb5 HX4.out.lt)
    have HB5:=ZqH (HB4.out.trans (hb5.mono HB4.out.size))
    clear hD hb5
    go_wp2_with fail
    refine(ZeO HN5.out HD5.out Za Za (by have:=H0.out;omega) (HT.out.below HB5.out ZqI)).mono ?_
    rintro e w6 ⟨x,y,n,rfl,hR,hb6⟩
    have HR:=ZqH hR
    have HX6:=ZqH (HX5.out.below hb6 HX5.out.lt)
    have HB6:=ZqH (HB5.out.trans (hb6.mono HB5.out.size))
    clear hR hb6
    have r0:=HX6.out.cell 0 0 (b:=w.heap.size) rfl rfl rfl
    have r1:=HX6.out.cell 0 1 (b:=w.heap.size) rfl rfl rfl
    have f0:=HX6.out.free 0 0 (b:=w.heap.size) rfl rfl
    have f1:=HX6.out.free 0 1 (b:=w.heap.size) rfl rfl
    go_wp2
    have q:=ZD (HX6.out.block 0 (b:=w.heap.size) rfl rfl) (.string x) (.string y)
    have HBQ:=ZqH (Zy HB6.out (b:=w.heap.size) Za (.string x) (.string y))
    obtain⟨w9,hw9⟩:=ZqJ ((w6.setCell ⟨w.heap.size,0,none⟩ (.string x)).setCell ⟨w.heap.size,1,none⟩ (.string y))
    rw[hw9] at q HBQ
    obtain⟨q0,q1⟩:=q
    rw[hw9]
    clear r0 r1 f0 f1 hw9
    go_wp2
    refine ZpW (v:=.tuple #[ZqE x y,.int .i64 n]) (by simp[results,Tryz.f100,go_sem,q0,q1]) rfl ⟨_,_,_,rfl,?_,HBQ.out⟩
    exact .inr (.inr ⟨by rw[H1.out,H2.out];rfl,by have:=H0.out;omega,HR.out⟩)
def Zpv (n:Int) (w:World) (e:Ending) (w':World):Prop:=
 ∃ s r,e=.returned (.tuple #[.string s,.int .i64 r])/\((n<0/\s=str []/\r=11)\/(0<=n/\s=str (Lib.decDigits n.toNat)/\r=0))/\Below w.heap.size w w'
theorem Zk2 {n:Int} (h:0<=n):Lib.itoa n=Lib.decDigits n.toNat:=by
 unfold Lib.itoa
 rw[if_neg Za]
theorem ZiH (n:Int) (h0 : -9223372036854775808<=n) (h1:n<=9223372036854775807) (w:World) (hT:Tabs w) :
  Calls Tryz.prog 99 #[.int .i64 n] w (Zpv n w):=by
 have HI:=ZqH (Tryz.strconv_Itoa n h0 h1 w hT)
 have HT:=ZqH hT
 have H01:=ZqH (Zqy h0 h1)
 clear hT h0 h1
 by_cases hn:n<0
 ·go_enter Tryz.func99,Tryz.ntmps99
  go_wp2
  go_ret2
  exact⟨_,_,rfl,.inl ⟨hn,rfl,rfl⟩,ZpV _ _⟩
 ·go_enter Tryz.func99,Tryz.ntmps99
  go_wp2_with fail
  refine HI.out.mono ?_
  rintro e w2 ⟨rfl,k,os,hw⟩
  have HB:ZqB w w2:=by rw[hw];exact Lib.below_grow _ _ ZqI _ _
  clear hw
  obtain⟨s,hs⟩:=ZqJ ((⟨(Lib.itoa n).toArray⟩:ByteArray))
  rw[hs]
  have HS:Hid (s=str (Lib.decDigits n.toNat)):=by show _=_;rw[<- hs,Zk2 Za];rfl
  clear hs
  go_wp2
  go_ret2
  exact⟨_,_,rfl,.inr ⟨Za,HS.out,rfl⟩,HB.out⟩
def Zm5 (a b:Int) (x y:ByteArray) (e:Int):Prop:=
 ((a<0\/b<0)/\x=str []/\y=str []/\e=11)\/(0<=a/\b=0/\x=str []/\y=str []/\e=10)\/(0<=a/\0<b/\Ans (mkRat (a.toNat:Nat) b.toNat) x y e)
theorem ZfM {n:Nat} (h:(Lib.decDigits n).length<=600):Z7 (Lib.decDigits n)=true:=Zda (ZcN n) h
theorem Zkg {a b:Nat} (ha:(Lib.decDigits a).length<=600) (hb:(Lib.decDigits b).length<=600) {x y:ByteArray} {e:Int} (h:Made (str (Lib.decDigits a)) (str (Lib.decDigits b)) x y e) :
  (b=0/\x=str []/\y=str []/\e=10)\/(0<b/\Ans (mkRat (a:Nat) b) x y e):=by
 unfold Made ratP at h
 rw[ZbX,ZbX,ZfM ha,ZfM hb,ZaC,ZaC] at h
 rcases h with ⟨h,_⟩ | ⟨_,h0,h1,h2,h3⟩ | ⟨_,h0,h1⟩
 ·cases h
 ·exact .inl ⟨h0,h1,h2,h3⟩
 ·exact .inr ⟨h0,h1⟩
theorem ZfT {n:Int} (h:n<=9223372036854775807):(Lib.decDigits n.toNat).length<=600:=Zp4 (Zau (k:=20) Za Za) Za
theorem ZlF {a b:Int} (h0:0<=a) (h1:0<=b) (ha:a<=9223372036854775807) (hb:b<=9223372036854775807) {s t x y:ByteArray} {e:Int} (hs:s=str (Lib.decDigits a.toNat)) (ht:t=str (Lib.decDigits b.toNat)) (h:Made s t x y e):Zm5 a b x y e:=by
 subst hs;subst ht
 rcases Zkg (ZfT ha) (ZfT hb) h with ⟨k1,k2,k3,k4⟩ | ⟨k1,k2⟩
 ·exact .inr (.inl ⟨h0,Za,k2,k3,k4⟩)
 ·exact .inr (.inr ⟨h0,Za,k2⟩)
theorem Zm4 (a b:Int) (ha0 : -9223372036854775808<=a) (ha1:a<=9223372036854775807) (hb0 : -9223372036854775808<=b) (hb1:b<=9223372036854775807) (w:World) (hT:Tabs w) :
  Calls Tryz.prog 46 #[.int .i64 a,.int .i64 b] w (Zaq (Zm5 a b) w):=by
 have HT:=ZqH hT
 clear hT
 go_enter Tryz.func46,Tryz.ntmps46
 go_wp2_with fail
 obtain⟨w1,hw1⟩:=ZqJ (w.alloc (ZqF ZqD ZqD))
 rw[hw1]
 have HX1:Hid (Zu w.heap.size [ZqF ZqD ZqD] w1):=by rw[<- hw1];exact Zu.one w _
 have HB1:ZqB w w1:=by rw[<- hw1];exact(ZpV _ w).alloc ZqI _
 clear hw1
 refine(ZiH a ha0 ha1 _ (HT.out.below HB1.out ZqI)).mono ?_
 rintro e w2 ⟨s,r1,rfl,hR1,hb2⟩
 have HX2:=ZqH (HX1.out.below hb2 HX1.out.lt)
 have HB2:=ZqH (HB1.out.trans (hb2.mono HB1.out.size))
 have HR1:=ZqH hR1
 clear hb2 hR1
 go_wp2_with fail
 refine(ZiH b hb0 hb1 _ (HT.out.below HB2.out ZqI)).mono ?_
 rintro e w3 ⟨t,r2,rfl,hR2,hb3⟩
 have HX3:=ZqH (HX2.out.below hb3 HX2.out.lt)
 have HB3:=ZqH (HB2.out.trans (hb3.mono HB2.out.size))
 have HR2:=ZqH hR2
 clear hb3 hR2
 by_cases hneg:a<0\/b<0
 ·
  have r0:=HX3.out.cell 0 0 (b:=w.heap.size) rfl rfl rfl
  have r1:=HX3.out.cell 0 1 (b:=w.heap.size) rfl rfl rfl
  have f0:=HX3.out.free 0 0 (b:=w.heap.size) rfl rfl
  have f1:=HX3.out.free 0 1 (b:=w.heap.size) rfl rfl
  rcases HR1.out with ⟨k1,k2,rfl⟩ | ⟨k1,k2,rfl⟩
  ·clear k1 k2
   go_wp2
   have q:=ZD (HX3.out.block 0 (b:=w.heap.size) rfl rfl) (.string ZqD) (.string ZqD)
   have HBQ:=ZqH (Zy HB3.out (b:=w.heap.size) Za (.string ZqD) (.string ZqD))
   obtain⟨w9,hw9⟩:=ZqJ ((w3.setCell ⟨w.heap.size,0,none⟩ (.string ZqD)).setCell ⟨w.heap.size,1,none⟩ (.string ZqD))
   rw[hw9] at q HBQ
   obtain⟨q0,q1⟩:=q
   rw[hw9]
   clear r0 r1 f0 f1 hw9
   go_wp2
   refine ZpW (v:=.tuple #[ZqE ZqD ZqD,.int .i64 11]) (by simp[results,Tryz.f46,go_sem,q0,q1]) rfl ⟨_,_,_,rfl,?_,HBQ.out⟩
   exact .inl ⟨hneg,rfl,rfl,rfl⟩
  ·rcases HR2.out with ⟨m1,m2,rfl⟩ | ⟨m1,m2,rfl⟩
   ·clear k1 k2 m1 m2
    go_wp2
    have q:=ZD (HX3.out.block 0 (b:=w.heap.size) rfl rfl) (.string ZqD) (.string ZqD)
    have HBQ:=ZqH (Zy HB3.out (b:=w.heap.size) Za (.string ZqD) (.string ZqD))
    obtain⟨w9,hw9⟩:=ZqJ ((w3.setCell ⟨w.heap.size,0,none⟩ (.string ZqD)).setCell ⟨w.heap.size,1,none⟩ (.string ZqD))
    rw[hw9] at q HBQ
    obtain⟨q0,q1⟩:=q
    rw[hw9]
    clear r0 r1 f0 f1 hw9
    go_wp2
    refine ZpW (v:=.tuple #[ZqE ZqD ZqD,.int .i64 11]) (by simp[results,Tryz.f46,go_sem,q0,q1]) rfl ⟨_,_,_,rfl,?_,HBQ.out⟩
    exact .inl ⟨hneg,rfl,rfl,rfl⟩
   ·exfalso;omega
 ·have hz:r1=0/\r2=0/\Hid (s=str (Lib.decDigits a.toNat))/\Hid (t=str (Lib.decDigits b.toNat))/\0<=a/\0<=b:=by
   rcases HR1.out with ⟨k1,k2,k3⟩ | ⟨k1,k2,k3⟩
   ·omega
   ·rcases HR2.out with ⟨m1,m2,m3⟩ | ⟨m1,m2,m3⟩
    ·omega
    ·exact⟨k3,m3,k2,m2,k1,m1⟩
  obtain⟨rfl,rfl,HS,HU,ka,kb⟩:=hz
  have hs:s.size<=1000000:=by rw[HS.out,ZbW];exact Zp4 (ZfT ha1) Za
  have ht:t.size<=1000000:=by rw[HU.out,ZbW];exact Zp4 (ZfT hb1) Za
  clear hneg
  go_wp2_with fail
  refine(Zoj s t _ hs ht (HT.out.below HB3.out ZqI)).mono ?_
  rintro e w4 ⟨x,y,n,rfl,hR,hb4⟩
  have HR:=ZqH hR
  have HX4:=ZqH (HX3.out.below hb4 HX3.out.lt)
  have HB4:=ZqH (HB3.out.trans (hb4.mono HB3.out.size))
  clear hR hb4
  have r0:=HX4.out.cell 0 0 (b:=w.heap.size) rfl rfl rfl
  have r1:=HX4.out.cell 0 1 (b:=w.heap.size) rfl rfl rfl
  have f0:=HX4.out.free 0 0 (b:=w.heap.size) rfl rfl
  have f1:=HX4.out.free 0 1 (b:=w.heap.size) rfl rfl
  go_wp2
  have q:=ZD (HX4.out.block 0 (b:=w.heap.size) rfl rfl) (.string x) (.string y)
  have HBQ:=ZqH (Zy HB4.out (b:=w.heap.size) Za (.string x) (.string y))
  obtain⟨w9,hw9⟩:=ZqJ ((w4.setCell ⟨w.heap.size,0,none⟩ (.string x)).setCell ⟨w.heap.size,1,none⟩ (.string y))
  rw[hw9] at q HBQ
  obtain⟨q0,q1⟩:=q
  rw[hw9]
  clear r0 r1 f0 f1 hw9
  go_wp2
  refine ZpW (v:=.tuple #[ZqE x y,.int .i64 n]) (by simp[results,Tryz.f46,go_sem,q0,q1]) rfl ⟨_,_,_,rfl,?_,HBQ.out⟩
  exact ZlF ka kb ha1 hb1 HS.out HU.out HR.out
abbrev pObj (x y:ByteArray):Obj:=.cells #[.string x,.string y] 39
def ZaE (v:Value) (w:World) (e:Ending) (w':World):Prop:=e=.returned v/\Below w.heap.size w w'
abbrev pV (s t:ByteArray):Value:=.agg #[.string s,.string t]
theorem IsP.le {q:Rat} {s t:ByteArray} (h:IsP q s t):s.size<=1000000/\t.size<=1000000:=by
 obtain⟨h1,h2⟩:=h.fits
 rw[h.num,h.den,ZbW,ZbW]
 exact⟨Zp4 h1 Zd,Zp4 h2 Zd⟩
theorem IsP.one {q:Rat} {s t u v:ByteArray} (h:IsP q s t) (k:IsP q u v):s=u/\t=v:=⟨by rw[h.num,k.num],by rw[h.den,k.den]⟩
theorem Zkp (n low high:Int) (w:World):Calls Tryz.prog 85 #[.int .i64 n,.int .i64 low,.int .i64 high] w (ZB w (decide (low<=n) && decide (n<=high))):=by
 by_cases h1:low<=n
 ·by_cases h2:n<=high
  ·go_enter Tryz.func85,Tryz.ntmps85
   go_wp2
   go_ret
   exact⟨by simp[h1,h2],ZpV _ _⟩
  ·go_enter Tryz.func85,Tryz.ntmps85
   go_wp2
   go_ret
   exact⟨by simp[h1,h2],ZpV _ _⟩
 ·go_enter Tryz.func85,Tryz.ntmps85
  go_wp2
  go_ret
  exact⟨by rw[decide_eq_false (show ¬ low<=n by omega)];rfl,ZpV _ _⟩
def Zbv (n:Int):Ending:=.panicked [{ v:=.iface 142 (.agg #[.int .i64 n]),recovered:=false }]
def ZpR (s t:ByteArray) (n:Int) (w:World) (e:Ending) (w':World):Prop:=
 ((n=0/\e=.returned (ZqE s t))\/(n≠0/\e=Zbv n))/\Below w.heap.size w w'
theorem Zat (s t:ByteArray) (n:Int) (w:World):Calls Tryz.prog 57 #[ZqE s t,.int .i64 n] w (ZpR s t n w):=by
 by_cases hn:n=0
 ·have h0:(n !=0)=false:=by rw[bne_eq_false_iff_eq];exact hn
  have H0:=ZqH hn
  clear hn
  go_enter Tryz.func57,Tryz.ntmps57
  go_wp2
  refine ZpW (v:=ZqE s t) (by simp[results,Tryz.f57,go_sem]) rfl ⟨.inl ⟨H0.out,rfl⟩,((ZpV _ w).alloc ZqI _).alloc Zc _⟩
 ·have h0:(n !=0)=true:=by rw[bne_iff_ne];exact hn
  have H0:=ZqH hn
  clear hn
  go_enter Tryz.func57,Tryz.ntmps57
  go_wp2
  refine⟨rfl,.inr ⟨H0.out,rfl⟩,((ZpV _ w).alloc ZqI _).alloc Zc _⟩
theorem Zcn (k:Nat) (s t:ByteArray) (hs:s.size<=1000000) (ht:t.size<=1000000) (w:World) :
  Calls Tryz.prog 70 #[pV s t,.int .i64 k] w (ZB w (ZW k (s,t))):=by
 have HAL:=ZqH ((ZpV w.heap.size w).alloc ZqI (pObj s t))
 by_cases h1:(k:Int)<s.size
 ·have HR:Hid (ZW k (s,t)=false):=by
   show _=_
   unfold ZW
   rw[decide_eq_false (p:=(s,t).1.size<=k) (by show ¬ s.size<=k;omega)]
   simp
  go_enter Tryz.func70,Tryz.ntmps70
  go_wp2
  go_ret
  exact⟨by rw[HR.out];rfl,HAL.out⟩
 ·by_cases h2:(k:Int)<t.size
  ·have HR:Hid (ZW k (s,t)=false):=by
    show _=_
    unfold ZW
    rw[decide_eq_false (p:=(s,t).2.size<=k) (by show ¬ t.size<=k;omega)]
    simp
   go_enter Tryz.func70,Tryz.ntmps70
   go_wp2
   go_ret
   exact⟨by rw[HR.out];rfl,HAL.out⟩
  ·cases h3:okP s t
   ·have HR:Hid (ZW k (s,t)=false):=by unfold ZW;show _=_;simp[h3]
    have HE:=ZqH (Zb9 h3)
    clear h3
    go_enter Tryz.func70,Tryz.ntmps70
    go_wp2_with fail
    refine(Zbd s t _ hs ht).mono ?_
    rintro e w2 ⟨rfl,hb⟩
    rw[HE.out]
    have HB2:=ZqH (HAL.out.trans (hb.mono HAL.out.size))
    clear hb
    go_wp2
    go_ret
    exact⟨by rw[HR.out];rfl,HB2.out⟩
   ·have HR:Hid (ZW k (s,t)=true):=by unfold ZW;show _=_;simp[h3];omega
    have HE:=ZqH (ZcJ h3)
    clear h3
    go_enter Tryz.func70,Tryz.ntmps70
    go_wp2_with fail
    refine(Zbd s t _ hs ht).mono ?_
    rintro e w2 ⟨rfl,hb⟩
    rw[HE.out]
    have HB2:=ZqH (HAL.out.trans (hb.mono HAL.out.size))
    clear hb
    go_wp2
    go_ret
    exact⟨by rw[HR.out];rfl,HB2.out⟩
theorem ZkI (n:Int) (w:World):(Instr.typeAssert (.iface 142 (.agg #[.int .i64 n])) 20 142 true).run Tryz.prog w=.ok (.tuple #[.agg #[.int .i64 n],.bool true]) w:=Zb
theorem Zkv (w:World):(Instr.typeAssert .nilIface 20 142 true).run Tryz.prog w=.ok (.tuple #[.agg #[.int .i64 0],.bool false]) w:=Zb
abbrev brO (n:Int):Obj:=.cells #[.int .i64 n] 34
abbrev bmO (n:Int):Obj:=.cells #[.int .i64 n] 142
theorem Zf2 (c:Nat) (n:Int) (older:List PanicEntry) (w:World) (hc:w.heap[c]?=some (brO 0)) :
  CallsD Tryz.prog 90 #[.pointer (some ⟨c,0,none⟩)] (.panicking ({ v:=.iface 142 (.agg #[.int .i64 n]),recovered:=false }::older)) w fun e u' w'=>
   e=.returned (.tuple #[])/\u'=.panicking ({ v:=.iface 142 (.agg #[.int .i64 n]),recovered:=true }::older)/\w'.heap[c]?=some (brO n)/\Keeps (fun i=>i≠c) w w':=by
 have c0:=Zn hc 0 rfl
 have f0:=Zo hc 0
 have hta:=ZkI n
 have hcl:=(ZqC hc)
 refine callsD_of_wpS Tryz.func90 rfl fun c₀ cs hu=>?_
 apply wpS_seq
 apply wpS_region
 simp[wpOpsS,go_sem,recoverD,hu,Tryz.ntmps90,Exit.thenS]
 refine wpS_of_wp ?_
 simp only[Array.replicate_succ,Array.replicate_zero,List.push_toArray,List.append_toArray,ZqA,List.cons_append,List.setIfInBounds_toArray,List.set_cons_zero,List.set_cons_succ]
 have hcm:((w.alloc (bmO n))).cell? ⟨c,0,none⟩=some (.int .i64 0):=(Z8 _ _ _ hcl).trans c0
 have hcf:((w.alloc (bmO n))).frozen? ⟨c,0,none⟩=false:=(ZcL _ _ _ hcl).trans f0
 go_wp2
 exact⟨rfl,_,rfl,.tuple #[],by simp[results,Tryz.f90,go_sem],rfl,rfl,(Zqb _ _ _ (by simpa[World.setCell] using hcl)).trans (Zp0 hc _),((Keeps.refl _ w).setCell (p:=⟨c,0,none⟩) Zc _).alloc _⟩
theorem ZjS (c:Nat) (w:World) :
  CallsD Tryz.prog 90 #[.pointer (some ⟨c,0,none⟩)] .returning w fun e u' w'=>
   e=.returned (.tuple #[])/\u'=.returning/\w'=w.alloc (bmO 0):=by
 have hta:=Zkv
 refine callsD_of_wpS Tryz.func90 rfl fun c₀ cs hu=>?_
 apply wpS_seq
 apply wpS_region
 simp[wpOpsS,go_sem,recoverD,hu,Tryz.ntmps90,Exit.thenS]
 refine wpS_of_wp ?_
 simp only[Array.replicate_succ,Array.replicate_zero,List.push_toArray,List.append_toArray,ZqA,List.cons_append,List.setIfInBounds_toArray,List.set_cons_zero,List.set_cons_succ]
 go_wp2
 exact⟨rfl,.returning,by cases c₀;simp_all,.tuple #[],by simp[results,Tryz.f90,go_sem],rfl,rfl,rfl⟩
def Zhe (Q:Int->World->Prop) (S:Nat->Prop) (w:World) (e:Ending) (w':World):Prop:=
 ∃ n,((n=0/\e=.returned (.tuple #[]))\/(n≠0/\e=Zbv n))/\Q n w'/\Keeps S w w'
def ZpB (Q:Int->World->Prop) (S:Nat->Prop) (w:World) (e:Ending) (w':World):Prop:=∃ n,e=.returned (.int .i64 n)/\Q n w'/\Keeps S w w'
theorem Zdr {f:Nat} {caps:Array Value} (hent:∀ args w,(callFunc f args).run Tryz.prog w=.ok (.enter f args) w) {Q:Int->World->Prop} {S:Nat->Prop} {w:World} (hS:∀ b,w.heap.size<=b->S b)
  (hQ:∀ n W W',Q n W->Keeps (fun b=>b≠w.heap.size) W W'->Q n W')
  (hdo:Calls Tryz.prog f caps (w.alloc (brO 0)) (Zhe Q S (w.alloc (brO 0)))) :
  Calls Tryz.prog 37 #[.func (.func f) #[] caps] w (ZpB Q S w):=by
 have hmf:∀ (fn:Fn) (first cap:Array Value) (w:World),(Instr.makeFunc fn first cap).run Tryz.prog w=.ok (.func fn first cap) w:=fun _ _ _ _=>rfl
 have HD:=ZqH hdo
 have HQ:=ZqH hQ
 have HSS:=ZqH hS
 clear hdo hQ hS
 go_enter_defers Tryz.func37,Tryz.ntmps37
 go_wp2_with fail
 refine HD.out.mono ?_
 rintro e w2 ⟨n,hE,hA,hk⟩
 have he2:w2.heap[w.heap.size]?=some (brO 0):=(hk.block _ Zc (HSS.out _ ZqI)).trans (ZpY w _)
 have HA:=ZqH hA
 have HK2:Hid (Keeps S w w2):=((Keeps.refl S w).alloc _).trans hk
 obtain⟨p,hpp⟩:=ZqJ w.heap.size
 rw[hpp] at he2 ⊢
 have HPP:=ZqH hpp
 clear hk hA hpp HD
 rcases hE with ⟨rfl,rfl⟩ | ⟨hn,rfl⟩
 ·have d0:=Zn he2 0 rfl
  have g0:=Zo he2 0
  have HE2:=ZqH he2
  clear he2
  go_wp2
  obtain⟨w3,hw3⟩:=ZqJ ((w2.setCell ⟨p,0,none⟩ (.int .i64 0)))
  have he3:w3.heap[p]?=some (brO 0):=by rw[<- hw3];exact Zp0 HE2.out _
  have hk3:Keeps (fun b=>b≠p) w2 w3:=by rw[<- hw3];exact(Keeps.refl _ w2).setCell (p:=⟨p,0,none⟩) (fun h=>h rfl) _
  rw[hw3]
  clear hw3 d0 g0
  have hl3:=(ZqC he3)
  refine leaves_cons (f:=90) (args:=#[.pointer (some ⟨p,0,none⟩)]) Zc (by simp[go_sem]) ?_
  refine(ZjS p _).mono ?_
  rintro e u' w'' ⟨rfl,rfl,rfl⟩
  have q2:(w3.alloc (bmO 0)).cell? ⟨p,0,none⟩=some (.int .i64 0):=(Z8 _ _ _ hl3).trans (Zn he3 0 rfl)
  have hk4:Keeps (fun b=>b≠p) w2 (w3.alloc (bmO 0)):=hk3.alloc _
  refine⟨.int .i64 0,by simp[results,Tryz.f37,go_sem,q2],0,rfl,HQ.out _ _ _ HA.out (by rw[HPP.out];exact hk4),?_⟩
  have h1:=HK2.out
  refine⟨hk4.os.trans h1.os,hk4.tape.trans h1.tape,hk4.output.trans h1.output,Zp4 h1.size hk4.size,fun k hk hs=>?_⟩
  have hkp:k≠p:=by have:=HPP.out;omega
  exact(hk4.block k (Zp2 hk h1.size) hkp).trans (h1.block k hk hs)
 ·unfold Zbv
  refine leaves_cons (f:=90) (args:=#[.pointer (some ⟨p,0,none⟩)]) Zc (by simp[go_sem]) ?_
  refine(Zf2 p n [] _ he2).mono ?_
  rintro e u' w3 ⟨rfl,rfl,he3,hk4⟩
  have q2:w3.cell? ⟨p,0,none⟩=some (.int .i64 n):=Zn he3 0 rfl
  refine⟨.int .i64 n,by simp[results,Tryz.f37,go_sem,q2],n,rfl,HQ.out _ _ _ HA.out (by rw[HPP.out];exact hk4),?_⟩
  have h1:=HK2.out
  refine⟨hk4.os.trans h1.os,hk4.tape.trans h1.tape,hk4.output.trans h1.output,Zp4 h1.size hk4.size,fun k hk hs=>?_⟩
  have hkp:k≠p:=by have:=HPP.out;omega
  exact(hk4.block k (Zp2 hk h1.size) hkp).trans (h1.block k hk hs)
end Go.Proofs.YtjmckebecpjjfaaGreatDoor
