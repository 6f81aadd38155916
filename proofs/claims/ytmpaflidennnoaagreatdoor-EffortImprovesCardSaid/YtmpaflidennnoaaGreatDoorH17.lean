/- The parts LawOf, ETwo, EffTwo, EAlive, EOpen, ERowBase, EWide, DGreat, EGreat7. -/
import Derived.Test.YtmpaflidennnoaaGreatDoorH16
import Derived.Test.YtmpaflidennnoaaGreatDoorRows
import Derived.ProofKit
import Derived.OpenShut
import Derived.LaidMore
import Derived.LaidSub
import Derived.Lay
import Derived.Lib.LaidTab
import Derived.SevenTiedAt
import Derived.Stop.Joined
import Derived.Deep.SlicePairs
import Derived.Deep.Cut
set_option maxRecDepth 100000
set_option maxHeartbeats 8000000
set_option linter.unusedVariables false
set_option linter.unusedSimpArgs false
namespace Go.Proofs.YtmpaflidennnoaaGreatDoor
open Go.RowKit Go.Shelf
attribute [local go_sem ↓] Go.wp_at_zero Go.wp_at_succ
def ZoD (q:Rat) (w:World) (e:Ending) (w':World):Prop:=∃ x y,e=.returned (Zpw x y)/\IsP q x y/\Below w.heap.size w w'
theorem ZoC (a b:Nat) (hb:0<b) (ha1:a<1000) (hb1:b<1000) (w:World) (hT:Tabs w) :
  Calls Tryz.prog 46 #[.int .i64 a,.int .i64 b] w (ZoD (mkRat (a:Nat) b) w):=by
 have HT:=Zpz hT
 have HF:Hid (Fits (mkRat (a:Nat) b)):=Zla (k:=3) hb Za Za Za Za
 have HA:Hid (0<b/\a<1000/\b<1000):=⟨hb,ha1,hb1⟩
 clear hT hb ha1 hb1
 go_enter Tryz.func46,Tryz.ntmps46
 go_wp2_with fail
 obtain⟨w1,hw1⟩:=ZpB (w.alloc (Zpx Zpv Zpv))
 rw[hw1]
 have HX1:Hid (Zv w.heap.size [Zpx Zpv Zpv] w1):=by rw[<- hw1];exact Zv.one w _
 have HB1:Zpt w w1:=by rw[<- hw1];exact(ZoL _ w).alloc ZpA _
 clear hw1
 refine(ZhS a b Za (by have:=HA.out;omega) Za (by have:=HA.out;omega) _ (HT.out.below HB1.out ZpA)).mono ?_
 rintro e w2 ⟨x,y,n,rfl,hR,hb2⟩
 have HQ:Hid (IsP (mkRat (a:Nat) b) x y):=by
  have h3:=HA.out
  rcases hR with ⟨h,_⟩ | ⟨_,h,_⟩ | ⟨_,_,h⟩
  ·omega
  ·omega
  ·exact(h.fit HF.out).1
 have HX2:=Zpz (HX1.out.below hb2 HX1.out.lt)
 have HB2:=Zpz (HB1.out.trans (hb2.mono HB1.out.size))
 clear hb2 hR
 have HX3:=Zpz (HX2.out.alloc (Zpx x y))
 have HB3:=Zpz (HB2.out.alloc HB2.out.size (Zpx x y))
 have r0:=HX3.out.cell 0 0 (b:=w.heap.size) rfl rfl rfl
 have r1:=HX3.out.cell 0 1 (b:=w.heap.size) rfl rfl rfl
 have f0:=HX3.out.free 0 0 (b:=w.heap.size) rfl rfl
 have f1:=HX3.out.free 0 1 (b:=w.heap.size) rfl rfl
 go_wp2
 have q:=Zu (HX3.out.block 0 (b:=w.heap.size) rfl rfl) (.string x) (.string y)
 have HBQ:=Zpz (Zs HB3.out (b:=w.heap.size) ZpA (.string x) (.string y))
 obtain⟨w9,hw9⟩:=ZpB (((w2.alloc (Zpx x y)).setCell ⟨w.heap.size,0,none⟩ (.string x)).setCell ⟨w.heap.size,1,none⟩ (.string y))
 rw[hw9] at q HBQ
 obtain⟨q0,q1⟩:=q
 rw[hw9]
 clear r0 r1 f0 f1 hw9
 refine ZoM (v:=Zpw x y) (by simp[results,Tryz.f46,go_sem,q0,q1]) rfl ⟨_,_,rfl,HQ.out,HBQ.out⟩
theorem Zig {a b:Nat} (hb:0<b) (ha1:a<1000) (hb1:b<1000) {s t:ByteArray} (h:isPB (mkRat (a:Nat) b) s t=true) (w:World) (hT:Tabs w) :
  Calls Tryz.prog 46 #[.int .i64 a,.int .i64 b] w (Z1 (pV s t) w):=by
 refine(ZoC a b hb ha1 hb1 w hT).mono ?_
 rintro e w' ⟨x,y,rfl,h2,hb⟩
 have h3:=Zer h
 obtain⟨e1,e2⟩:=ZdK h2 h3 rfl
 rw[e1,e2]
 exact⟨rfl,hb⟩
theorem ZoF (w:World) (hT:Tabs w):Calls Tryz.prog 46 #[.int .i64 1,.int .i64 2] w (Z1 (pV ⟨#[49]⟩ ⟨#[50]⟩) w):=
 Zig (a:=1) (b:=2) Zd Zd Zd (by decide +kernel) w hT
theorem Zoo (w:World) (hT:Tabs w):Calls Tryz.prog 46 #[.int .i64 1,.int .i64 4] w (Z1 (pV ⟨#[49]⟩ ⟨#[52]⟩) w):=
 Zig (a:=1) (b:=4) Zd Zd Zd (by decide +kernel) w hT
theorem ZoH (w:World) (hT:Tabs w):Calls Tryz.prog 46 #[.int .i64 1,.int .i64 8] w (Z1 (pV ⟨#[49]⟩ ⟨#[56]⟩) w):=
 Zig (a:=1) (b:=8) Zd Zd Zd (by decide +kernel) w hT
theorem Znx (w:World) (hT:Tabs w):Calls Tryz.prog 46 #[.int .i64 1,.int .i64 1] w (Z1 (pV ⟨#[49]⟩ ⟨#[49]⟩) w):=
 Zig (a:=1) (b:=1) Zd Zd Zd (by decide +kernel) w hT
def twoT:TaskP:={ sites:=[⟨(⟨#[49]⟩,⟨#[50]⟩),Zal 2⟩,⟨(⟨#[49]⟩,⟨#[52]⟩),Zal 2⟩],hours:=[2],rates:=[[(⟨#[49]⟩,⟨#[49]⟩),(⟨#[49]⟩,⟨#[49]⟩)]] }
theorem Zhs (w:World) (hD:DetV w) (hT:Tabs w) (hE:EffZ w):Calls Tryz.prog 45 #[] w (fun e w'=>∃ sv hv rv,e=.returned (.agg #[sv,hv,rv])/\TaskIn twoT sv hv rv w'/\Below w.heap.size w w'):=by
 have HT:=Zpz hT
 have HD:=Zpz hD
 have HE:=Zpz hE
 obtain⟨G,hG⟩:=ZpB w.heap.size
 obtain⟨w1,hw1⟩:=ZpB (w.alloc (efO (.slice none 0 0) (.slice none 0 0) (.slice none 0 0)))
 have HB1:Zpt w w1:=by rw[<- hw1];exact(ZoL _ w).alloc ZpA _
 have HG1:Hid (w1.heap[G]?=some (efO (.slice none 0 0) (.slice none 0 0) (.slice none 0 0))):=by rw[<- hw1,<- hG];exact ZoO w _
 clear hT hD hE
 go_enter Tryz.func45,Tryz.ntmps45
 go_wp2_with fail
 clear hw1
 refine(ZjZ 2 _ (HD.out.below HB1.out ZpA) (HT.out.below HB1.out ZpA)).mono ?_
 rintro e w2 ⟨hE,hb⟩
 obtain⟨v,rfl,hO⟩:∃ v,e=.returned (.tuple #[v,.int .i64 0])/\OwnB w2 w1.heap.size v (Zal 2):=by
  rcases hE with ⟨h,_⟩ | ⟨_,v,h1,h2⟩
  ·exact Zpp ⟨Zd,Zd⟩ h
  ·exact⟨v,h1,h2⟩
 have hlen3:(Zal 2).length=3:=Zb6 2
 have hV:=hO.bl
 obtain⟨p,c,rfl⟩:∃ p c,v=.slice p 3 c:=by obtain⟨p,c,h,_⟩:=id hV;exact⟨_,_,by rw[<- hlen3];exact h⟩
 have hpb:(Value.slice p 3 c).ownBlock≠some G:=fun e=>by
  have h1:=(ZoZ hO _ e).1
  have h2:=(Zpu HG1.out)
  omega
 have HV:=Zpz hV
 have HB2:Zpt w w2:=HB1.out.trans (hb.mono HB1.out.size)
 have HG2:Hid (w2.heap[G]?=some (efO (.slice none 0 0) (.slice none 0 0) (.slice none 0 0))):=(hb.block _ (Zpu HG1.out)).trans HG1.out
 clear hE hb hO hV HG1 HB1
 go_wp2_with fail
 refine(ZoF _ (HT.out.below HB2.out ZpA)).mono ?_
 rintro e w3 ⟨rfl,hb⟩
 have HV3:=Zpz (HV.out.after hb ZpA)
 have HB3:Zpt w w3:=HB2.out.trans (hb.mono HB2.out.size)
 have HG3:Hid (w3.heap[G]?=some (efO (.slice none 0 0) (.slice none 0 0) (.slice none 0 0))):=(hb.block _ (Zpu HG2.out)).trans HG2.out
 clear hb HB2 HG2 HV
 go_wp2_with fail
 refine(Zoo _ (HT.out.below HB3.out ZpA)).mono ?_
 rintro e w4 ⟨rfl,hb⟩
 have HV4:=Zpz (HV3.out.after hb ZpA)
 have HB4:Zpt w w4:=HB3.out.trans (hb.mono HB3.out.size)
 have HG4:Hid (w4.heap[G]?=some (efO (.slice none 0 0) (.slice none 0 0) (.slice none 0 0))):=(hb.block _ (Zpu HG3.out)).trans HG3.out
 clear hb HB3 HG3 HV3
 obtain⟨H,hH⟩:=ZpB w4.heap.size
 obtain⟨w5,hw5⟩:=ZpB ((w4.alloc (.cells #[.string ⟨#[49]⟩,.string ⟨#[50]⟩,.slice p 3 c,.string ⟨#[49]⟩,.string ⟨#[52]⟩,.slice p 3 c] 74)).alloc (.cells #[.int .i64 2] 3))
 have hGH:G<H:=by rw[<- hH];exact(Zpu HG4.out)
 have hb5:Below w4.heap.size w4 w5:=by rw[<- hw5];exact((ZoL _ w4).alloc ZpA _).alloc Zc _
 have hs0:w5.heap[H]?=some (.cells #[.string ⟨#[49]⟩,.string ⟨#[50]⟩,.slice p 3 c,.string ⟨#[49]⟩,.string ⟨#[52]⟩,.slice p 3 c] 74):=by
  rw[<- hw5,<- hH]
  exact(Zo1 _ _ _ Zc).trans (ZoO w4 _)
 have hh0:w5.heap[H+1]?=some (.cells #[.int .i64 2] 3):=by
  rw[<- hw5,<- hH]
  have:=ZoO (w4.alloc (.cells #[.string ⟨#[49]⟩,.string ⟨#[50]⟩,.slice p 3 c,.string ⟨#[49]⟩,.string ⟨#[52]⟩,.slice p 3 c] 74)) (.cells #[.int .i64 2] 3)
  rwa [Zpa] at this
 have HV5:=HV4.out.after hb5 ZpA
 have HK5:Hid (w5.heap[H]?=_/\w5.heap[H+1]?=_/\BL w5 _ _):=⟨hs0,hh0,HV5⟩
 have HB5:Zpt w w5:=HB4.out.trans (hb5.mono HB4.out.size)
 have HG5:Hid (w5.heap[G]?=some (efO (.slice none 0 0) (.slice none 0 0) (.slice none 0 0))):=(hb5.block _ (Zpu HG4.out)).trans HG4.out
 clear hb5 hs0 hh0 HV5 HV4 HB4 HG4
 go_wp2_with fail
 try rw[hw5]
 try rw[hH]
 clear hw5 hH
 refine(Znx _ (HT.out.below HB5.out ZpA)).mono ?_
 rintro e w6 ⟨rfl,hb6⟩
 have HB6:Zpt w w6:=HB5.out.trans (hb6.mono HB5.out.size)
 go_wp2_with fail
 refine(Znx _ (HT.out.below HB6.out ZpA)).mono ?_
 rintro e w7 ⟨rfl,hb7⟩
 have hb57:Below w5.heap.size w5 w7:=hb6.trans (hb7.mono hb6.size)
 have HB7:Zpt w w7:=HB5.out.trans (hb57.mono HB5.out.size)
 have HG7:Hid (w7.heap[G]?=some (efO (.slice none 0 0) (.slice none 0 0) (.slice none 0 0))):=(hb57.block _ (Zpu HG5.out)).trans HG5.out
 have HK7:Hid (w7.heap[H]?=_/\w7.heap[H+1]?=_/\BL w7 _ _):=⟨(hb57.block _ (Zpu HK5.out.1)).trans HK5.out.1,(hb57.block _ (Zpu HK5.out.2.1)).trans HK5.out.2.1,HK5.out.2.2.after hb57 ZpA⟩
 clear hb6 hb7 hb57 HB5 HB6 HG5 HK5
 obtain⟨R,hR⟩:=ZpB w7.heap.size
 obtain⟨w8,hw8⟩:=ZpB ((w7.alloc (.cells #[.string ⟨#[49]⟩,.string ⟨#[49]⟩,.string ⟨#[49]⟩,.string ⟨#[49]⟩] 41)).alloc (.cells #[.slice (some ⟨R,0,none⟩) 2 2] 37))
 have hb8:Below w7.heap.size w7 w8:=by rw[<- hw8];exact((ZoL _ w7).alloc ZpA _).alloc Zc _
 have hr0:w8.heap[R]?=some (.cells #[.string ⟨#[49]⟩,.string ⟨#[49]⟩,.string ⟨#[49]⟩,.string ⟨#[49]⟩] 41):=by
  rw[<- hw8,<- hR]
  exact(Zo1 _ _ _ Zc).trans (ZoO w7 _)
 have hr1:w8.heap[R+1]?=some (.cells #[.slice (some ⟨R,0,none⟩) 2 2] 37):=by
  rw[<- hw8,<- hR]
  have:=ZoO (w7.alloc (.cells #[.string ⟨#[49]⟩,.string ⟨#[49]⟩,.string ⟨#[49]⟩,.string ⟨#[49]⟩] 41)) (.cells #[.slice (some ⟨w7.heap.size,0,none⟩) 2 2] 37)
  rwa [Zpa] at this
 have HK8:Hid ((w8.heap[H]?=_/\w8.heap[H+1]?=_/\BL w8 _ _)/\w8.heap[R]?=_/\w8.heap[R+1]?=_):=⟨⟨(hb8.block _ (Zpu HK7.out.1)).trans HK7.out.1,(hb8.block _ (Zpu HK7.out.2.1)).trans HK7.out.2.1,HK7.out.2.2.after hb8 ZpA⟩,hr0,hr1⟩
 have hGR:G<R:=by rw[<- hR];exact(Zpu HG7.out)
 have HB8:Zpt w w8:=HB7.out.trans (hb8.mono HB7.out.size)
 have hG8:w8.heap[G]?=some (efO (.slice none 0 0) (.slice none 0 0) (.slice none 0 0)):=(hb8.block _ (Zpu HG7.out)).trans HG7.out
 have HG8:=Zpz hG8
 have c0:=Zn hG8 0 (v:=.slice none 0 0) rfl
 have c1:=Zn hG8 1 (v:=.slice none 0 0) rfl
 have c2:=Zn hG8 2 (v:=.slice none 0 0) rfl
 have f0:=Zo hG8 0
 have f1:=Zo hG8 1
 have f2:=Zo hG8 2
 clear hb8 hr0 hr1 HK7 HB7 HG7 hG8
 go_wp2
 obtain⟨w9,hw9⟩:=ZpB (((w8.setCell ⟨G,0,none⟩ (.slice (some ⟨H,0,none⟩) 2 2)).setCell ⟨G,1,none⟩ (.slice (some ⟨H+1,0,none⟩) 1 1)).setCell ⟨G,2,none⟩ (.slice (some ⟨R+1,0,none⟩) 1 1))
 have hg9:w9.heap[G]?=some (efO (.slice (some ⟨H,0,none⟩) 2 2) (.slice (some ⟨H+1,0,none⟩) 1 1) (.slice (some ⟨R+1,0,none⟩) 1 1)):=by
  rw[<- hw9]
  exact ZoQ (ZoQ (ZoQ HG8.out _) _) _
 have o9:∀ x,x≠G->w9.heap[x]?=w8.heap[x]?:=fun x hx=>by rw[<- hw9];exact((ZoN _ _ _ _ hx).trans (ZoN _ _ _ _ hx)).trans (ZoN _ _ _ _ hx)
 have hB9:Below w.heap.size w w9:=by
  have hg:w.heap.size<=G:=Za
  rw[<- hw9]
  exact((HB8.out.setCell (p:=⟨G,0,none⟩) hg _).setCell (p:=⟨G,1,none⟩) hg _).setCell (p:=⟨G,2,none⟩) hg _
 have hs9:w9.heap.size=w8.heap.size:=by rw[<- hw9];simp
 rw[hw9]
 obtain⟨⟨k1,k2,k3⟩,k4,k5⟩:=HK8.out
 have s0:=(o9 H Za).trans k1
 have h0:=(o9 (H+1) Za).trans k2
 have r0:=(o9 R Za).trans k4
 have r1:=(o9 (R+1) Za).trans k5
 have hV9:BL w9 (.slice p 3 c) (Zal 2):=by
  obtain⟨p',c',hv,q1,q2,q3⟩:=k3
  refine⟨p',c',hv,q1,q2,fun hne=>?_⟩
  obtain⟨b,off,rfl,hb,hat⟩:=q3 hne
  have hbG:b≠G:=fun e=>hpb (by injection hv with e1;rw[e1,e];rfl)
  have hc:∀ o,w9.cell? ⟨b,o,none⟩=w8.cell? ⟨b,o,none⟩:=fun o=>Zo3 (o9 b hbG)
  refine⟨b,off,rfl,Za,fun j hj=>?_⟩
  rw[hc,hc,hc,hc]
  exact hat j hj
 refine ZoM (v:=.agg #[.slice (some ⟨H,0,none⟩) 2 2,.slice (some ⟨H+1,0,none⟩) 1 1,.slice (some ⟨R+1,0,none⟩) 1 1]) (by
  have d0:=Zn hg9 0 (v:=.slice (some ⟨H,0,none⟩) 2 2) rfl
  have d1:=Zn hg9 1 (v:=.slice (some ⟨H+1,0,none⟩) 1 1) rfl
  have d2:=Zn hg9 2 (v:=.slice (some ⟨R+1,0,none⟩) 1 1) rfl
  simp[results,Tryz.f45,go_sem,d0,d1,d2]) rfl ⟨_,_,_,rfl,⟨?_,?_,?_,HD.out.below hB9 ZpA,HT.out.below hB9 ZpA,HE.out.below hB9 ZpA⟩,hB9⟩
 ·refine⟨_,2,rfl,Nat.le_refl _,by simp[maxLen],fun _=>⟨H,0,rfl,(Zpu s0),fun j hj=>?_⟩⟩
  match j,hj with
  | 0,_=>exact⟨Zn s0 0 rfl,Zn s0 1 rfl,_,Zn s0 2 rfl,hV9⟩
  | 1,_=>exact⟨Zn s0 3 rfl,Zn s0 4 rfl,_,Zn s0 5 rfl,hV9⟩
  | j+2,h=>exact Zpp h (by simp[twoT])
 ·refine⟨_,1,rfl,Nat.le_refl _,by simp[maxLen],fun _=>⟨H+1,0,rfl,(Zpu h0),fun j hj=>?_⟩⟩
  match j,hj with
  | 0,_=>exact Zn h0 0 rfl
  | j+1,h=>exact Zpp h (by simp[twoT])
 ·refine⟨_,1,rfl,Nat.le_refl _,by simp[maxLen],fun _=>⟨R+1,0,rfl,(Zpu r1),fun j hj=>?_⟩⟩
  match j,hj with
  | 0,_=>
   refine⟨_,Zn r1 0 rfl,_,2,rfl,Nat.le_refl _,by simp[maxLen],fun _=>⟨R,0,rfl,(Zpu r0),fun k hk=>?_⟩⟩
   match k,hk with
   | 0,_=>exact⟨Zn r0 0 rfl,Zn r0 1 rfl⟩
   | 1,_=>exact⟨Zn r0 2 rfl,Zn r0 3 rfl⟩
   | k+2,h=>exact Zpp h (by simp[twoT])
  | j+1,h=>exact Zpp h (by simp[twoT])
theorem Zhl:TaskOk twoT where
 sites:=Zd
 teams:=Zd
 rates:=rfl
 site:=fun i hi=>by
  have h:i<2:=hi
  match i,h with
  | 0,_=>exact⟨by decide +kernel,Zbt⟩
  | 1,_=>exact⟨by decide +kernel,Zbt⟩
 team:=fun u hu=>by
  have h:u<1:=hu
  obtain rfl:u=0:=Za
  refine⟨Zd,rfl,fun i hi=>?_⟩
  have h:i<2:=hi
  match i,h with
  | 0,_=>decide +kernel
  | 1,_=>decide +kernel
theorem ZdS (i:Nat) (hi:i<2):rR twoT 0 i=1:=by
 match i,hi with
 | 0,_=>decide +kernel
 | 1,_=>decide +kernel
theorem ZgA:wR twoT 0=mkRat 1 2/\wR twoT 1=mkRat 1 4:=⟨by decide +kernel,by decide +kernel⟩
theorem Zek (i:Nat) (hi:i<2):chF (eS twoT i).curve 0=0/\chF (eS twoT i).curve 1=mkRat 1 2/\chF (eS twoT i).curve 2=mkRat 3 4:=by
 have e:(eS twoT i).curve=Zal 2:=by
  match i,hi with
  | 0,_=>rfl
  | 1,_=>rfl
 rw[e]
 have hl:=Zb6 2
 refine⟨Ze1 Zbt ⟨0,?_,?_⟩,Ze1 Zbt ⟨1,?_,?_⟩,Ze1 Zbt ⟨2,?_,?_⟩⟩
 all_goals rw[hl]
 ·exact⟨Zd,fun j hj=>Zpp hj Za,fun _=>by decide +kernel⟩
 ·unfold lin slo slp;decide +kernel
 ·refine⟨Zd,fun j hj=>?_,fun _=>by decide +kernel⟩
  obtain rfl:j=0:=Za
  decide +kernel
 ·unfold lin slo slp;decide +kernel
 ·refine⟨Zd,fun j hj=>?_,fun h=>Zpp h Zd⟩
  have h2:j<2:=hj
  match j,h2 with
  | 0,_=>decide +kernel
  | 1,_=>decide +kernel
 ·unfold lin slo slp;decide +kernel
theorem Zhr (a b:Int) (i:Nat) (hi:i<2):covR twoT [[a,b]] i=((pN [[a,b]] 0 i:Int):Rat):=by
 show ZaL twoT [[a,b]] i 1=_
 unfold ZaL ZaL
 rw[ZdS i hi,Rat.one_mul,Rat.zero_add]
theorem Zl8 {x y:ByteArray} {n:Int} (h:SumE (valF twoT [[1,1]]) 2 x y n):x=⟨#[51]⟩/\y=⟨#[56]⟩/\n=0:=by
 have v0:valF twoT [[1,1]] 0=mkRat 1 4:=by
  unfold valF
  rw[ZgA.1,Zhr 1 1 0 Zd,show ((pN [[1,1]] 0 0:Int):Rat)=1 by decide +kernel,(Zek 0 Zd).2.1]
  decide +kernel
 have v1:valF twoT [[1,1]] 1=mkRat 1 8:=by
  unfold valF
  rw[ZgA.2,Zhr 1 1 1 Zd,show ((pN [[1,1]] 0 1:Int):Rat)=1 by decide +kernel,(Zek 1 Zd).2.1]
  decide +kernel
 have s0:sumF (valF twoT [[1,1]]) 0=0:=rfl
 have s1:sumF (valF twoT [[1,1]]) 1=mkRat 1 4:=by
  show sumF (valF twoT [[1,1]]) 0+valF twoT [[1,1]] 0=_
  rw[s0,v0,Rat.zero_add]
 have s2:sumF (valF twoT [[1,1]]) 2=mkRat 3 8:=by
  show sumF (valF twoT [[1,1]]) 1+valF twoT [[1,1]] 1=_
  rw[s1,v1]
  decide +kernel
 have i0:IsP (0:Rat) ⟨#[48]⟩ ⟨#[49]⟩:=Zaf
 have i1:IsP (mkRat 1 4) ⟨#[49]⟩ ⟨#[52]⟩:=Zer (by decide +kernel)
 have i2:IsP (mkRat 3 8) ⟨#[51]⟩ ⟨#[56]⟩:=Zer (by decide +kernel)
 have hall:Zae (valF twoT [[1,1]]) 2:=fun k hk=>by
  match k,hk with
  | 0,_=>rw[s0];exact i0.fits
  | 1,_=>rw[s1];exact i1.fits
  | 2,_=>rw[s2];exact i2.fits
 exact h.det (.inl ⟨hall,by rw[s2];exact i2,rfl⟩)
theorem ZiY (a b:Int) (i:Nat) (hi:i<2):ZaQ twoT [[a,b]] 0 i=wR twoT i*(chF (eS twoT i).curve (((pN [[a,b]] 0 i:Int):Rat)+1)-chF (eS twoT i).curve ((pN [[a,b]] 0 i:Int):Rat)):=by
 unfold ZaQ
 rw[Zhr a b i hi,ZdS i hi]
theorem Zfx (i:Nat) (hi:i<2) (a b:Int) (h:pN [[a,b]] 0 i=0):ZaQ twoT [[a,b]] 0 i=wR twoT i*mkRat 1 2:=by
 rw[ZiY a b i hi,h,show ((0:Int):Rat)+1=1 by decide +kernel,show ((0:Int):Rat)=0 by decide +kernel,(Zek i hi).1,(Zek i hi).2.1]
 congr 1
 decide +kernel
theorem ZlP (i:Nat) (hi:i<2) (a b:Int) (h:pN [[a,b]] 0 i=1):ZaQ twoT [[a,b]] 0 i=wR twoT i*mkRat 1 4:=by
 rw[ZiY a b i hi,h,show ((1:Int):Rat)+1=2 by decide +kernel,show ((1:Int):Rat)=1 by decide +kernel,(Zek i hi).2.2,(Zek i hi).2.1]
 congr 1
 decide +kernel
theorem Zk2 {p:List (List Int)} (h:GreedyR twoT (ZZ twoT) p):p=[[2,0]]:=by
 have b1:Best (Zbg twoT [[0,0]]) 2 (some 0) (Zbg twoT [[0,0]] 0):=by
  have g0:Zbg twoT [[0,0]] 0=mkRat 1 4:=by
   show (if 0<ZaI twoT [[0,0]] 0 then ZaQ twoT [[0,0]] 0 0 else 0)=_
   rw[if_pos Zd,Zfx 0 Zd 0 0 rfl]
   decide +kernel
  have g1:Zbg twoT [[0,0]] 1=mkRat 1 8:=by
   show (if 0<ZaI twoT [[0,0]] 0 then ZaQ twoT [[0,0]] 0 1 else 0)=_
   rw[if_pos Zd,Zfx 1 Zd 0 0 rfl]
   decide +kernel
  exact((Best.zero _).up (by rw[g0];decide +kernel)).keep (by rw[g0,g1];decide +kernel)
 have b2:Best (Zbg twoT [[1,0]]) 2 (some 0) (Zbg twoT [[1,0]] 0):=by
  have g0:Zbg twoT [[1,0]] 0=mkRat 1 8:=by
   show (if 0<ZaI twoT [[1,0]] 0 then ZaQ twoT [[1,0]] 0 0 else 0)=_
   rw[if_pos Zd,ZlP 0 Zd 1 0 rfl]
   decide +kernel
  have g1:Zbg twoT [[1,0]] 1=mkRat 1 8:=by
   show (if 0<ZaI twoT [[1,0]] 0 then ZaQ twoT [[1,0]] 0 1 else 0)=_
   rw[if_pos Zd,Zfx 1 Zd 1 0 rfl]
   decide +kernel
  exact((Best.zero _).up (by rw[g0];decide +kernel)).keep (by rw[g0,g1];exact Rat.le_refl)
 have b3:Best (Zbg twoT [[2,0]]) 2 none 0:=by
  have g0:Zbg twoT [[2,0]] 0=0:=by
   show (if 0<ZaI twoT [[2,0]] 0 then ZaQ twoT [[2,0]] 0 0 else 0)=_
   rw[if_neg Zd]
  have g1:Zbg twoT [[2,0]] 1=0:=by
   show (if 0<ZaI twoT [[2,0]] 0 then ZaQ twoT [[2,0]] 0 1 else 0)=_
   rw[if_neg Zd]
  exact((Best.zero _).keep (by rw[g0];exact Rat.le_refl)).keep (by rw[g1];exact Rat.le_refl)
 exact h.det (.step (j:=0) b1 (.step (j:=0) b2 (.done b3)))
def Zas:PP:=(⟨#[49]⟩,⟨#[56]⟩)
theorem ZkX:PricesOk twoT [Zas]:=⟨rfl,fun u hu=>by
 have h:u<1:=hu
 obtain rfl:u=0:=Za
 decide +kernel⟩
theorem ZhA (i:Nat) (hi:i<2):LeastQ (fun u=>prR [Zas] u/rR twoT u i) (fun u=>rR twoT u i≠0) 1 (some (mkRat 1 8)):=by
 have h:=(LeastQ.zero (fun u=>prR [Zas] u/rR twoT u i) (fun u=>rR twoT u i≠0)).take (by show rR twoT 0 i≠0;rw[ZdS i hi];decide) (fun c hc=>by cases hc)
 have e:prR [Zas] 0/rR twoT 0 i=mkRat 1 8:=by
  rw[ZdS i hi]
  decide +kernel
 rw[e] at h
 exact h
theorem Znh:SurR twoT [Zas] 0 (mkRat 1 8):=by
 have g0:posR (wR twoT 0*hR (eS twoT 0).curve 0-mkRat 1 8*cR (eS twoT 0).curve 0)=0:=by unfold posR;decide +kernel
 have g1:posR (wR twoT 0*hR (eS twoT 0).curve 1-mkRat 1 8*cR (eS twoT 0).curve 1)=mkRat 1 8:=by unfold posR;decide +kernel
 have g2:posR (wR twoT 0*hR (eS twoT 0).curve 2-mkRat 1 8*cR (eS twoT 0).curve 2)=mkRat 1 8:=by unfold posR;decide +kernel
 have hb:=(((Best.zero (fun k=>posR (wR twoT 0*hR (eS twoT 0).curve k-mkRat 1 8*cR (eS twoT 0).curve k))).keep (by rw[g0];exact Rat.le_refl)).up (by rw[g1];decide +kernel)).keep (by rw[g1,g2];exact Rat.le_refl)
 rw[g1] at hb
 exact⟨_,ZhA 0 Zd,.inr ⟨_,rfl,_,hb⟩⟩
theorem ZmY:SurR twoT [Zas] 1 0:=by
 have g0:posR (wR twoT 1*hR (eS twoT 1).curve 0-mkRat 1 8*cR (eS twoT 1).curve 0)=0:=by unfold posR;decide +kernel
 have g1:posR (wR twoT 1*hR (eS twoT 1).curve 1-mkRat 1 8*cR (eS twoT 1).curve 1)=0:=by unfold posR;decide +kernel
 have g2:posR (wR twoT 1*hR (eS twoT 1).curve 2-mkRat 1 8*cR (eS twoT 1).curve 2)=0:=by unfold posR;decide +kernel
 have hb:=(((Best.zero (fun k=>posR (wR twoT 1*hR (eS twoT 1).curve k-mkRat 1 8*cR (eS twoT 1).curve k))).keep (by rw[g0];exact Rat.le_refl)).keep (by rw[g1];exact Rat.le_refl)).keep (by rw[g2];exact Rat.le_refl)
 exact⟨_,ZhA 1 Zd,.inr ⟨_,rfl,_,hb⟩⟩
theorem Zmt {x y:ByteArray} {n:Int} (h:SumE (Z7 twoT [Zas]) 3 x y n):x=⟨#[51]⟩/\y=⟨#[56]⟩/\n=0:=by
 have f0:Z7 twoT [Zas] 0=mkRat 1 4:=by
  unfold Z7
  rw[if_pos (show 0<twoT.hours.length by decide)]
  decide +kernel
 have f1:Z7 twoT [Zas] 1=mkRat 1 8:=by
  unfold Z7
  rw[if_neg (show ¬ 1<twoT.hours.length by decide)]
  exact Zhh Znh
 have f2:Z7 twoT [Zas] 2=0:=by
  unfold Z7
  rw[if_neg (show ¬ 2<twoT.hours.length by decide)]
  exact Zhh ZmY
 have s0:sumF (Z7 twoT [Zas]) 0=0:=rfl
 have s1:sumF (Z7 twoT [Zas]) 1=mkRat 1 4:=by
  show sumF (Z7 twoT [Zas]) 0+Z7 twoT [Zas] 0=_
  rw[s0,f0,Rat.zero_add]
 have s2:sumF (Z7 twoT [Zas]) 2=mkRat 3 8:=by
  show sumF (Z7 twoT [Zas]) 1+Z7 twoT [Zas] 1=_
  rw[s1,f1]
  decide +kernel
 have s3:sumF (Z7 twoT [Zas]) 3=mkRat 3 8:=by
  show sumF (Z7 twoT [Zas]) 2+Z7 twoT [Zas] 2=_
  rw[s2,f2,Rat.add_zero]
 have i0:IsP (0:Rat) ⟨#[48]⟩ ⟨#[49]⟩:=Zaf
 have i1:IsP (mkRat 1 4) ⟨#[49]⟩ ⟨#[52]⟩:=Zer (by decide +kernel)
 have i2:IsP (mkRat 3 8) ⟨#[51]⟩ ⟨#[56]⟩:=Zer (by decide +kernel)
 have hall:Zae (Z7 twoT [Zas]) 3:=fun k hk=>by
  match k,hk with
  | 0,_=>rw[s0];exact i0.fits
  | 1,_=>rw[s1];exact i1.fits
  | 2,_=>rw[s2];exact i2.fits
  | 3,_=>rw[s3];exact i2.fits
 exact h.det (.inl ⟨hall,by rw[s3];exact i2,rfl⟩)
theorem Zgd:LimT twoT:=by
 refine⟨fun s hs=>?_,fun l hl=>?_⟩
 ·have h2:s=⟨(⟨#[49]⟩,⟨#[50]⟩),Zal 2⟩\/s=⟨(⟨#[49]⟩,⟨#[52]⟩),Zal 2⟩:=by simpa[twoT] using hs
  rcases h2 with rfl | rfl
  ·exact⟨Zd,Zbt.limB⟩
  ·exact⟨Zd,Zbt.limB⟩
 ·have h2:l=[(⟨#[49]⟩,⟨#[49]⟩),(⟨#[49]⟩,⟨#[49]⟩)]:=by simpa[twoT] using hl
  subst h2
  intro q hq
  have h3:q=(⟨#[49]⟩,⟨#[49]⟩):=by simpa using hq
  subst h3
  decide
theorem ZmZ:PlanOk twoT [[1,1]]:=by
 refine⟨Zhl,rfl,fun u hu=>?_,fun u i hu hi=>?_,fun u hu=>?_⟩
 ·have h:u<1:=hu
  obtain rfl:u=0:=Za
  rfl
 ·have h:u<1:=hu
  obtain rfl:u=0:=Za
  have h2:i<2:=hi
  have hr:rR twoT 0 i≠0:=by rw[ZdS i h2];decide
  match i,h2,hr with
  | 0,_,hr=>exact⟨Zd,fun _=>hr⟩
  | 1,_,hr=>exact⟨Zd,fun _=>hr⟩
 ·have h:u<1:=hu
  obtain rfl:u=0:=Za
  decide
theorem Zds (w:World) (hD:DetV w) (hT:Tabs w) (hE:EffZ w):Calls Tryz.prog 15 #[] w (Z5 w true):=by
 have HT:=Zpz hT
 have HD:=Zpz hD
 have HE:=Zpz hE
 clear hT hD hE
 go_enter Tryz.func15,Tryz.ntmps15
 go_wp2_with fail
 refine(Zhs w HD.out HT.out HE.out).mono ?_
 rintro e w1 ⟨sv,hv,rv,rfl,hI,hb⟩
 have HB1:=Zpz hb
 obtain⟨p1,c1,rfl,_⟩:=hI.sites.shape (n:=2) rfl
 obtain⟨p2,c2,rfl,_⟩:=hI.hours.shape (n:=1) rfl
 obtain⟨p3,c3,rfl,_⟩:=hI.rates.shape (n:=1) rfl
 obtain⟨H,hH⟩:=ZpB w1.heap.size
 obtain⟨w2,hw2⟩:=ZpB ((w1.alloc (.cells #[.int .i64 1,.int .i64 1] 3)).alloc (.cells #[.slice (some ⟨H,0,none⟩) 2 2] 23))
 have hb2:Below w1.heap.size w1 w2:=by rw[<- hw2];exact((ZoL _ w1).alloc ZpA _).alloc Zc _
 have hr0:w2.heap[H]?=some (.cells #[.int .i64 1,.int .i64 1] 3):=by
  rw[<- hw2,<- hH]
  exact(Zo1 _ _ _ Zc).trans (ZoO w1 _)
 have hr1:w2.heap[H+1]?=some (.cells #[.slice (some ⟨H,0,none⟩) 2 2] 23):=by
  rw[<- hw2,<- hH]
  have:=ZoO (w1.alloc (.cells #[.int .i64 1,.int .i64 1] 3)) (.cells #[.slice (some ⟨w1.heap.size,0,none⟩) 2 2] 23)
  rwa [Zpa] at this
 have HI2:Hid (IIL w2 (.slice (some ⟨H+1,0,none⟩) 1 1) [[1,1]]):=by
  refine⟨_,1,rfl,Nat.le_refl _,by simp[maxLen],fun _=>⟨H+1,0,rfl,(Zpu hr1),fun j hj=>?_⟩⟩
  match j,hj with
  | 0,_=>
   refine⟨_,Zn hr1 0 rfl,_,2,rfl,Nat.le_refl _,by simp[maxLen],fun _=>⟨H,0,rfl,(Zpu hr0),fun k hk=>?_⟩⟩
   match k,hk with
   | 0,_=>exact Zn hr0 0 rfl
   | 1,_=>exact Zn hr0 1 rfl
   | k+2,h=>exact Zpp h Zc
  | j+1,h=>exact Zpp h Zc
 have HT2:=Zpz (hI.below hb2 ZpA)
 have HB2:Zpt w w2:=HB1.out.trans (hb2.mono HB1.out.size)
 clear hI hb hb2 hr0 hr1 HB1
 go_wp2_with fail
 try rw[hw2]
 clear hw2 hH
 refine(Zll HT2.out Zgd HI2.out).mono ?_
 rintro e w3 ⟨x,y,n,rfl,hA,hb⟩
 obtain⟨rfl,rfl,rfl⟩:x=⟨#[51]⟩/\y=⟨#[56]⟩/\n=0:=by
  rcases hA with ⟨h,_⟩ | ⟨_,h⟩
  ·exact Zpp ZmZ h
  ·exact Zl8 h
 have HB3:Zpt w w3:=HB2.out.trans (hb.mono HB2.out.size)
 clear hA hb HT2 HI2 HB2
 obtain⟨A,hA⟩:=ZpB w3.heap.size
 obtain⟨w4,hw4⟩:=ZpB (w3.alloc (pObj ⟨#[51]⟩ ⟨#[56]⟩))
 have hb4:Below w3.heap.size w3 w4:=by rw[<- hw4];exact(ZoL _ w3).alloc ZpA _
 have HA4:Hid (w4.heap[A]?=some (pObj ⟨#[51]⟩ ⟨#[56]⟩)):=by rw[<- hw4,<- hA];exact ZoO w3 _
 have HB4:Zpt w w4:=HB3.out.trans (hb4.mono HB3.out.size)
 clear hb4 HB3
 go_wp2_with fail
 try rw[hw4]
 try rw[hA]
 clear hw4 hA
 refine(Zhs w4 (HD.out.below HB4.out ZpA) (HT.out.below HB4.out ZpA) (HE.out.below HB4.out ZpA)).mono ?_
 rintro e w5 ⟨sv,hv,rv,rfl,hI,hb⟩
 obtain⟨p4,c4,rfl,_⟩:=hI.sites.shape (n:=2) rfl
 obtain⟨p5,c5,rfl,_⟩:=hI.hours.shape (n:=1) rfl
 obtain⟨p6,c6,rfl,_⟩:=hI.rates.shape (n:=1) rfl
 have HI5:=Zpz hI
 have HB5:Zpt w w5:=HB4.out.trans (hb.mono HB4.out.size)
 have HA5:Hid (w5.heap[A]?=some (pObj ⟨#[51]⟩ ⟨#[56]⟩)):=(hb.block _ (Zpu HA4.out)).trans HA4.out
 clear hI hb HB4 HA4
 go_wp2_with fail
 refine(Zj5 HI5.out Zgd).mono ?_
 rintro e w6 ⟨hG,hb⟩
 obtain⟨pv,rfl,hIL⟩:∃ pv,e=.returned (.tuple #[pv,.int .i64 0])/\IIL w6 pv [[2,0]]:=by
  rcases hG with ⟨h,_⟩ | ⟨_,p,pv,h1,_,h3,h4⟩
  ·exact Zpp Zhl h
  ·obtain rfl:=Zk2 h1
   exact⟨pv,h4,h3⟩
 obtain⟨q1,d1,rfl,_⟩:=hIL.shape (n:=1) rfl
 have HL6:=Zpz hIL
 have HB6:Zpt w w6:=HB5.out.trans (hb.mono HB5.out.size)
 have HA6:Hid (w6.heap[A]?=some (pObj ⟨#[51]⟩ ⟨#[56]⟩)):=(hb.block _ (Zpu HA5.out)).trans HA5.out
 clear hG hb hIL HI5 HB5 HA5
 go_wp2_with fail
 refine(Zhs w6 (HD.out.below HB6.out ZpA) (HT.out.below HB6.out ZpA) (HE.out.below HB6.out ZpA)).mono ?_
 rintro e w7 ⟨sv,hv,rv,rfl,hI,hb7⟩
 obtain⟨p7,c7,rfl,_⟩:=hI.sites.shape (n:=2) rfl
 obtain⟨p8,c8,rfl,_⟩:=hI.hours.shape (n:=1) rfl
 obtain⟨p9,c9,rfl,_⟩:=hI.rates.shape (n:=1) rfl
 have HB7:Zpt w w7:=HB6.out.trans (hb7.mono HB6.out.size)
 go_wp2_with fail
 refine(ZoH _ (HT.out.below HB7.out ZpA)).mono ?_
 rintro e w8 ⟨rfl,hb8⟩
 obtain⟨K1,hK1⟩:=ZpB w8.heap.size
 obtain⟨w9,hw9⟩:=ZpB (w8.alloc (pObj ⟨#[49]⟩ ⟨#[56]⟩))
 have hb9:Below w8.heap.size w8 w9:=by rw[<- hw9];exact(ZoL _ w8).alloc ZpA _
 have hp9:w9.heap[K1]?=some (pObj ⟨#[49]⟩ ⟨#[56]⟩):=by rw[<- hw9,<- hK1];exact ZoO w8 _
 have HQ9:Hid (PL w9 (.slice (some ⟨K1,0,none⟩) 1 1) [Zas]):=by
  refine⟨_,1,rfl,Nat.le_refl _,by simp[maxLen],fun _=>⟨K1,0,rfl,(Zpu hp9),fun j hj=>?_⟩⟩
  match j,hj with
  | 0,_=>exact⟨Zn hp9 0 rfl,Zn hp9 1 rfl⟩
  | j+1,h=>exact Zpp h Zc
 have hb69:Below w6.heap.size w6 w9:=hb7.trans ((hb8.trans (hb9.mono hb8.size)).mono hb7.size)
 have HI9:=Zpz (hI.below (hb8.trans (hb9.mono hb8.size)) ZpA)
 have HB69:=Zpz hb69
 clear hI hb7 hb8 hb9 hp9 hb69 HB7
 go_wp2_with fail
 try rw[hw9]
 try rw[hK1]
 clear hw9 hK1
 refine(ZkB HI9.out Zgd HQ9.out (fun q hq=>by obtain rfl:q=Zas:=(by simpa using hq);exact⟨Zd,Zd⟩)).mono ?_
 rintro e w10 ⟨x,y,n,rfl,hA,hb⟩
 obtain⟨rfl,rfl,rfl⟩:x=⟨#[51]⟩/\y=⟨#[56]⟩/\n=0:=by
  rcases hA with ⟨h,_⟩ | ⟨_,h⟩
  ·exact Zpp ⟨Zhl,ZkX⟩ h
  ·exact Zmt h
 have hb610:Below w6.heap.size w6 w10:=HB69.out.trans (hb.mono HB69.out.size)
 have HB10:Zpt w w10:=HB6.out.trans (hb610.mono HB6.out.size)
 have hA10:w10.heap[A]?=some (pObj ⟨#[51]⟩ ⟨#[56]⟩):=(hb610.block _ (Zpu HA6.out)).trans HA6.out
 have HL10:=IIL.stay2 HL6.out hb610 ZpA
 obtain⟨b1,o1,rfl,g2,g3⟩:=HL10.at IIL.stays (n:=1) rfl Zd
 obtain⟨v,g4,g5⟩:=g3 w10 (ZoL _ w10) 0 Zd
 obtain⟨q,f,c,rfl,k1,k2,k3,k4⟩:=ZaR g5 Zd
 have m0:=k4 0 Zd
 have m1:=k4 1 Zd
 unfold IntR at m0 m1
 obtain⟨B,hB⟩:=ZpB w10.heap.size
 obtain⟨w11,hw11⟩:=ZpB (w10.alloc (pObj ⟨#[51]⟩ ⟨#[56]⟩))
 have hb11:Below w10.heap.size w10 w11:=by rw[<- hw11];exact(ZoL _ w10).alloc ZpA _
 have hB11:w11.heap[B]?=some (pObj ⟨#[51]⟩ ⟨#[56]⟩):=by rw[<- hw11,<- hB];exact ZoO w10 _
 have hA11:=(hb11.block _ (Zpu hA10)).trans hA10
 have a0:=Zn hA11 0 (v:=.string ⟨#[51]⟩) rfl
 have a1:=Zn hA11 1 (v:=.string ⟨#[56]⟩) rfl
 have b0:=Zn hB11 0 (v:=.string ⟨#[51]⟩) rfl
 have b1':=Zn hB11 1 (v:=.string ⟨#[56]⟩) rfl
 have g6:=(hb11.cell (p:=⟨b1,o1+0*1,none⟩) g2).trans g4
 have m2:=(hb11.cell (p:=⟨q,f+0*1,none⟩) k3).trans m0
 have m3:=(hb11.cell (p:=⟨q,f+1*1,none⟩) k3).trans m1
 simp only[Nat.zero_mul,Zpn,Nat.one_mul,Nat.add_zero,List.getElem_cons_zero,List.getElem_cons_succ] at g6 m2 m3
 have HB11:Zpt w w11:=HB10.out.trans (hb11.mono HB10.out.size)
 simp only[Zpl,List.length_nil,Nat.zero_add,Nat.reduceAdd,List.getElem_cons_zero] at g6 k1
 clear hA hb hb610 hA10 HL10 g3 g4 g5 k4 m0 m1 hb11 hB11 hA11 HL6 HB6 HA6 HI9 HQ9 HB69
 go_wp2
 try rw[hw11]
 exact ZoM (by simp[results,Tryz.f15,go_sem]) rfl ⟨rfl,HB11.out⟩
end Go.Proofs.YtmpaflidennnoaaGreatDoor
namespace Go.Proofs.YtmpaflidennnoaaGreatDoor
open Go.ChangeShapes Go.WideShapes Go.ChangeAt Go.RowKit
section
variable {H:Type} {enc:TypeId×Value->H} {W:World} {base b0:Nat} {sp:Nat->Bool} {held:Bool}
def ZeJ {α:Type} (enc:TypeId×Value->H) (W:World) (base:Nat) (sp:Nat->Bool) (held:Bool) (e:TypeId) (k:Nat) (R:World->Nat->Nat->α->Prop):Prop:=
 ∀ (b o:Nat) (spot:Option Nat) (cs:List Value) (n:Nat) (x:DataW H×List MemPlace),cs.length=k->(∀ i,i<k->W.cell? ((⟨b,o,spot⟩:Addr).add i)=cs[i]?)->DataW.trod enc Tryz.prog W base sp held n e cs=some x->spot=none/\b<W.heap.size/\∃ q,R W b o q
theorem ZcU {α:Type} {t e:TypeId} {k:Nat} {R:World->Nat->Nat->α->Prop} (ht:Tryz.prog.underlying t=some (.slice e)) (hk:Tryz.prog.cellsOf e=k) (hR:ZeJ enc W base sp held e k R) {n:Nat} {v:Value} {x:DataW H×List MemPlace}
  (h:DataW.trod enc Tryz.prog W base sp held n t [v]=some x):∃ l:List α,LL k R W v l:=by
 rcases Deep.open_slice ht h with ⟨hcs,_⟩ | ⟨a,len',cap',m,n,D,Pl,hcs,_,hl,hm,hmm,_,hx⟩
 ·simp only[List.cons.injEq,and_true] at hcs
  subst hcs
  exact⟨[],LL.nil W⟩
 ·simp only[List.cons.injEq,and_true] at hcs
  subst hcs
  have hlm:len'<=m:=by rw[hmm];split<;>omega
  obtain⟨b,off,spot⟩:=a
  have each:∀ i,i<len'->spot=none/\b<W.heap.size/\∃ q,R W b (off+i*k) q:=fun i hi=>by
   obtain⟨cs',h1,h2⟩:=hx i Za
   rw[hk] at h1
   obtain⟨_,hlen,hcell⟩:=World.cells?_some h1
   have e:(⟨b,off,spot⟩:Addr).add (i*k)=⟨b,off+i*k,if i*k=0 then spot else none⟩\/(⟨b,off,spot⟩:Addr).add (i*k)=⟨b,off+i*k,spot⟩:=by
    unfold Addr.add
    by_cases h0:i*k=0
    ·simp[h0]
    ·simp[h0]
   rcases e with e | e
   ·rw[e] at hcell
    obtain⟨z1,z2,z3⟩:=hR _ _ _ _ _ _ hlen hcell h2
    by_cases h0:i*k=0
    ·rw[if_pos h0] at z1
     exact⟨z1,z2,z3⟩
    ·obtain⟨c0,d1,d2⟩:=hx 0 Za
     rw[hk,Nat.zero_mul] at d1
     obtain⟨_,hlen0,hcell0⟩:=World.cells?_some d1
     have e0:(⟨b,off,spot⟩:Addr).add 0=⟨b,off,spot⟩:=by simp[Addr.add]
     rw[e0] at hcell0
     exact⟨(hR _ _ _ _ _ _ hlen0 hcell0 d2).1,z2,z3⟩
   ·rw[e] at hcell
    exact hR _ _ _ _ _ _ hlen hcell h2
  obtain⟨q,hq⟩:∃ q:(i:Nat)->i<len'->α,∀ i hi,R W b (off+i*k) (q i hi):=⟨fun i hi=>(each i hi).2.2.choose,fun i hi=>(each i hi).2.2.choose_spec⟩
  refine⟨List.ofFn fun i:Fin len'=>q i.1 i.2,some ⟨b,off,spot⟩,cap',Zc,by simpa using hl,hm,fun hne=>?_⟩
  have h0:0<len':=by
   rcases Zo0 len' with h | h
   ·subst h;exact Zpp rfl hne
   ·exact h
  obtain⟨rfl,hb,_⟩:=each 0 h0
  refine⟨b,off,rfl,hb,fun j hj=>?_⟩
  have hj':j<len':=by simpa using hj
  have e:(List.ofFn fun i:Fin len'=>q i.1 i.2)[j]=q j hj':=Zc
  rw[e]
  exact hq j hj'
theorem Zcc {b o:Nat} {spot:Option Nat} {v:Value} (h:W.cell? ((⟨b,o,spot⟩:Addr).add 0)=some v):spot=none/\b<W.heap.size/\W.cell? ⟨b,o,none⟩=some v:=by
 have e0:(⟨b,o,spot⟩:Addr).add 0=⟨b,o,spot⟩:=by simp[Addr.add]
 rw[e0] at h
 have h1:spot=none:=World.cell?_spot h
 subst h1
 exact⟨rfl,Zo5 _ _ h,h⟩
theorem Zjf {l:List Value} (h:l.length=1):∃ a,l=[a]:=by
 match l,h with
 | [a],_=>exact⟨a,rfl⟩
theorem ZhO:ZeJ enc W base sp held 3 1 IntR:=fun b o spot cs n x hl hc h=>by
 obtain⟨a,rfl⟩:=Zjf hl
 obtain⟨h1,h2,h3⟩:=Zcc (hc 0 Za)
 obtain⟨m,e,_,_⟩:=DataW.trod_int Tryz.underlying3 h
 simp only[List.cons.injEq,and_true] at e
 subst e
 exact⟨h1,h2,m,h3⟩
theorem ZlB:ZeJ enc W base sp held 23 1 (InR IL):=fun b o spot cs n x hl hc h=>by
 obtain⟨a,rfl⟩:=Zjf hl
 obtain⟨h1,h2,h3⟩:=Zcc (hc 0 Za)
 obtain⟨l,hl⟩:=ZcU Tryz.underlying23 Zb ZhO h
 exact⟨h1,h2,l,a,h3,hl⟩
def ZnE (w:World) (b o:Nat) (q:PP):Prop:=w.cell? ⟨b,o,none⟩=some (.string q.1)/\w.cell? ⟨b,o+1,none⟩=some (.string q.2)
def Znz (w:World) (b o:Nat) (q:BB):Prop:=w.cell? ⟨b,o,none⟩=some (.string q.1.1)/\w.cell? ⟨b,o+1,none⟩=some (.string q.1.2)/\w.cell? ⟨b,o+2,none⟩=some (.string q.2.1)/\w.cell? ⟨b,o+3,none⟩=some (.string q.2.2)
theorem LL.toPL {w:World} {v:Value} {ps:List PP} (h:LL 2 ZnE w v ps):PL w v ps:=h
theorem LL.toBL {w:World} {v:Value} {bs:List BB} (h:LL 4 Znz w v bs):BL w v bs:=h
theorem Zdu {n:Nat} {v0 v1:Value} {x:DataW H×List MemPlace} (h:DataW.trod enc Tryz.prog W base sp held n 41 [v0,v1]=some x):∃ s t:ByteArray,v0=.string s/\v1=.string t:=by
 have ci:Tryz.prog.cellsOf 39=1:=Zb
 obtain⟨y0,y1,m,_,_,h0,h1⟩:=trod_struct2 Tryz.underlying41 h
 simp[ci] at h0 h1
 obtain⟨s,e0,_,_⟩:=DataW.trod_string Tryz.underlying39 h0
 obtain⟨t,e1,_,_⟩:=DataW.trod_string Tryz.underlying39 h1
 simp only[List.cons.injEq,and_true] at e0 e1
 exact⟨s,t,e0,e1⟩
theorem ZcB {b o i:Nat} {v:Value} {spot:Option Nat} (hs:spot=none) (h:W.cell? ((⟨b,o,spot⟩:Addr).add i)=some v):W.cell? ⟨b,o+i,none⟩=some v:=by
 subst hs
 rwa [add_plain] at h
theorem Zlg:ZeJ enc W base sp held 41 2 ZnE:=fun b o spot cs n x hl hc h=>by
 match cs,hl with
 | [v0,v1],_=>
  obtain⟨h1,h2,h3⟩:=Zcc (hc 0 Za)
  obtain⟨s,t,rfl,rfl⟩:=Zdu h
  exact⟨h1,h2,(s,t),h3,ZcB h1 (hc 1 Za)⟩
theorem ZkE:ZeJ enc W base sp held 138 4 Znz:=fun b o spot cs n x hl hc h=>by
 have cp:Tryz.prog.cellsOf 41=2:=Zb
 match cs,hl with
 | [v0,v1,v2,v3],_=>
  obtain⟨h1,h2,h3⟩:=Zcc (hc 0 Za)
  obtain⟨y0,y1,m,_,_,g0,g1⟩:=trod_struct2 Tryz.underlying138 h
  simp[cp] at g0 g1
  obtain⟨s,t,rfl,rfl⟩:=Zdu g0
  obtain⟨u,v,rfl,rfl⟩:=Zdu g1
  exact⟨h1,h2,((s,t),(u,v)),h3,ZcB h1 (hc 1 Za),ZcB h1 (hc 2 Za),ZcB h1 (hc 3 Za)⟩
theorem ZjD:ZeJ enc W base sp held 37 1 (InR PL):=fun b o spot cs n x hl hc h=>by
 obtain⟨a,rfl⟩:=Zjf hl
 obtain⟨h1,h2,h3⟩:=Zcc (hc 0 Za)
 obtain⟨l,hl⟩:=ZcU Tryz.underlying37 Zb Zlg h
 exact⟨h1,h2,l,a,h3,hl.toPL⟩
theorem Zln:ZeJ enc W base sp held 74 3 Zc3:=fun b o spot cs n x hl hc h=>by
 have cp:Tryz.prog.cellsOf 41=2:=Zb
 have cb:Tryz.prog.cellsOf 72=1:=Zb
 match cs,hl with
 | [v0,v1,v2],_=>
  obtain⟨h1,h2,h3⟩:=Zcc (hc 0 Za)
  obtain⟨y0,y1,m,_,_,g0,g1⟩:=trod_struct2 Tryz.underlying74 h
  simp[cp,cb] at g0 g1
  obtain⟨s,t,rfl,rfl⟩:=Zdu g0
  obtain⟨l,hl⟩:=ZcU Tryz.underlying72 Zb ZkE g1
  exact⟨h1,h2,⟨(s,t),l⟩,h3,ZcB h1 (hc 1 Za),v2,ZcB h1 (hc 2 Za),hl.toBL⟩
end
section
variable {H:Type} {enc:TypeId×Value->H} {W:World} {base b0:Nat} {sp:Nat->Bool} {held:Bool}
theorem Znl {T:TypeId} {v:Value} {d:DataW H} {p:List MemPlace} (hv:Value.okWide Tryz.prog W .any b0 T v) {e:TypeId} (ht:Tryz.prog.underlying T=some (.slice e)) (h:DataW.Trod enc Tryz.prog W base sp held T v d p):∃ n x,DataW.trod enc Tryz.prog W base sp held n T [v]=some x:=by
 obtain⟨a0,len,cap,rfl⟩:=okWide_slice ht hv
 obtain⟨fuel,hf⟩:=h
 exact⟨fuel,_,hf⟩
theorem Zmy {v:Value} {d:DataW H} {p:List MemPlace} (hv:Value.okWide Tryz.prog W .any b0 29 v) (h:DataW.Trod enc Tryz.prog W base sp held 29 v d p):∃ l:List (List Int),IIL W v l:=by
 obtain⟨n,x,hf⟩:=Znl hv Tryz.underlying29 h
 exact ZcU Tryz.underlying29 Zb ZlB hf
theorem ZjW (T:Array Value) (h:T.size=3):∃ v0 v1 v2:Value,T = #[v0,v1,v2]:=by
 obtain⟨l⟩:=T
 match l,h with
 | [a,b,c],_=>exact⟨a,b,c,rfl⟩
theorem Zjt {v:Value} {d:DataW H} {p:List MemPlace} (hv:Value.okWide Tryz.prog W .any b0 26 v) (h:DataW.Trod enc Tryz.prog W base sp held 26 v d p) :
  ∃ (t:TaskP) (sv hv rv:Value),v=.agg #[sv,hv,rv]/\ZnD W sv t.sites/\IL W hv t.hours/\PPL W rv t.rates:=by
 have hv2:=hv
 simp only[Value.okWide,Tryz.underlying26] at hv2
 obtain⟨cs,rfl,hsz,_⟩:=hv2
 have ca:Tryz.prog.cellsOf 26=3:=Zb
 have c1:Tryz.prog.cellsOf 22=1:=Zb
 have c2:Tryz.prog.cellsOf 23=1:=Zb
 have c3:Tryz.prog.cellsOf 24=1:=Zb
 rw[ca] at hsz
 obtain⟨v0,v1,v2,rfl⟩:=ZjW _ hsz
 obtain⟨fuel,hf⟩:=h
 obtain⟨xs,k,hk,hxy,_,hxl,hff⟩:=DataW.trod_struct Tryz.underlying26 hf
 match xs,hxl with
 | [y0,y1,y2],_=>
  have g0:=hff 0 _ rfl
  have g1:=hff 1 _ rfl
  have g2:=hff 2 _ rfl
  simp[c1,c2,c3,Value.cells] at g0 g1 g2
  obtain⟨l0,h0⟩:=ZcU Tryz.underlying22 Zb Zln g0
  obtain⟨l1,h1⟩:=ZcU Tryz.underlying23 Zb ZhO g1
  obtain⟨l2,h2⟩:=ZcU Tryz.underlying24 Zb ZjD g2
  exact⟨⟨l0,l1,l2⟩,v0,v1,v2,rfl,h0,h1,h2⟩
end
end Go.Proofs.YtmpaflidennnoaaGreatDoor
namespace Go.Proofs.YtmpaflidennnoaaGreatDoor
open Go.ChangeShapes Go.WideShapes Go.ChangeAt Go.RowKit
theorem Znr:ownKnob Tryz.prog.godebug=none:=Zb
theorem Zf7:laidOutB Tryz.prog=true:=Zb
def Zbe:List (String×DataW Unit):=Rows.effortBoundRow.laid
theorem ZgN:(Zbe.all fun x=>x.2.handleName?.isNone)=true:=Zb
theorem pow9:(Zbe.filter fun x=>x.1=="internal/strconv.uint64pow10")=[("internal/strconv.uint64pow10",Lib.tabData .u64 Lib.pow10Tab)]:=Zb
theorem Zox:(Zbe.filter fun x=>x.1=="cresset/detect.zero")=[("cresset/detect.zero",.agg [.lit (.string [48]),.lit (.string [49])])]:=Zb
theorem one9:(Zbe.filter fun x=>x.1=="cresset/detect.one")=[("cresset/detect.one",.agg [.lit (.string [49]),.lit (.string [49])])]:=Zb
theorem Zol:(Zbe.filter fun x=>x.1=="cresset/effort.zero")=[("cresset/effort.zero",.agg [.lit (.string [48]),.lit (.string [49])])]:=Zb
theorem ZhW {W:World} (h:laidMetH Tryz.prog Zbe W):Tabs W:=by
 rw[MakeChecks.laidMetH_plain _ _ _ ZgN] at h
 have h2:=laidMet.filter (fun x=>x.1=="internal/strconv.uint64pow10") h
 rw[pow9] at h2
 exact Lib.tabIs_of_head ZeO Zb Tryz.underlying295 Tryz.underlying158 Zb Zb h2
theorem ZdM {name:String} {g:Nat} {a b:List UInt8} {W:World} (hg:Tryz.prog.globalNamed name=some g) (hty:(Tryz.prog.globals[g]?).map (·.type)=some 41)
  (h:laidMet Tryz.prog [(name,.agg [.lit (.string a),.lit (.string b)])] W):W.cell? ⟨g,0,none⟩=some (.string ⟨a.toArray⟩)/\W.cell? ⟨g,1,none⟩=some (.string ⟨b.toArray⟩):=by
 obtain⟨ps,⟨g',t',cs,fuel,p,q,hg',ht',hvar,hd,_,_⟩,_⟩:=h
 obtain rfl:=ZoP (hg.symm.trans hg')
 obtain rfl:=ZoP (hty.symm.trans ht')
 obtain⟨y0,y1,n,hx,hl,h0,h1⟩:=trod_struct2 Tryz.underlying41 hd
 obtain⟨l,hl'⟩:=ZpB cs.toList
 rw[hl'] at hl h0 h1
 have c2:Tryz.prog.cellsOf 41=2:=Zb
 have c1:Tryz.prog.cellsOf 39=1:=Zb
 rw[c2] at hl
 match l,hl with
 | [v0,v1],_=>
  dsimp only at h0 h1
  rw[c1] at h0 h1
  obtain⟨s,e0,e1,_⟩:=DataW.trod_string Tryz.underlying39 h0
  obtain⟨t,f0,f1,_⟩:=DataW.trod_string Tryz.underlying39 h1
  simp at e0 f0
  subst e0 f0
  simp only[e1,f1,Prod.mk.injEq,DataW.agg.injEq,List.cons.injEq,DataW.lit.injEq,Lit.string.injEq,and_true] at hx
  obtain⟨⟨rfl,rfl⟩,_⟩:=hx
  have k0:=World.var?_cell hg hvar 0
  have k1:=World.var?_cell hg hvar 1
  have z0:cs[0]?=some (.string s):=by rw[<- Array.getElem?_toList,hl'];rfl
  have z1:cs[1]?=some (.string t):=by rw[<- Array.getElem?_toList,hl'];rfl
  exact⟨k0.trans z0,k1.trans z1⟩
theorem ZhV {W:World} (h:laidMetH Tryz.prog Zbe W):DetV W:=by
 rw[MakeChecks.laidMetH_plain _ _ _ ZgN] at h
 have h2:=laidMet.filter (fun x=>x.1=="cresset/detect.zero") h
 have h3:=laidMet.filter (fun x=>x.1=="cresset/detect.one") h
 rw[Zox] at h2
 rw[one9] at h3
 have k2:=ZdM (g:=1) Zb Zb h2
 have k3:=ZdM (g:=2) Zb Zb h3
 exact⟨k2.1,k2.2,k3.1,k3.2⟩
theorem ZhU {W:World} (h:laidMetH Tryz.prog Zbe W):EffZ W:=by
 rw[MakeChecks.laidMetH_plain _ _ _ ZgN] at h
 have h2:=laidMet.filter (fun x=>x.1=="cresset/effort.zero") h
 rw[Zol] at h2
 have k2:=ZdM (g:=0) Zb Zb h2
 exact⟨k2.1,k2.2⟩
theorem Zov (os:Os):(World.holding Tryz.prog os ⟨#[],#[],[]⟩).layFits Tryz.prog Zbe []=true:=Zb
theorem Zn6 (os:Os):(World.holding Tryz.prog os ⟨#[],#[],[]⟩).layIfaces Tryz.prog Zbe (World.laidAll Tryz.prog os Zbe)=true:=Zb
theorem met9 (os:Os) (args:Array Value):laidMetH Tryz.prog Zbe ((World.laidAll Tryz.prog os Zbe).forCall (fun _ _=>0) ⟨#[],args,[]⟩).memory:=by
 rw[MakeChecks.laidMetH_plain _ _ _ ZgN]
 exact laidMet_laidAll _ (Zov os) (Zn6 os)
theorem Zn8 {H:Type} {enc:TypeId×Value->H} {W:World} {base b0:Nat} {sp:Nat->Bool} {held:Bool} {v:Value} {d:DataW H} {p:List MemPlace} (hv:Value.okWide Tryz.prog W .any b0 26 v) (h:DataW.Trod enc Tryz.prog W base sp held 26 v d p) (hL:laidMetH Tryz.prog Zbe W) :
  ∃ (t:TaskP) (sv hv rv:Value),v=.agg #[sv,hv,rv]/\TaskIn t sv hv rv W:=by
 obtain⟨t,sv,hv,rv,e,h1,h2,h3⟩:=Zjt hv h
 exact⟨t,sv,hv,rv,e,h1,h2,h3,ZhV hL,ZhW hL,ZhU hL⟩
end Go.Proofs.YtmpaflidennnoaaGreatDoor
namespace Go.Proofs.YtmpaflidennnoaaGreatDoor
open Go.RowKit Go.Shelf
attribute [local go_sem ↓] Go.wp_at_zero Go.wp_at_succ
def ZmU (p:List (List Int)) (w:World) (e:Ending) (w':World):Prop:=∃ r:Bool,e=.returned (.bool r)/\(r=false->p.length<=10/\∀ u (h:u<p.length),p[u].length<=26)/\Below w.heap.size w w'
theorem Zm5 {p:List (List Int)} {pv:Value} {w:World} (hp:IIL w pv p):Calls Tryz.prog 19 #[pv] w (ZmU p w):=by
 obtain⟨n,hn⟩:=ZpB p.length
 obtain⟨pp,pc,rfl,hpc1,hpc2⟩:=hp.shape hn
 have HP:=Zpz hp
 have HN:=Zpz hn
 clear hp hn
 go_enter Tryz.func19,Tryz.ntmps19
 go_wp2_with fail
 go_loopw [3] (fun iv wr=>∃ u:Nat,iv=.int .i64 u/\u<=n/\Hid (∀ k (h:k<p.length),k<u->p[k].length<=26)/\wr=w) (fun iv _=>n-(intOf iv).toNat)
 case atStart=>exact⟨0,rfl,ZoY _,fun k _ h=>Zpp h (Zpb _),rfl⟩
 case round=>
  obtain⟨u,rfl,hu,HW,rfl⟩:=hrel
  by_cases hlt:u<n
  ·have hu':u<p.length:=by rw[HN.out];exact hlt
   obtain⟨b,o,rfl,g1,g2⟩:=HP.out.at IIL.stays HN.out Za
   obtain⟨v,g3,q,c,rfl,c1,c2,_⟩:=g2 wr (ZoL _ wr) u hu'
   rw[Zpn] at g3
   obtain⟨l,hl⟩:=ZpB (p[u].length)
   rw[hl] at g3
   have i0':(0:Int)<=(u:Int):=Za
   have i1':(u:Int)<(n:Int):=Za
   have HL:=Zpz hl
   clear g1 g2 c1 c2 hl
   by_cases hw:(26:Int)<(l:Int)
   ·go_wp2
    exact ZoM (by simp[results,Tryz.f19,go_sem]) rfl ⟨true,rfl,fun h=>(by cases h),ZoL _ _⟩
   ·have HW2:Hid (∀ k (h:k<p.length),k<u+1->p[k].length<=26):=fun k h hk=>by
     rcases ZoR k u with h2 | h2
     ·exact HW.out k h h2
     ·obtain rfl:k=u:=Za
      rw[HL.out]
      omega
    go_wp2
    go_roundw
    case rel=>exact⟨u+1,by go_num,Za,HW2,trivial⟩
    case measure=>exact Zj
  ·obtain rfl:u=n:=Za
   by_cases hw:(10:Int)<(u:Int)
   ·go_wp2
    exact ZoM (by simp[results,Tryz.f19,go_sem]) rfl ⟨true,rfl,fun h=>(by cases h),ZoL _ _⟩
   ·go_wp2
    exact ZoM (by simp[results,Tryz.f19,go_sem]) rfl ⟨false,rfl,fun _=>⟨by rw[HN.out];omega,fun k h=>HW.out k h (by rw[<- HN.out];exact h)⟩,ZoL _ _⟩
def fewB (b:BB):Prop:=(b.1.1.size<=30/\b.1.2.size<=30)/\(b.2.1.size<=30/\b.2.2.size<=30)
def Zl1 (bs:List BB) (w:World) (e:Ending) (w':World):Prop:=∃ r:Bool,e=.returned (.bool r)/\(r=false->bs.length<=66/\∀ i,i<bs.length->fewB (bAt bs i))/\Below w.heap.size w w'
theorem ZnL {bs:List BB} (h:∀ i,i<bs.length->fewB (bAt bs i)):LimB bs:=fun x hx=>by
 obtain⟨i,hi,rfl⟩:=List.getElem_of_mem hx
 have h1:=h i hi
 rw[ZdC hi] at h1
 obtain⟨⟨a1,a2⟩,a3,a4⟩:=h1
 exact⟨⟨Za,Za⟩,Za,Za⟩
abbrev S4g (b o:Nat) (s t u v:ByteArray) (w':World):Prop:=w'.cell? ⟨b,o,none⟩=some (.string s)/\w'.cell? ⟨b,o+1,none⟩=some (.string t)/\w'.cell? ⟨b,o+2,none⟩=some (.string u)/\w'.cell? ⟨b,o+3,none⟩=some (.string v)
theorem ZlQ {v:Value} {bs:List BB} {w:World} (hv:BL w v bs):Calls Tryz.prog 47 #[v] w (Zl1 bs w):=by
 obtain⟨n,hn⟩:=ZpB bs.length
 obtain⟨p,c,rfl⟩:∃ p c,v=.slice p n c:=by obtain⟨p,c,h,_⟩:=id hv;exact⟨_,_,by rw[<- hn];exact h⟩
 obtain⟨_,hcc,hnc⟩:=hv.len
 have HV:=Zpz hv
 have HN:=Zpz hn
 clear hv hn
 by_cases hl:n<=66
 ·have hno:¬ (66:Int)<(n:Int):=Za
  go_enter Tryz.func47,Tryz.ntmps47
  go_wp2_with fail
  go_loopw [3] (fun i wr=>∃ k:Nat,i=.int .i64 k/\k<=n/\Hid (∀ j,j<k->fewB (bAt bs j))/\Zpt w wr) (fun i _=>n-(intOf i).toNat)
  case atStart=>exact⟨0,rfl,ZoY _,fun j hj=>Za,ZoL _ _⟩
  case round=>
   obtain⟨k,rfl,hk,HK,HB⟩:=hrel
   by_cases hlt:k<n
   ·obtain⟨b,off,rfl,_,hat⟩:=HV.out.at HN.out Za
    have hS:=hat wr.drew HB.out.drew k hlt
    obtain⟨q,hq⟩:=ZpB (bAt bs k)
    rw[hq] at hS
    have HQ:=Zpz hq
    obtain⟨⟨s,t⟩,u,v⟩:=q
    dsimp only at hS
    have i0':(0:Int)<=(k:Int):=Za
    have i1':(k:Int)<(n:Int):=Za
    clear hat hq
    go_wp2_with fail
    refine ZY [(true,0),(true,1),(true,2),(true,3),(true,4),(true,5),(true,6),(true,7),(true,8),(true,9),(true,10),(true,11),(true,12),(true,13),(true,14),(true,15),(true,16),(true,17),(true,18),(true,19),(true,20),(true,21),(true,22),(true,23),(true,24),(true,25),(true,26),(true,27),(true,28),(true,29),(true,30),(true,31)] (S4g b (off+k*4) s t u v) (fun _=>false)
     Zb Zb Zb (fun _ _=>rfl) Zi hS ?_
    iterate 32
     refine Zr _ rfl rfl (fun w' hS=>by obtain⟨a0,a1,a2,a3⟩:=hS;exact Ze) ?_
     simp only[Act.put,Zl]
    refine ZI ?_
    obtain⟨mx,hmx⟩:∃ mx:Int,max (s.size:Int) (max (t.size:Int) (max (u.size:Int) (v.size:Int)))=mx:=⟨_,rfl⟩
    rw[hmx]
    by_cases h30:(30:Int)<mx
    ·go_wp2
     go_ret
     exact⟨true,rfl,(fun h=>by cases h),HB.out.drew⟩
    ·go_wp2
     have hb:fewB (bAt bs k):=by
      rw[HQ.out]
      show (s.size<=30/\t.size<=30)/\(u.size<=30/\v.size<=30)
      exact⟨⟨Za,Za⟩,Za,Za⟩
     refine⟨⟨k+1,Zc,Za,?_,HB.out.drew⟩,?_⟩
     ·intro j hj
      rcases ZoR j k with h | h
      ·exact HK.out j h
      ·obtain rfl:j=k:=Za
       exact hb
     ·simp only[intOf]
      omega
   ·obtain rfl:k=n:=Za
    have HF:Hid (bs.length<=66/\∀ i,i<bs.length->fewB (bAt bs i)):=⟨by rw[HN.out];exact hl,fun i hi=>HK.out i (by rw[<- HN.out];exact hi)⟩
    go_wp2
    go_ret
    exact⟨false,rfl,fun _=>HF.out,HB.out⟩
 ·have hno:(66:Int)<(n:Int):=Za
  go_enter Tryz.func47,Tryz.ntmps47
  go_wp2
  go_ret
  exact⟨true,rfl,(fun h=>by cases h),ZoL _ _⟩
structure SmallT (t:TaskP) (a b:Nat):Prop where
 sites:t.sites.length<=26
 hours:t.hours.length<=10
 rates:t.rates.length<=10
 few:(t.sites.length<=a\/24<t.sites.length)/\(t.hours.length<=b\/8<t.hours.length)
 lim:LimT t
def ZkV (t:TaskP) (a b:Nat) (w:World) (e:Ending) (w':World):Prop:=∃ r:Bool,e=.returned (.bool r)/\(r=false->SmallT t a b)/\Below w.heap.size w w'
def fewT (a b ns nh nr:Nat):Prop:=(ns<=a\/24<ns)/\(nh<=b\/8<nh)/\ns<=26/\nh<=10/\nr<=10
theorem ZkG {t:TaskP} {sv hv rv:Value} {w:World} (h:TaskIn t sv hv rv w) (a b c:Nat) (ha:a<=1000) (hb:b<=1000) (hc:c<=1000) :
  Calls Tryz.prog 14 #[.agg #[sv,hv,rv],.int .i64 a,.int .i64 b,.int .i64 c] w (ZkV t a b w):=by
 obtain⟨ns,hns⟩:=ZpB t.sites.length
 obtain⟨nh,hnh⟩:=ZpB t.hours.length
 obtain⟨nr,hnr⟩:=ZpB t.rates.length
 obtain⟨ps,cs,rfl,hs1,hs2⟩:=h.sites.shape hns
 obtain⟨ph,ch,rfl,hh1,hh2⟩:=h.hours.shape hnh
 obtain⟨pr,cr,rfl,hr1,hr2⟩:=h.rates.shape hnr
 have HT:=Zpz h
 have HNS:=Zpz hns
 have HNH:=Zpz hnh
 have HNR:=Zpz hnr
 have HE0:Hid (Env w.heap.size w [(w.heap.size,efO (.slice ps ns cs) (.slice ph nh ch) (.slice pr nr cr))] [] (w.alloc (efO (.slice ps ns cs) (.slice ph nh ch) (.slice pr nr cr)))):=(Env.start w).push _ rfl
 obtain⟨G,hG⟩:=ZpB w.heap.size
 obtain⟨w1,hw1⟩:=ZpB (w.alloc (efO (.slice ps ns cs) (.slice ph nh ch) (.slice pr nr cr)))
 have HG:=Zpz hG
 rw[hw1] at HE0
 have c0:=HE0.out.cell 0 0 (v:=.slice ps ns cs) rfl rfl
 have c1:=HE0.out.cell 0 1 (v:=.slice ph nh ch) rfl rfl
 have c2:=HE0.out.cell 0 2 (v:=.slice pr nr cr) rfl rfl
 rw[hG] at c0 c1 c2
 clear h hns hnh hnr
 go_enter Tryz.func14,Tryz.ntmps14
 go_upto_region 1 with (fail)
 go_cut [56] from 15 (fun s56 wc=>∃ r:Bool,s56=.bool r/\(r=false->fewT a b ns nh nr)/\wc=w1)
 case first=>
  by_cases hA:(a:Int)<(ns:Int)
  all_goals by_cases hB:(b:Int)<(nh:Int)
  all_goals go_wp2
  all_goals (go_meet;refine⟨_,rfl,fun hr=>?_,rfl⟩;first | (cases hr;done) | ((try simp only[Bool.or_eq_false_iff,decide_eq_false_iff_not] at hr);unfold fewT;omega))
 case rest=>
  obtain⟨r,rfl,hr,rfl⟩:=hcut
  cases r with
  | true=>
   go_wp2
   exact ZoM (by simp[results,Tryz.f14,go_sem]) rfl ⟨true,rfl,(fun h=>by cases h),HE0.out.base⟩
  | false=>
   have HF:=Zpz (hr rfl)
   obtain⟨_,_,f3,f4,f5⟩:=hr rfl
   clear hr hw1
   rw[hG] at HE0
   go_wp2_with fail
   go_loopw [9,10] (fun nv iv wr=>∃ (u:Nat) (m:Int),nv=.int .i64 m/\(0<=m/\m<=1000*(u:Int))/\iv=.int .i64 u/\u<=nh/\wr=wc) (fun _ iv _=>nh-(intOf iv).toNat)
   case atStart=>exact⟨0,0,rfl,Za,rfl,ZoY _,rfl⟩
   case round=>
    obtain⟨u,m,rfl,hm,rfl,hu,rfl⟩:=hrel
    by_cases hlt:u<nh
    ·obtain⟨b',o,rfl,g1,g2⟩:=HT.out.hours.at IntR.stays HNH.out Za
     have g3:=g2 wr (by rw[<- hG] at HE0;exact HE0.out.base) u (by rw[HNH.out];exact hlt)
     unfold IntR at g3
     rw[Zpn] at g3
     obtain⟨x,hx⟩:∃ z,t.hours[u]'(by rw[HNH.out];exact hlt)=z:=⟨_,rfl⟩
     rw[hx] at g3
     have eW:IntKind.i64.wrap (m+max 0 (min x 1000))=m+max 0 (min x 1000):=Zpm _ Za
     have i0':(0:Int)<=(u:Int):=Za
     have i1':(u:Int)<(nh:Int):=Za
     clear g1 g2 hx
     go_wp2
     go_roundw
     case rel=>exact⟨u+1,m+max 0 (min x 1000),by first | rfl | rw[eW],Za,by go_num,Za,by first | rfl | trivial⟩
     case measure=>exact Zj
    ·obtain rfl:u=nh:=Za
     go_wp2_with fail
     go_loopw [11] (fun iv wv=>∃ v:Nat,iv=.int .i64 v/\v<=nr/\Hid (∀ k (h:k<t.rates.length),k<v->LimP t.rates[k])/\wv=wr) (fun iv _=>nr-(intOf iv).toNat)
     case atStart=>exact⟨0,rfl,ZoY _,fun k _ h=>Zpp h (Zpb _),rfl⟩
     case round=>
      obtain⟨v,rfl,hv,HV,rfl⟩:=hrel
      by_cases hlt2:v<nr
      ·have hvl:v<t.rates.length:=by rw[HNR.out];exact hlt2
       obtain⟨b',o,rfl,g1,g2⟩:=HT.out.rates.at PPL.stays HNR.out Za
       obtain⟨q,g3,g4⟩:=g2 wr (by rw[<- hG] at HE0;exact HE0.out.base) v hvl
       rw[Zpn] at g3
       obtain⟨R,hR⟩:=ZpB (t.rates[v])
       rw[hR] at g4
       obtain⟨l,hl⟩:=ZpB R.length
       obtain⟨q,qc,rfl,hq1,hq2,_⟩:=id g4
       rw[hl] at g3 g4
       have HPL:=Zpz g4
       have HRR:=Zpz hR
       have HLL:=Zpz hl
       have i0':(0:Int)<=(v:Int):=Za
       have i1':(v:Int)<(nr:Int):=Za
       clear g1 g2 g4 hR hl
       by_cases h26:(26:Int)<(l:Int)
       ·skip
        go_wp2
        exact ZoM (by simp[results,Tryz.f14,go_sem]) rfl ⟨true,rfl,(fun h=>by cases h),(by rw[<- hG] at HE0;exact HE0.out.base)⟩
       ·go_wp2_with fail
        go_loopw [12] (fun iv wx=>∃ j:Nat,iv=.int .i64 j/\j<=l/\Hid (∀ i (h:i<R.length),i<j->R[i].1.size<=20/\R[i].2.size<=20)/\wx=wr) (fun iv _=>l-(intOf iv).toNat)
        case atStart=>exact⟨0,rfl,ZoY _,fun k _ h=>Zpp h (Zpb _),rfl⟩
        case round=>
         obtain⟨j,rfl,hj,HJ,rfl⟩:=hrel
         by_cases hlt3:j<l
         ·have hjl:j<R.length:=by rw[HLL.out];exact hlt3
          obtain⟨b2,o2,_,hv9,_,_,hbl,hat⟩:=Zem HPL.out Za
          injection hv9 with e1 e2 e3
          subst e1
          obtain⟨d0,d1⟩:=hat j hjl
          obtain⟨⟨x,y⟩,hxy⟩:∃ z,R[j]=z:=⟨_,rfl⟩
          rw[hxy] at d0 d1
          have HXY:=Zpz hxy
          dsimp only at d0 d1
          have j0':(0:Int)<=(j:Int):=Za
          have j1':(j:Int)<(l:Int):=Za
          clear hat hbl hxy e2 e3
          by_cases h1:(20:Int)<(x.size:Int)
          ·skip
           go_wp2
           exact ZoM (by simp[results,Tryz.f14,go_sem]) rfl ⟨true,rfl,(fun h=>by cases h),(by rw[<- hG] at HE0;exact HE0.out.base)⟩
          ·by_cases h2:(20:Int)<(y.size:Int)
           ·skip
            go_wp2
            exact ZoM (by simp[results,Tryz.f14,go_sem]) rfl ⟨true,rfl,(fun h=>by cases h),(by rw[<- hG] at HE0;exact HE0.out.base)⟩
           ·have HJ2:Hid (∀ i (h:i<R.length),i<j+1->R[i].1.size<=20/\R[i].2.size<=20):=fun i h hi=>by
             rcases ZoR i j with h9 | h9
             ·exact HJ.out i h h9
             ·obtain rfl:i=j:=Za
              rw[HXY.out]
              show x.size<=20/\y.size<=20
              omega
            go_wp2
            go_roundw
            case rel=>exact⟨j+1,by go_num,Za,HJ2,by first | rfl | trivial⟩
            case measure=>exact Zj
         ·obtain rfl:j=l:=Za
          have HV2:Hid (∀ k (h:k<t.rates.length),k<v+1->LimP t.rates[k]):=fun k h hk=>by
           rcases ZoR k v with h9 | h9
           ·exact HV.out k h h9
           ·obtain rfl:k=v:=Za
            rw[HRR.out]
            intro z hz
            obtain⟨i,hi,rfl⟩:=List.getElem_of_mem hz
            have:=HJ.out i hi (by rw[<- HLL.out];exact hi)
            omega
          go_wp2
          go_roundw
          case rel=>exact⟨v+1,by go_num,Za,HV2,by first | rfl | trivial⟩
          case measure=>exact Zj
      ·obtain rfl:v=nr:=Za
       go_wp2_with fail
       go_loopw [13] (fun iv wx=>∃ k:Nat,iv=.int .i64 k/\k<=ns/\Hid (∀ i (h:i<t.sites.length),i<k->(t.sites[i].weight.1.size<=20/\t.sites[i].weight.2.size<=20)/\LimB t.sites[i].curve)/\Hid (Env G w [(G,efO (.slice ps ns cs) (.slice ph u ch) (.slice pr v cr))] [] wx)) (fun iv _=>ns-(intOf iv).toNat)
       case atStart=>exact⟨0,rfl,ZoY _,fun k _ h=>Zpp h (Zpb _),HE0⟩
       case round=>
        obtain⟨k,rfl,hk,HK,HE⟩:=hrel
        clear HE0 c0 c1 c2
        have c0:=HE.out.cell 0 0 (v:=.slice ps ns cs) rfl rfl
        by_cases hlt3:k<ns
        ·have hkl:k<t.sites.length:=by rw[HNS.out];exact hlt3
         obtain⟨b',o,rfl,g1,g2⟩:=HT.out.sites.at Zc3.stays HNS.out Za
         have g2':∀ W,Below G w W->Zc3 W b' (o+k*3) t.sites[k]:=fun W hW=>g2 W (by rw[hG];exact hW) k hkl
         obtain⟨⟨⟨x,y⟩,bs⟩,hS⟩:∃ z,t.sites[k]=z:=⟨_,rfl⟩
         rw[hS] at g2'
         have HSS:=Zpz hS
         obtain⟨e0,e1,q,e2,hbl⟩:=g2' wr HE.out.base
         have HG2:=Zpz g2'
         obtain⟨l,hl⟩:=ZpB bs.length
         obtain⟨q,qc,rfl,_⟩:=id hbl
         rw[hl] at e2 hbl
         have HBL:=Zpz hbl
         have HLL:=Zpz hl
         have i0':(0:Int)<=(k:Int):=Za
         have i1':(k:Int)<(ns:Int):=Za
         clear g1 g2 g2' hS hbl hl
         go_wp2_with fail
         refine(ZlQ HBL.out).mono ?_
         rintro e w5 ⟨rb,rfl,hfew,hb⟩
         have HE5:=Zpz (HE.out.step hb)
         clear hb HE c0 e0 e1 e2
         have c0:=HE5.out.cell 0 0 (v:=.slice (some ⟨b',o,none⟩) ns cs) rfl rfl
         obtain⟨e0,e1,_⟩:=HG2.out w5 HE5.out.base
         dsimp only at e0 e1
         cases rb with
         | true=>
          go_wp2
          exact ZoM (by simp[results,Tryz.f14,go_sem]) rfl ⟨true,rfl,(fun h=>by cases h),(by rw[hG];exact HE5.out.base)⟩
         | false=>
          have HLB:Hid (LimB bs):=ZnL (hfew rfl).2
          clear hfew
          by_cases h1:(20:Int)<(x.size:Int)
          ·skip
           go_wp2
           exact ZoM (by simp[results,Tryz.f14,go_sem]) rfl ⟨true,rfl,(fun h=>by cases h),(by rw[hG];exact HE5.out.base)⟩
          ·by_cases h2:(20:Int)<(y.size:Int)
           ·skip
            go_wp2
            exact ZoM (by simp[results,Tryz.f14,go_sem]) rfl ⟨true,rfl,(fun h=>by cases h),(by rw[hG];exact HE5.out.base)⟩
           ·have HK2:Hid (∀ i (h:i<t.sites.length),i<k+1->(t.sites[i].weight.1.size<=20/\t.sites[i].weight.2.size<=20)/\LimB t.sites[i].curve):=fun i h hi=>by
             rcases ZoR i k with h9 | h9
             ·exact HK.out i h h9
             ·obtain rfl:i=k:=Za
              rw[HSS.out]
              refine⟨?_,HLB.out⟩
              show x.size<=20/\y.size<=20
              omega
            go_wp2
            go_roundw
            case rel=>exact⟨k+1,by go_num,Za,HK2,HE5⟩
            case measure=>exact Zj
        ·obtain rfl:k=ns:=Za
         have HLT:Hid (LimT t):=⟨fun s hs=>by
          obtain⟨i,hi,rfl⟩:=List.getElem_of_mem hs
          obtain⟨h1,h2⟩:=HK.out i hi (by rw[<- HNS.out];exact hi)
          exact⟨Za,h2⟩,fun l hl=>by
          obtain⟨i,hi,rfl⟩:=List.getElem_of_mem hl
          exact HV.out i hi (by rw[<- HNR.out];exact hi)⟩
         have HFF:=HF.out
         unfold fewT at HFF
         have HSM:Hid (SmallT t a b):=⟨by rw[HNS.out];omega,by rw[HNH.out];omega,by rw[HNR.out];omega,by rw[HNS.out,HNH.out];omega,HLT.out⟩
         clear HFF
         go_wp2
         exact ZoM (v:=.bool (decide ((c:Int)<m))) (by simp[results,Tryz.f14,go_sem]) rfl ⟨_,rfl,fun _=>HSM.out,by rw[hG];exact HE.out.base⟩
end Go.Proofs.YtmpaflidennnoaaGreatDoor
