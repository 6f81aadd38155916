/- The parts ETwo, EffTwo, EAlive, EOpen, ERowBase, EWide, DGreat of a proof, put together by program (merge7.py). -/
import Derived.Test.YtmpaflidennnoaaGreatDoorH30
import Derived.Test.YtmpaflidennnoaaGreatDoorH13
import Derived.Test.YtmpaflidennnoaaGreatDoorH22
import Derived.Test.YtmpaflidennnoaaGreatDoorRows
import Derived.ProofKit
import Derived.OpenShut
import Derived.LaidMore
import Derived.LaidSub
import Derived.Lay
import Derived.Lib.LaidTab
import Derived.Lib.SmallJoins
import Derived.SevenTiedAt
import Derived.Stop.Joined
import Derived.Deep.SlicePairs
import Derived.Test.YtmpaflidennnoaaGreatDoorH07
import Derived.Test.YtmpaflidennnoaaGreatDoorH12
import Derived.Test.YtmpaflidennnoaaGreatDoorH15
import Derived.Test.YtmpaflidennnoaaGreatDoorH20
set_option maxRecDepth 100000
set_option maxHeartbeats 8000000
set_option linter.unusedVariables false
set_option linter.unusedSimpArgs false
namespace Go.Proofs.YtmpaflidennnoaaGreatDoor
open Go.RowKit Go.Shelf
attribute [local go_sem ↓] Go.wp_at_zero Go.wp_at_succ
theorem Za1 {a b:Nat} (hb:0<b) (ha1:a<1000) (hb1:b<1000) {s t:ByteArray} (h:isPB (mkRat (a:Nat) b) s t=true) (w:World) (hT:Tabs w) :
  Calls Tryz.prog 46 #[.int .i64 a,.int .i64 b] w (Z7 (pV s t) w):=by
 refine(Zm0 a b hb ha1 hb1 w hT).mono ?_
 rintro e w' ⟨x,y,rfl,h2,hb⟩
 have h3:=Zae h
 obtain⟨e1,e2⟩:=Z5 h2 h3 rfl
 rw[e1,e2]
 exact⟨rfl,hb⟩
theorem Zm8 (w:World) (hT:Tabs w):Calls Tryz.prog 46 #[.int .i64 1,.int .i64 2] w (Z7 (pV ⟨#[49]⟩ ⟨#[50]⟩) w):=
 Za1 (a:=1) (b:=2) (by decide) (by decide) (by decide) (by decide +kernel) w hT
theorem Zm4 (w:World) (hT:Tabs w):Calls Tryz.prog 46 #[.int .i64 1,.int .i64 4] w (Z7 (pV ⟨#[49]⟩ ⟨#[52]⟩) w):=
 Za1 (a:=1) (b:=4) (by decide) (by decide) (by decide) (by decide +kernel) w hT
theorem Zm3 (w:World) (hT:Tabs w):Calls Tryz.prog 46 #[.int .i64 1,.int .i64 8] w (Z7 (pV ⟨#[49]⟩ ⟨#[56]⟩) w):=
 Za1 (a:=1) (b:=8) (by decide) (by decide) (by decide) (by decide +kernel) w hT
theorem Zl8 (w:World) (hT:Tabs w):Calls Tryz.prog 46 #[.int .i64 1,.int .i64 1] w (Z7 (pV ⟨#[49]⟩ ⟨#[49]⟩) w):=
 Za1 (a:=1) (b:=1) (by decide) (by decide) (by decide) (by decide +kernel) w hT
def twoT:TaskP:={ sites:=[⟨(⟨#[49]⟩,⟨#[50]⟩),ZX 2⟩,⟨(⟨#[49]⟩,⟨#[52]⟩),ZX 2⟩],hours:=[2],rates:=[[(⟨#[49]⟩,⟨#[49]⟩),(⟨#[49]⟩,⟨#[49]⟩)]] }
theorem Zfd (w:World) (hD:DetV w) (hT:Tabs w) (hE:EffZ w):Calls Tryz.prog 45 #[] w (fun e w'=>∃ sv hv rv,e=.returned (.agg #[sv,hv,rv])∧TaskIn twoT sv hv rv w'∧Below w.heap.size w w'):=by
 have HT:=Lib.hid hT
 have HD:=Lib.hid hD
 have HE:=Lib.hid hE
 obtain⟨G,hG⟩:∃ G,w.heap.size=G:=⟨_,rfl⟩
 obtain⟨w1,hw1⟩:∃ z,w.alloc (efO (.slice none 0 0) (.slice none 0 0) (.slice none 0 0))=z:=⟨_,rfl⟩
 have HB1:Hid (Below w.heap.size w w1):=by rw[← hw1];exact(Below.refl _ w).alloc (Nat.le_refl _) _
 have HG1:Hid (w1.heap[G]?=some (efO (.slice none 0 0) (.slice none 0 0) (.slice none 0 0))):=by rw[← hw1,← hG];exact World.alloc_heap_new w _
 clear hT hD hE
 go_enter Tryz.func45,Tryz.ntmps45
 go_wp2_with fail
 clear hw1
 refine(ZiV 2 _ (HD.out.below HB1.out (Nat.le_refl _)) (HT.out.below HB1.out (Nat.le_refl _))).mono ?_
 rintro e w2 ⟨hE,hb⟩
 obtain⟨v,rfl,hO⟩:∃ v,e=.returned (.tuple #[v,.int .i64 0])∧OwnB w2 w1.heap.size v (ZX 2):=by
  rcases hE with ⟨h,_⟩ | ⟨_,v,h1,h2⟩
  ·exact absurd ⟨by decide,by decide⟩ h
  ·exact⟨v,h1,h2⟩
 have hlen3:(ZX 2).length=3:=Za8 2
 have hV:=hO.bl
 obtain⟨p,c,rfl⟩:∃ p c,v=.slice p 3 c:=by obtain⟨p,c,h,_⟩:=id hV;exact⟨_,_,by rw[← hlen3];exact h⟩
 have hpb:(Value.slice p 3 c).ownBlock≠some G:=fun e=>by
  have h1:=(World.ownsRow.lt hO _ e).1
  have h2:=(Array.getElem?_eq_some_iff.1 HG1.out).1
  omega
 have HV:=Lib.hid hV
 have HB2:Hid (Below w.heap.size w w2):=HB1.out.trans (hb.mono HB1.out.size)
 have HG2:Hid (w2.heap[G]?=some (efO (.slice none 0 0) (.slice none 0 0) (.slice none 0 0))):=(hb.block _ (Array.getElem?_eq_some_iff.1 HG1.out).1).trans HG1.out
 clear hE hb hO hV HG1 HB1
 go_wp2_with fail
 refine(Zm8 _ (HT.out.below HB2.out (Nat.le_refl _))).mono ?_
 rintro e w3 ⟨rfl,hb⟩
 have HV3:=Lib.hid (HV.out.after hb (Nat.le_refl _))
 have HB3:Hid (Below w.heap.size w w3):=HB2.out.trans (hb.mono HB2.out.size)
 have HG3:Hid (w3.heap[G]?=some (efO (.slice none 0 0) (.slice none 0 0) (.slice none 0 0))):=(hb.block _ (Array.getElem?_eq_some_iff.1 HG2.out).1).trans HG2.out
 clear hb HB2 HG2 HV
 go_wp2_with fail
 refine(Zm4 _ (HT.out.below HB3.out (Nat.le_refl _))).mono ?_
 rintro e w4 ⟨rfl,hb⟩
 have HV4:=Lib.hid (HV3.out.after hb (Nat.le_refl _))
 have HB4:Hid (Below w.heap.size w w4):=HB3.out.trans (hb.mono HB3.out.size)
 have HG4:Hid (w4.heap[G]?=some (efO (.slice none 0 0) (.slice none 0 0) (.slice none 0 0))):=(hb.block _ (Array.getElem?_eq_some_iff.1 HG3.out).1).trans HG3.out
 clear hb HB3 HG3 HV3
 obtain⟨H,hH⟩:∃ H,w4.heap.size=H:=⟨_,rfl⟩
 obtain⟨w5,hw5⟩:∃ z,(w4.alloc (.cells #[.string ⟨#[49]⟩,.string ⟨#[50]⟩,.slice p 3 c,.string ⟨#[49]⟩,.string ⟨#[52]⟩,.slice p 3 c] 74)).alloc (.cells #[.int .i64 2] 3)=z:=⟨_,rfl⟩
 have hGH:G<H:=by rw[← hH];exact(Array.getElem?_eq_some_iff.1 HG4.out).1
 have hb5:Below w4.heap.size w4 w5:=by rw[← hw5];exact((Below.refl _ w4).alloc (Nat.le_refl _) _).alloc (by simp) _
 have hs0:w5.heap[H]?=some (.cells #[.string ⟨#[49]⟩,.string ⟨#[50]⟩,.slice p 3 c,.string ⟨#[49]⟩,.string ⟨#[52]⟩,.slice p 3 c] 74):=by
  rw[← hw5,← hH]
  exact(Below.heap_alloc _ _ _ (by simp)).trans (World.alloc_heap_new w4 _)
 have hh0:w5.heap[H+1]?=some (.cells #[.int .i64 2] 3):=by
  rw[← hw5,← hH]
  have:=World.alloc_heap_new (w4.alloc (.cells #[.string ⟨#[49]⟩,.string ⟨#[50]⟩,.slice p 3 c,.string ⟨#[49]⟩,.string ⟨#[52]⟩,.slice p 3 c] 74)) (.cells #[.int .i64 2] 3)
  rwa [World.size_alloc] at this
 have HV5:=HV4.out.after hb5 (Nat.le_refl _)
 have HK5:Hid (w5.heap[H]?=_∧w5.heap[H+1]?=_∧BL w5 _ _):=⟨hs0,hh0,HV5⟩
 have HB5:Hid (Below w.heap.size w w5):=HB4.out.trans (hb5.mono HB4.out.size)
 have HG5:Hid (w5.heap[G]?=some (efO (.slice none 0 0) (.slice none 0 0) (.slice none 0 0))):=(hb5.block _ (Array.getElem?_eq_some_iff.1 HG4.out).1).trans HG4.out
 clear hb5 hs0 hh0 HV5 HV4 HB4 HG4
 go_wp2_with fail
 try rw[hw5]
 try rw[hH]
 clear hw5 hH
 refine(Zl8 _ (HT.out.below HB5.out (Nat.le_refl _))).mono ?_
 rintro e w6 ⟨rfl,hb6⟩
 have HB6:Hid (Below w.heap.size w w6):=HB5.out.trans (hb6.mono HB5.out.size)
 go_wp2_with fail
 refine(Zl8 _ (HT.out.below HB6.out (Nat.le_refl _))).mono ?_
 rintro e w7 ⟨rfl,hb7⟩
 have hb57:Below w5.heap.size w5 w7:=hb6.trans (hb7.mono hb6.size)
 have HB7:Hid (Below w.heap.size w w7):=HB5.out.trans (hb57.mono HB5.out.size)
 have HG7:Hid (w7.heap[G]?=some (efO (.slice none 0 0) (.slice none 0 0) (.slice none 0 0))):=(hb57.block _ (Array.getElem?_eq_some_iff.1 HG5.out).1).trans HG5.out
 have HK7:Hid (w7.heap[H]?=_∧w7.heap[H+1]?=_∧BL w7 _ _):=⟨(hb57.block _ (Array.getElem?_eq_some_iff.1 HK5.out.1).1).trans HK5.out.1,(hb57.block _ (Array.getElem?_eq_some_iff.1 HK5.out.2.1).1).trans HK5.out.2.1,HK5.out.2.2.after hb57 (Nat.le_refl _)⟩
 clear hb6 hb7 hb57 HB5 HB6 HG5 HK5
 obtain⟨R,hR⟩:∃ R,w7.heap.size=R:=⟨_,rfl⟩
 obtain⟨w8,hw8⟩:∃ z,(w7.alloc (.cells #[.string ⟨#[49]⟩,.string ⟨#[49]⟩,.string ⟨#[49]⟩,.string ⟨#[49]⟩] 41)).alloc (.cells #[.slice (some ⟨R,0,none⟩) 2 2] 37)=z:=⟨_,rfl⟩
 have hb8:Below w7.heap.size w7 w8:=by rw[← hw8];exact((Below.refl _ w7).alloc (Nat.le_refl _) _).alloc (by simp) _
 have hr0:w8.heap[R]?=some (.cells #[.string ⟨#[49]⟩,.string ⟨#[49]⟩,.string ⟨#[49]⟩,.string ⟨#[49]⟩] 41):=by
  rw[← hw8,← hR]
  exact(Below.heap_alloc _ _ _ (by simp)).trans (World.alloc_heap_new w7 _)
 have hr1:w8.heap[R+1]?=some (.cells #[.slice (some ⟨R,0,none⟩) 2 2] 37):=by
  rw[← hw8,← hR]
  have:=World.alloc_heap_new (w7.alloc (.cells #[.string ⟨#[49]⟩,.string ⟨#[49]⟩,.string ⟨#[49]⟩,.string ⟨#[49]⟩] 41)) (.cells #[.slice (some ⟨w7.heap.size,0,none⟩) 2 2] 37)
  rwa [World.size_alloc] at this
 have HK8:Hid ((w8.heap[H]?=_∧w8.heap[H+1]?=_∧BL w8 _ _)∧w8.heap[R]?=_∧w8.heap[R+1]?=_):=⟨⟨(hb8.block _ (Array.getElem?_eq_some_iff.1 HK7.out.1).1).trans HK7.out.1,(hb8.block _ (Array.getElem?_eq_some_iff.1 HK7.out.2.1).1).trans HK7.out.2.1,HK7.out.2.2.after hb8 (Nat.le_refl _)⟩,hr0,hr1⟩
 have hGR:G<R:=by rw[← hR];exact(Array.getElem?_eq_some_iff.1 HG7.out).1
 have HB8:Hid (Below w.heap.size w w8):=HB7.out.trans (hb8.mono HB7.out.size)
 have hG8:w8.heap[G]?=some (efO (.slice none 0 0) (.slice none 0 0) (.slice none 0 0)):=(hb8.block _ (Array.getElem?_eq_some_iff.1 HG7.out).1).trans HG7.out
 have HG8:=Lib.hid hG8
 have c0:=Za hG8 0 (v:=.slice none 0 0) rfl
 have c1:=Za hG8 1 (v:=.slice none 0 0) rfl
 have c2:=Za hG8 2 (v:=.slice none 0 0) rfl
 have f0:=Zb hG8 0
 have f1:=Zb hG8 1
 have f2:=Zb hG8 2
 clear hb8 hr0 hr1 HK7 HB7 HG7 hG8
 go_wp2
 obtain⟨w9,hw9⟩:∃ z,((w8.setCell ⟨G,0,none⟩ (.slice (some ⟨H,0,none⟩) 2 2)).setCell ⟨G,1,none⟩ (.slice (some ⟨H+1,0,none⟩) 1 1)).setCell ⟨G,2,none⟩ (.slice (some ⟨R+1,0,none⟩) 1 1)=z:=⟨_,rfl⟩
 have hg9:w9.heap[G]?=some (efO (.slice (some ⟨H,0,none⟩) 2 2) (.slice (some ⟨H+1,0,none⟩) 1 1) (.slice (some ⟨R+1,0,none⟩) 1 1)):=by
  rw[← hw9]
  exact Joins.block_setCell (Joins.block_setCell (Joins.block_setCell HG8.out _) _) _
 have o9:∀ x,x≠G→w9.heap[x]?=w8.heap[x]?:=fun x hx=>by rw[← hw9];exact((Below.heap_setCell _ _ _ _ hx).trans (Below.heap_setCell _ _ _ _ hx)).trans (Below.heap_setCell _ _ _ _ hx)
 have hB9:Below w.heap.size w w9:=by
  have hg:w.heap.size≤G:=by omega
  rw[← hw9]
  exact((HB8.out.setCell (p:=⟨G,0,none⟩) hg _).setCell (p:=⟨G,1,none⟩) hg _).setCell (p:=⟨G,2,none⟩) hg _
 have hs9:w9.heap.size=w8.heap.size:=by rw[← hw9];simp
 rw[hw9]
 obtain⟨⟨k1,k2,k3⟩,k4,k5⟩:=HK8.out
 have s0:=(o9 H (by omega)).trans k1
 have h0:=(o9 (H+1) (by omega)).trans k2
 have r0:=(o9 R (by omega)).trans k4
 have r1:=(o9 (R+1) (by omega)).trans k5
 have hV9:BL w9 (.slice p 3 c) (ZX 2):=by
  obtain⟨p',c',hv,q1,q2,q3⟩:=k3
  refine⟨p',c',hv,q1,q2,fun hne=>?_⟩
  obtain⟨b,off,rfl,hb,hat⟩:=q3 hne
  have hbG:b≠G:=fun e=>hpb (by injection hv with e1;rw[e1,e];rfl)
  have hc:∀ o,w9.cell? ⟨b,o,none⟩=w8.cell? ⟨b,o,none⟩:=fun o=>World.cell?_of_block (o9 b hbG)
  refine⟨b,off,rfl,by omega,fun j hj=>?_⟩
  rw[hc,hc,hc,hc]
  exact hat j hj
 refine bodyPost_ret (v:=.agg #[.slice (some ⟨H,0,none⟩) 2 2,.slice (some ⟨H+1,0,none⟩) 1 1,.slice (some ⟨R+1,0,none⟩) 1 1]) (by
  have d0:=Za hg9 0 (v:=.slice (some ⟨H,0,none⟩) 2 2) rfl
  have d1:=Za hg9 1 (v:=.slice (some ⟨H+1,0,none⟩) 1 1) rfl
  have d2:=Za hg9 2 (v:=.slice (some ⟨R+1,0,none⟩) 1 1) rfl
  simp[results,Tryz.f45,go_sem,d0,d1,d2]) rfl ⟨_,_,_,rfl,⟨?_,?_,?_,HD.out.below hB9 (Nat.le_refl _),HT.out.below hB9 (Nat.le_refl _),HE.out.below hB9 (Nat.le_refl _)⟩,hB9⟩
 ·refine⟨_,2,rfl,Nat.le_refl _,by simp[maxLen],fun _=>⟨H,0,rfl,(Array.getElem?_eq_some_iff.1 s0).1,fun j hj=>?_⟩⟩
  match j,hj with
  | 0,_=>exact⟨Za s0 0 rfl,Za s0 1 rfl,_,Za s0 2 rfl,hV9⟩
  | 1,_=>exact⟨Za s0 3 rfl,Za s0 4 rfl,_,Za s0 5 rfl,hV9⟩
  | j+2,h=>exact absurd h (by simp[twoT])
 ·refine⟨_,1,rfl,Nat.le_refl _,by simp[maxLen],fun _=>⟨H+1,0,rfl,(Array.getElem?_eq_some_iff.1 h0).1,fun j hj=>?_⟩⟩
  match j,hj with
  | 0,_=>exact Za h0 0 rfl
  | j+1,h=>exact absurd h (by simp[twoT])
 ·refine⟨_,1,rfl,Nat.le_refl _,by simp[maxLen],fun _=>⟨R+1,0,rfl,(Array.getElem?_eq_some_iff.1 r1).1,fun j hj=>?_⟩⟩
  match j,hj with
  | 0,_=>
   refine⟨_,Za r1 0 rfl,_,2,rfl,Nat.le_refl _,by simp[maxLen],fun _=>⟨R,0,rfl,(Array.getElem?_eq_some_iff.1 r0).1,fun k hk=>?_⟩⟩
   match k,hk with
   | 0,_=>exact⟨Za r0 0 rfl,Za r0 1 rfl⟩
   | 1,_=>exact⟨Za r0 2 rfl,Za r0 3 rfl⟩
   | k+2,h=>exact absurd h (by simp[twoT])
  | j+1,h=>exact absurd h (by simp[twoT])
end Go.Proofs.YtmpaflidennnoaaGreatDoor
namespace Go.Proofs.YtmpaflidennnoaaGreatDoor
open Go.RowKit Go.Shelf
theorem Zcz:TaskOk twoT where
 sites:=by decide
 teams:=by decide
 rates:=rfl
 site:=fun i hi=>by
  have h:i<2:=hi
  match i,h with
  | 0,_=>exact⟨by decide +kernel,Zav⟩
  | 1,_=>exact⟨by decide +kernel,Zav⟩
 team:=fun u hu=>by
  have h:u<1:=hu
  obtain rfl:u=0:=by omega
  refine⟨by decide,rfl,fun i hi=>?_⟩
  have h:i<2:=hi
  match i,h with
  | 0,_=>decide +kernel
  | 1,_=>decide +kernel
theorem Zbb (i:Nat) (hi:i<2):rR twoT 0 i=1:=by
 match i,hi with
 | 0,_=>decide +kernel
 | 1,_=>decide +kernel
theorem Zck:wR twoT 0=mkRat 1 2∧wR twoT 1=mkRat 1 4:=⟨by decide +kernel,by decide +kernel⟩
theorem ZcW (i:Nat) (hi:i<2):chF (eS twoT i).curve 0=0∧chF (eS twoT i).curve 1=mkRat 1 2∧chF (eS twoT i).curve 2=mkRat 3 4:=by
 have e:(eS twoT i).curve=ZX 2:=by
  match i,hi with
  | 0,_=>rfl
  | 1,_=>rfl
 rw[e]
 have hl:=Za8 2
 refine⟨Ze7 Zav ⟨0,?_,?_⟩,Ze7 Zav ⟨1,?_,?_⟩,Ze7 Zav ⟨2,?_,?_⟩⟩
 all_goals rw[hl]
 ·exact⟨by decide,fun j hj=>absurd hj (by omega),fun _=>by decide +kernel⟩
 ·unfold lin slo slp;decide +kernel
 ·refine⟨by decide,fun j hj=>?_,fun _=>by decide +kernel⟩
  obtain rfl:j=0:=by omega
  decide +kernel
 ·unfold lin slo slp;decide +kernel
 ·refine⟨by decide,fun j hj=>?_,fun h=>absurd h (by decide)⟩
  have h2:j<2:=hj
  match j,h2 with
  | 0,_=>decide +kernel
  | 1,_=>decide +kernel
 ·unfold lin slo slp;decide +kernel
theorem Zcs (a b:Int) (i:Nat) (hi:i<2):covR twoT [[a,b]] i=((pN [[a,b]] 0 i:Int):Rat):=by
 show Zar twoT [[a,b]] i 1=_
 unfold Zar Zar
 rw[Zbb i hi,Rat.one_mul,Rat.zero_add]
theorem Zlf {x y:ByteArray} {n:Int} (h:SumE (valF twoT [[1,1]]) 2 x y n):x=⟨#[51]⟩∧y=⟨#[56]⟩∧n=0:=by
 have v0:valF twoT [[1,1]] 0=mkRat 1 4:=by
  unfold valF
  rw[Zck.1,Zcs 1 1 0 (by decide),show ((pN [[1,1]] 0 0:Int):Rat)=1 by decide +kernel,(ZcW 0 (by decide)).2.1]
  decide +kernel
 have v1:valF twoT [[1,1]] 1=mkRat 1 8:=by
  unfold valF
  rw[Zck.2,Zcs 1 1 1 (by decide),show ((pN [[1,1]] 0 1:Int):Rat)=1 by decide +kernel,(ZcW 1 (by decide)).2.1]
  decide +kernel
 have s0:sumF (valF twoT [[1,1]]) 0=0:=rfl
 have s1:sumF (valF twoT [[1,1]]) 1=mkRat 1 4:=by
  show sumF (valF twoT [[1,1]]) 0+valF twoT [[1,1]] 0=_
  rw[s0,v0,Rat.zero_add]
 have s2:sumF (valF twoT [[1,1]]) 2=mkRat 3 8:=by
  show sumF (valF twoT [[1,1]]) 1+valF twoT [[1,1]] 1=_
  rw[s1,v1]
  decide +kernel
 have i0:IsP (0:Rat) ⟨#[48]⟩ ⟨#[49]⟩:=ZP
 have i1:IsP (mkRat 1 4) ⟨#[49]⟩ ⟨#[52]⟩:=Zae (by decide +kernel)
 have i2:IsP (mkRat 3 8) ⟨#[51]⟩ ⟨#[56]⟩:=Zae (by decide +kernel)
 have hall:ZT (valF twoT [[1,1]]) 2:=fun k hk=>by
  match k,hk with
  | 0,_=>rw[s0];exact i0.fits
  | 1,_=>rw[s1];exact i1.fits
  | 2,_=>rw[s2];exact i2.fits
 exact h.det (.inl ⟨hall,by rw[s2];exact i2,rfl⟩)
theorem Zit (a b:Int) (i:Nat) (hi:i<2):Z3 twoT [[a,b]] 0 i=wR twoT i*(chF (eS twoT i).curve (((pN [[a,b]] 0 i:Int):Rat)+1)-chF (eS twoT i).curve ((pN [[a,b]] 0 i:Int):Rat)):=by
 unfold Z3
 rw[Zcs a b i hi,Zbb i hi]
theorem Zb4 (i:Nat) (hi:i<2) (a b:Int) (h:pN [[a,b]] 0 i=0):Z3 twoT [[a,b]] 0 i=wR twoT i*mkRat 1 2:=by
 rw[Zit a b i hi,h,show ((0:Int):Rat)+1=1 by decide +kernel,show ((0:Int):Rat)=0 by decide +kernel,(ZcW i hi).1,(ZcW i hi).2.1]
 congr 1
 decide +kernel
theorem Zhc (i:Nat) (hi:i<2) (a b:Int) (h:pN [[a,b]] 0 i=1):Z3 twoT [[a,b]] 0 i=wR twoT i*mkRat 1 4:=by
 rw[Zit a b i hi,h,show ((1:Int):Rat)+1=2 by decide +kernel,show ((1:Int):Rat)=1 by decide +kernel,(ZcW i hi).2.2,(ZcW i hi).2.1]
 congr 1
 decide +kernel
theorem Zge {p:List (List Int)} (h:GreedyR twoT (Zu twoT) p):p=[[2,0]]:=by
 have b1:Best (ZaN twoT [[0,0]]) 2 (some 0) (ZaN twoT [[0,0]] 0):=by
  have g0:ZaN twoT [[0,0]] 0=mkRat 1 4:=by
   show (if 0<Zaq twoT [[0,0]] 0 then Z3 twoT [[0,0]] 0 0 else 0)=_
   rw[if_pos (by decide),Zb4 0 (by decide) 0 0 rfl]
   decide +kernel
  have g1:ZaN twoT [[0,0]] 1=mkRat 1 8:=by
   show (if 0<Zaq twoT [[0,0]] 0 then Z3 twoT [[0,0]] 0 1 else 0)=_
   rw[if_pos (by decide),Zb4 1 (by decide) 0 0 rfl]
   decide +kernel
  exact((Best.zero _).up (by rw[g0];decide +kernel)).keep (by rw[g0,g1];decide +kernel)
 have b2:Best (ZaN twoT [[1,0]]) 2 (some 0) (ZaN twoT [[1,0]] 0):=by
  have g0:ZaN twoT [[1,0]] 0=mkRat 1 8:=by
   show (if 0<Zaq twoT [[1,0]] 0 then Z3 twoT [[1,0]] 0 0 else 0)=_
   rw[if_pos (by decide),Zhc 0 (by decide) 1 0 rfl]
   decide +kernel
  have g1:ZaN twoT [[1,0]] 1=mkRat 1 8:=by
   show (if 0<Zaq twoT [[1,0]] 0 then Z3 twoT [[1,0]] 0 1 else 0)=_
   rw[if_pos (by decide),Zb4 1 (by decide) 1 0 rfl]
   decide +kernel
  exact((Best.zero _).up (by rw[g0];decide +kernel)).keep (by rw[g0,g1];exact Rat.le_refl)
 have b3:Best (ZaN twoT [[2,0]]) 2 none 0:=by
  have g0:ZaN twoT [[2,0]] 0=0:=by
   show (if 0<Zaq twoT [[2,0]] 0 then Z3 twoT [[2,0]] 0 0 else 0)=_
   rw[if_neg (by decide)]
  have g1:ZaN twoT [[2,0]] 1=0:=by
   show (if 0<Zaq twoT [[2,0]] 0 then Z3 twoT [[2,0]] 0 1 else 0)=_
   rw[if_neg (by decide)]
  exact((Best.zero _).keep (by rw[g0];exact Rat.le_refl)).keep (by rw[g1];exact Rat.le_refl)
 exact h.det (.step (j:=0) b1 (.step (j:=0) b2 (.done b3)))
def ZD:PP:=(⟨#[49]⟩,⟨#[56]⟩)
theorem ZgF:PricesOk twoT [ZD]:=⟨rfl,fun u hu=>by
 have h:u<1:=hu
 obtain rfl:u=0:=by omega
 decide +kernel⟩
theorem Zhn (i:Nat) (hi:i<2):LeastQ (fun u=>prR [ZD] u/rR twoT u i) (fun u=>rR twoT u i≠0) 1 (some (mkRat 1 8)):=by
 have h:=(LeastQ.zero (fun u=>prR [ZD] u/rR twoT u i) (fun u=>rR twoT u i≠0)).take (by show rR twoT 0 i≠0;rw[Zbb i hi];decide) (fun c hc=>by cases hc)
 have e:prR [ZD] 0/rR twoT 0 i=mkRat 1 8:=by
  rw[Zbb i hi]
  decide +kernel
 rw[e] at h
 exact h
theorem Zip:SurR twoT [ZD] 0 (mkRat 1 8):=by
 have g0:posR (wR twoT 0*hR (eS twoT 0).curve 0-mkRat 1 8*cR (eS twoT 0).curve 0)=0:=by unfold posR;decide +kernel
 have g1:posR (wR twoT 0*hR (eS twoT 0).curve 1-mkRat 1 8*cR (eS twoT 0).curve 1)=mkRat 1 8:=by unfold posR;decide +kernel
 have g2:posR (wR twoT 0*hR (eS twoT 0).curve 2-mkRat 1 8*cR (eS twoT 0).curve 2)=mkRat 1 8:=by unfold posR;decide +kernel
 have hb:=(((Best.zero (fun k=>posR (wR twoT 0*hR (eS twoT 0).curve k-mkRat 1 8*cR (eS twoT 0).curve k))).keep (by rw[g0];exact Rat.le_refl)).up (by rw[g1];decide +kernel)).keep (by rw[g1,g2];exact Rat.le_refl)
 rw[g1] at hb
 exact⟨_,Zhn 0 (by decide),.inr ⟨_,rfl,_,hb⟩⟩
theorem Zh8:SurR twoT [ZD] 1 0:=by
 have g0:posR (wR twoT 1*hR (eS twoT 1).curve 0-mkRat 1 8*cR (eS twoT 1).curve 0)=0:=by unfold posR;decide +kernel
 have g1:posR (wR twoT 1*hR (eS twoT 1).curve 1-mkRat 1 8*cR (eS twoT 1).curve 1)=0:=by unfold posR;decide +kernel
 have g2:posR (wR twoT 1*hR (eS twoT 1).curve 2-mkRat 1 8*cR (eS twoT 1).curve 2)=0:=by unfold posR;decide +kernel
 have hb:=(((Best.zero (fun k=>posR (wR twoT 1*hR (eS twoT 1).curve k-mkRat 1 8*cR (eS twoT 1).curve k))).keep (by rw[g0];exact Rat.le_refl)).keep (by rw[g1];exact Rat.le_refl)).keep (by rw[g2];exact Rat.le_refl)
 exact⟨_,Zhn 1 (by decide),.inr ⟨_,rfl,_,hb⟩⟩
theorem Zk8 {x y:ByteArray} {n:Int} (h:SumE (Zj twoT [ZD]) 3 x y n):x=⟨#[51]⟩∧y=⟨#[56]⟩∧n=0:=by
 have f0:Zj twoT [ZD] 0=mkRat 1 4:=by
  unfold Zj
  rw[if_pos (show 0<twoT.hours.length by decide)]
  decide +kernel
 have f1:Zj twoT [ZD] 1=mkRat 1 8:=by
  unfold Zj
  rw[if_neg (show ¬ 1<twoT.hours.length by decide)]
  exact Zbo Zip
 have f2:Zj twoT [ZD] 2=0:=by
  unfold Zj
  rw[if_neg (show ¬ 2<twoT.hours.length by decide)]
  exact Zbo Zh8
 have s0:sumF (Zj twoT [ZD]) 0=0:=rfl
 have s1:sumF (Zj twoT [ZD]) 1=mkRat 1 4:=by
  show sumF (Zj twoT [ZD]) 0+Zj twoT [ZD] 0=_
  rw[s0,f0,Rat.zero_add]
 have s2:sumF (Zj twoT [ZD]) 2=mkRat 3 8:=by
  show sumF (Zj twoT [ZD]) 1+Zj twoT [ZD] 1=_
  rw[s1,f1]
  decide +kernel
 have s3:sumF (Zj twoT [ZD]) 3=mkRat 3 8:=by
  show sumF (Zj twoT [ZD]) 2+Zj twoT [ZD] 2=_
  rw[s2,f2,Rat.add_zero]
 have i0:IsP (0:Rat) ⟨#[48]⟩ ⟨#[49]⟩:=ZP
 have i1:IsP (mkRat 1 4) ⟨#[49]⟩ ⟨#[52]⟩:=Zae (by decide +kernel)
 have i2:IsP (mkRat 3 8) ⟨#[51]⟩ ⟨#[56]⟩:=Zae (by decide +kernel)
 have hall:ZT (Zj twoT [ZD]) 3:=fun k hk=>by
  match k,hk with
  | 0,_=>rw[s0];exact i0.fits
  | 1,_=>rw[s1];exact i1.fits
  | 2,_=>rw[s2];exact i2.fits
  | 3,_=>rw[s3];exact i2.fits
 exact h.det (.inl ⟨hall,by rw[s3];exact i2,rfl⟩)
end Go.Proofs.YtmpaflidennnoaaGreatDoor
namespace Go.Proofs.YtmpaflidennnoaaGreatDoor
open Go.RowKit Go.Shelf
attribute [local go_sem ↓] Go.wp_at_zero Go.wp_at_succ
theorem Zaf:LimT twoT:=by
 refine⟨fun s hs=>?_,fun l hl=>?_⟩
 ·have h2:s=⟨(⟨#[49]⟩,⟨#[50]⟩),ZX 2⟩∨s=⟨(⟨#[49]⟩,⟨#[52]⟩),ZX 2⟩:=by simpa[twoT] using hs
  rcases h2 with rfl | rfl
  ·exact⟨by decide,Zav.limB⟩
  ·exact⟨by decide,Zav.limB⟩
 ·have h2:l=[(⟨#[49]⟩,⟨#[49]⟩),(⟨#[49]⟩,⟨#[49]⟩)]:=by simpa[twoT] using hl
  subst h2
  intro q hq
  have h3:q=(⟨#[49]⟩,⟨#[49]⟩):=by simpa using hq
  subst h3
  decide
theorem ZlG:PlanOk twoT [[1,1]]:=by
 refine⟨Zcz,rfl,fun u hu=>?_,fun u i hu hi=>?_,fun u hu=>?_⟩
 ·have h:u<1:=hu
  obtain rfl:u=0:=by omega
  rfl
 ·have h:u<1:=hu
  obtain rfl:u=0:=by omega
  have h2:i<2:=hi
  have hr:rR twoT 0 i≠0:=by rw[Zbb i h2];decide
  match i,h2,hr with
  | 0,_,hr=>exact⟨by decide,fun _=>hr⟩
  | 1,_,hr=>exact⟨by decide,fun _=>hr⟩
 ·have h:u<1:=hu
  obtain rfl:u=0:=by omega
  decide
theorem ZkA (w:World) (hD:DetV w) (hT:Tabs w) (hE:EffZ w):Calls Tryz.prog 15 #[] w (ZZ w true):=by
 have HT:=Lib.hid hT
 have HD:=Lib.hid hD
 have HE:=Lib.hid hE
 clear hT hD hE
 go_enter Tryz.func15,Tryz.ntmps15
 go_wp2_with fail
 refine(Zfd w HD.out HT.out HE.out).mono ?_
 rintro e w1 ⟨sv,hv,rv,rfl,hI,hb⟩
 have HB1:=Lib.hid hb
 obtain⟨p1,c1,rfl,_⟩:=hI.sites.shape (n:=2) rfl
 obtain⟨p2,c2,rfl,_⟩:=hI.hours.shape (n:=1) rfl
 obtain⟨p3,c3,rfl,_⟩:=hI.rates.shape (n:=1) rfl
 obtain⟨H,hH⟩:∃ H,w1.heap.size=H:=⟨_,rfl⟩
 obtain⟨w2,hw2⟩:∃ z,(w1.alloc (.cells #[.int .i64 1,.int .i64 1] 3)).alloc (.cells #[.slice (some ⟨H,0,none⟩) 2 2] 23)=z:=⟨_,rfl⟩
 have hb2:Below w1.heap.size w1 w2:=by rw[← hw2];exact((Below.refl _ w1).alloc (Nat.le_refl _) _).alloc (by simp) _
 have hr0:w2.heap[H]?=some (.cells #[.int .i64 1,.int .i64 1] 3):=by
  rw[← hw2,← hH]
  exact(Below.heap_alloc _ _ _ (by simp)).trans (World.alloc_heap_new w1 _)
 have hr1:w2.heap[H+1]?=some (.cells #[.slice (some ⟨H,0,none⟩) 2 2] 23):=by
  rw[← hw2,← hH]
  have:=World.alloc_heap_new (w1.alloc (.cells #[.int .i64 1,.int .i64 1] 3)) (.cells #[.slice (some ⟨w1.heap.size,0,none⟩) 2 2] 23)
  rwa [World.size_alloc] at this
 have HI2:Hid (IIL w2 (.slice (some ⟨H+1,0,none⟩) 1 1) [[1,1]]):=by
  refine⟨_,1,rfl,Nat.le_refl _,by simp[maxLen],fun _=>⟨H+1,0,rfl,(Array.getElem?_eq_some_iff.1 hr1).1,fun j hj=>?_⟩⟩
  match j,hj with
  | 0,_=>
   refine⟨_,Za hr1 0 rfl,_,2,rfl,Nat.le_refl _,by simp[maxLen],fun _=>⟨H,0,rfl,(Array.getElem?_eq_some_iff.1 hr0).1,fun k hk=>?_⟩⟩
   match k,hk with
   | 0,_=>exact Za hr0 0 rfl
   | 1,_=>exact Za hr0 1 rfl
   | k+2,h=>exact absurd h (by simp)
  | j+1,h=>exact absurd h (by simp)
 have HT2:=Lib.hid (hI.below hb2 (Nat.le_refl _))
 have HB2:Hid (Below w.heap.size w w2):=HB1.out.trans (hb2.mono HB1.out.size)
 clear hI hb hb2 hr0 hr1 HB1
 go_wp2_with fail
 try rw[hw2]
 clear hw2 hH
 refine(Zf9 HT2.out Zaf HI2.out).mono ?_
 rintro e w3 ⟨x,y,n,rfl,hA,hb⟩
 obtain⟨rfl,rfl,rfl⟩:x=⟨#[51]⟩∧y=⟨#[56]⟩∧n=0:=by
  rcases hA with ⟨h,_⟩ | ⟨_,h⟩
  ·exact absurd ZlG h
  ·exact Zlf h
 have HB3:Hid (Below w.heap.size w w3):=HB2.out.trans (hb.mono HB2.out.size)
 clear hA hb HT2 HI2 HB2
 obtain⟨A,hA⟩:∃ A,w3.heap.size=A:=⟨_,rfl⟩
 obtain⟨w4,hw4⟩:∃ z,w3.alloc (pObj ⟨#[51]⟩ ⟨#[56]⟩)=z:=⟨_,rfl⟩
 have hb4:Below w3.heap.size w3 w4:=by rw[← hw4];exact(Below.refl _ w3).alloc (Nat.le_refl _) _
 have HA4:Hid (w4.heap[A]?=some (pObj ⟨#[51]⟩ ⟨#[56]⟩)):=by rw[← hw4,← hA];exact World.alloc_heap_new w3 _
 have HB4:Hid (Below w.heap.size w w4):=HB3.out.trans (hb4.mono HB3.out.size)
 clear hb4 HB3
 go_wp2_with fail
 try rw[hw4]
 try rw[hA]
 clear hw4 hA
 refine(Zfd w4 (HD.out.below HB4.out (Nat.le_refl _)) (HT.out.below HB4.out (Nat.le_refl _)) (HE.out.below HB4.out (Nat.le_refl _))).mono ?_
 rintro e w5 ⟨sv,hv,rv,rfl,hI,hb⟩
 obtain⟨p4,c4,rfl,_⟩:=hI.sites.shape (n:=2) rfl
 obtain⟨p5,c5,rfl,_⟩:=hI.hours.shape (n:=1) rfl
 obtain⟨p6,c6,rfl,_⟩:=hI.rates.shape (n:=1) rfl
 have HI5:=Lib.hid hI
 have HB5:Hid (Below w.heap.size w w5):=HB4.out.trans (hb.mono HB4.out.size)
 have HA5:Hid (w5.heap[A]?=some (pObj ⟨#[51]⟩ ⟨#[56]⟩)):=(hb.block _ (Array.getElem?_eq_some_iff.1 HA4.out).1).trans HA4.out
 clear hI hb HB4 HA4
 go_wp2_with fail
 refine(ZiK HI5.out Zaf).mono ?_
 rintro e w6 ⟨hG,hb⟩
 obtain⟨pv,rfl,hIL⟩:∃ pv,e=.returned (.tuple #[pv,.int .i64 0])∧IIL w6 pv [[2,0]]:=by
  rcases hG with ⟨h,_⟩ | ⟨_,p,pv,h1,_,h3,h4⟩
  ·exact absurd Zcz h
  ·obtain rfl:=Zge h1
   exact⟨pv,h4,h3⟩
 obtain⟨q1,d1,rfl,_⟩:=hIL.shape (n:=1) rfl
 have HL6:=Lib.hid hIL
 have HB6:Hid (Below w.heap.size w w6):=HB5.out.trans (hb.mono HB5.out.size)
 have HA6:Hid (w6.heap[A]?=some (pObj ⟨#[51]⟩ ⟨#[56]⟩)):=(hb.block _ (Array.getElem?_eq_some_iff.1 HA5.out).1).trans HA5.out
 clear hG hb hIL HI5 HB5 HA5
 go_wp2_with fail
 refine(Zfd w6 (HD.out.below HB6.out (Nat.le_refl _)) (HT.out.below HB6.out (Nat.le_refl _)) (HE.out.below HB6.out (Nat.le_refl _))).mono ?_
 rintro e w7 ⟨sv,hv,rv,rfl,hI,hb7⟩
 obtain⟨p7,c7,rfl,_⟩:=hI.sites.shape (n:=2) rfl
 obtain⟨p8,c8,rfl,_⟩:=hI.hours.shape (n:=1) rfl
 obtain⟨p9,c9,rfl,_⟩:=hI.rates.shape (n:=1) rfl
 have HB7:Hid (Below w.heap.size w w7):=HB6.out.trans (hb7.mono HB6.out.size)
 go_wp2_with fail
 refine(Zm3 _ (HT.out.below HB7.out (Nat.le_refl _))).mono ?_
 rintro e w8 ⟨rfl,hb8⟩
 obtain⟨K1,hK1⟩:∃ A,w8.heap.size=A:=⟨_,rfl⟩
 obtain⟨w9,hw9⟩:∃ z,w8.alloc (pObj ⟨#[49]⟩ ⟨#[56]⟩)=z:=⟨_,rfl⟩
 have hb9:Below w8.heap.size w8 w9:=by rw[← hw9];exact(Below.refl _ w8).alloc (Nat.le_refl _) _
 have hp9:w9.heap[K1]?=some (pObj ⟨#[49]⟩ ⟨#[56]⟩):=by rw[← hw9,← hK1];exact World.alloc_heap_new w8 _
 have HQ9:Hid (PL w9 (.slice (some ⟨K1,0,none⟩) 1 1) [ZD]):=by
  refine⟨_,1,rfl,Nat.le_refl _,by simp[maxLen],fun _=>⟨K1,0,rfl,(Array.getElem?_eq_some_iff.1 hp9).1,fun j hj=>?_⟩⟩
  match j,hj with
  | 0,_=>exact⟨Za hp9 0 rfl,Za hp9 1 rfl⟩
  | j+1,h=>exact absurd h (by simp)
 have hb69:Below w6.heap.size w6 w9:=hb7.trans ((hb8.trans (hb9.mono hb8.size)).mono hb7.size)
 have HI9:=Lib.hid (hI.below (hb8.trans (hb9.mono hb8.size)) (Nat.le_refl _))
 have HB69:=Lib.hid hb69
 clear hI hb7 hb8 hb9 hp9 hb69 HB7
 go_wp2_with fail
 try rw[hw9]
 try rw[hK1]
 clear hw9 hK1
 refine(Zek HI9.out Zaf HQ9.out (fun q hq=>by obtain rfl:q=ZD:=(by simpa using hq);exact⟨by decide,by decide⟩)).mono ?_
 rintro e w10 ⟨x,y,n,rfl,hA,hb⟩
 obtain⟨rfl,rfl,rfl⟩:x=⟨#[51]⟩∧y=⟨#[56]⟩∧n=0:=by
  rcases hA with ⟨h,_⟩ | ⟨_,h⟩
  ·exact absurd ⟨Zcz,ZgF⟩ h
  ·exact Zk8 h
 have hb610:Below w6.heap.size w6 w10:=HB69.out.trans (hb.mono HB69.out.size)
 have HB10:Hid (Below w.heap.size w w10):=HB6.out.trans (hb610.mono HB6.out.size)
 have hA10:w10.heap[A]?=some (pObj ⟨#[51]⟩ ⟨#[56]⟩):=(hb610.block _ (Array.getElem?_eq_some_iff.1 HA6.out).1).trans HA6.out
 have HL10:=IIL.stay2 HL6.out hb610 (Nat.le_refl _)
 obtain⟨b1,o1,rfl,g2,g3⟩:=HL10.at IIL.stays (n:=1) rfl (by decide)
 obtain⟨v,g4,g5⟩:=g3 w10 (Below.refl _ w10) 0 (by decide)
 obtain⟨q,f,c,rfl,k1,k2,k3,k4⟩:=Zch g5 (by decide)
 have m0:=k4 0 (by decide)
 have m1:=k4 1 (by decide)
 unfold IntR at m0 m1
 obtain⟨B,hB⟩:∃ A,w10.heap.size=A:=⟨_,rfl⟩
 obtain⟨w11,hw11⟩:∃ z,w10.alloc (pObj ⟨#[51]⟩ ⟨#[56]⟩)=z:=⟨_,rfl⟩
 have hb11:Below w10.heap.size w10 w11:=by rw[← hw11];exact(Below.refl _ w10).alloc (Nat.le_refl _) _
 have hB11:w11.heap[B]?=some (pObj ⟨#[51]⟩ ⟨#[56]⟩):=by rw[← hw11,← hB];exact World.alloc_heap_new w10 _
 have hA11:=(hb11.block _ (Array.getElem?_eq_some_iff.1 hA10).1).trans hA10
 have a0:=Za hA11 0 (v:=.string ⟨#[51]⟩) rfl
 have a1:=Za hA11 1 (v:=.string ⟨#[56]⟩) rfl
 have b0:=Za hB11 0 (v:=.string ⟨#[51]⟩) rfl
 have b1':=Za hB11 1 (v:=.string ⟨#[56]⟩) rfl
 have g6:=(hb11.cell (p:=⟨b1,o1+0*1,none⟩) g2).trans g4
 have m2:=(hb11.cell (p:=⟨q,f+0*1,none⟩) k3).trans m0
 have m3:=(hb11.cell (p:=⟨q,f+1*1,none⟩) k3).trans m1
 simp only[Nat.zero_mul,Nat.mul_one,Nat.one_mul,Nat.add_zero,List.getElem_cons_zero,List.getElem_cons_succ] at g6 m2 m3
 have HB11:Hid (Below w.heap.size w w11):=HB10.out.trans (hb11.mono HB10.out.size)
 simp only[List.length_cons,List.length_nil,Nat.zero_add,Nat.reduceAdd,List.getElem_cons_zero] at g6 k1
 clear hA hb hb610 hA10 HL10 g3 g4 g5 k4 m0 m1 hb11 hB11 hA11 HL6 HB6 HA6 HI9 HQ9 HB69
 go_wp2
 try rw[hw11]
 exact bodyPost_ret (by simp[results,Tryz.f15,go_sem]) rfl ⟨rfl,HB11.out⟩
end Go.Proofs.YtmpaflidennnoaaGreatDoor
namespace Go.Proofs.YtmpaflidennnoaaGreatDoor
open Go.ChangeShapes Go.WideShapes Go.ChangeAt Go.RowKit
section
variable {H:Type} {enc:TypeId×Value→H} {W:World} {base b0:Nat} {sp:Nat→Bool} {held:Bool}
end
section
variable {H:Type} {enc:TypeId×Value→H} {W:World} {base b0:Nat} {sp:Nat→Bool} {held:Bool}
end
theorem ZlY:ownKnob Tryz.prog.godebug=none:=by kernel_rfl
def ZaS:List (String×DataW Unit):=Rows.effortBoundRow.laid
theorem Zgx:(ZaS.all fun x=>x.2.handleName?.isNone)=true:=by kernel_rfl
theorem pow9:(ZaS.filter fun x=>x.1=="internal/strconv.uint64pow10")=[("internal/strconv.uint64pow10",Lib.tabData .u64 Lib.pow10Tab)]:=by kernel_rfl
theorem Zna:(ZaS.filter fun x=>x.1=="cresset/detect.zero")=[("cresset/detect.zero",.agg [.lit (.string [48]),.lit (.string [49])])]:=by kernel_rfl
theorem one9:(ZaS.filter fun x=>x.1=="cresset/detect.one")=[("cresset/detect.one",.agg [.lit (.string [49]),.lit (.string [49])])]:=by kernel_rfl
theorem ZmI:(ZaS.filter fun x=>x.1=="cresset/effort.zero")=[("cresset/effort.zero",.agg [.lit (.string [48]),.lit (.string [49])])]:=by kernel_rfl
theorem ZhH {W:World} (h:laidMetH Tryz.prog ZaS W):Tabs W:=by
 rw[MakeChecks.laidMetH_plain _ _ _ Zgx] at h
 have h2:=laidMet.filter (fun x=>x.1=="internal/strconv.uint64pow10") h
 rw[pow9] at h2
 exact Lib.tabIs_of_head Zeg (by kernel_rfl) Tryz.underlying295 Tryz.underlying158 (by kernel_rfl) (by kernel_rfl) h2
theorem Zdt {name:String} {g:Nat} {a b:List UInt8} {W:World} (hg:Tryz.prog.globalNamed name=some g) (hty:(Tryz.prog.globals[g]?).map (·.type)=some 41)
  (h:laidMet Tryz.prog [(name,.agg [.lit (.string a),.lit (.string b)])] W):W.cell? ⟨g,0,none⟩=some (.string ⟨a.toArray⟩)∧W.cell? ⟨g,1,none⟩=some (.string ⟨b.toArray⟩):=by
 obtain⟨ps,⟨g',t',cs,fuel,p,q,hg',ht',hvar,hd,_,_⟩,_⟩:=h
 obtain rfl:=Option.some.inj (hg.symm.trans hg')
 obtain rfl:=Option.some.inj (hty.symm.trans ht')
 obtain⟨y0,y1,n,hx,hl,h0,h1⟩:=trod_struct2 Tryz.underlying41 hd
 obtain⟨l,hl'⟩:∃ l,cs.toList=l:=⟨_,rfl⟩
 rw[hl'] at hl h0 h1
 have c2:Tryz.prog.cellsOf 41=2:=by kernel_rfl
 have c1:Tryz.prog.cellsOf 39=1:=by kernel_rfl
 rw[c2] at hl
 match l,hl with
 | [v0,v1],_=>
  dsimp only at h0 h1
  rw[c1] at h0 h1
  obtain⟨s,e0,e1,_⟩:=DataW.trod_string Tryz.underlying39 h0
  obtain⟨t,f0,f1,_⟩:=DataW.trod_string Tryz.underlying39 h1
  simp at e0 f0
  subst e0 f0
  simp only[e1,f1,Prod.mk.injEq,DataW.agg.injEq,List.cons.injEq,DataW.lit.injEq,Lit.string.injEq,and_true] at hx
  obtain⟨⟨rfl,rfl⟩,_⟩:=hx
  have k0:=World.var?_cell hg hvar 0
  have k1:=World.var?_cell hg hvar 1
  have z0:cs[0]?=some (.string s):=by rw[← Array.getElem?_toList,hl'];rfl
  have z1:cs[1]?=some (.string t):=by rw[← Array.getElem?_toList,hl'];rfl
  exact⟨k0.trans z0,k1.trans z1⟩
theorem ZhD {W:World} (h:laidMetH Tryz.prog ZaS W):DetV W:=by
 rw[MakeChecks.laidMetH_plain _ _ _ Zgx] at h
 have h2:=laidMet.filter (fun x=>x.1=="cresset/detect.zero") h
 have h3:=laidMet.filter (fun x=>x.1=="cresset/detect.one") h
 rw[Zna] at h2
 rw[one9] at h3
 have k2:=Zdt (g:=1) (by kernel_rfl) (by kernel_rfl) h2
 have k3:=Zdt (g:=2) (by kernel_rfl) (by kernel_rfl) h3
 exact⟨k2.1,k2.2,k3.1,k3.2⟩
theorem ZhL {W:World} (h:laidMetH Tryz.prog ZaS W):EffZ W:=by
 rw[MakeChecks.laidMetH_plain _ _ _ Zgx] at h
 have h2:=laidMet.filter (fun x=>x.1=="cresset/effort.zero") h
 rw[ZmI] at h2
 have k2:=Zdt (g:=0) (by kernel_rfl) (by kernel_rfl) h2
 exact⟨k2.1,k2.2⟩
theorem ZmZ (os:Os):(World.holding Tryz.prog os ⟨#[],#[],[]⟩).layFits Tryz.prog ZaS []=true:=by kernel_rfl
theorem Zma (os:Os):(World.holding Tryz.prog os ⟨#[],#[],[]⟩).layIfaces Tryz.prog ZaS (World.laidAll Tryz.prog os ZaS)=true:=by kernel_rfl
theorem met9 (os:Os) (args:Array Value):laidMetH Tryz.prog ZaS ((World.laidAll Tryz.prog os ZaS).forCall (fun _ _=>0) ⟨#[],args,[]⟩).memory:=by
 rw[MakeChecks.laidMetH_plain _ _ _ Zgx]
 exact laidMet_laidAll _ (ZmZ os) (Zma os)
end Go.Proofs.YtmpaflidennnoaaGreatDoor
namespace Go.Proofs.YtmpaflidennnoaaGreatDoor
open Go.RowKit Go.Shelf
attribute [local go_sem ↓] Go.wp_at_zero Go.wp_at_succ
end Go.Proofs.YtmpaflidennnoaaGreatDoor
