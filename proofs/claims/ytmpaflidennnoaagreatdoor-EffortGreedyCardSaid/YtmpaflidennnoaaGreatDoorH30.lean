/- The parts ETwo, EffTwo, EAlive, EOpen, ERowBase, EWide, DGreat of a proof, put together by program (merge7.py). -/
import Derived.Test.YtmpaflidennnoaaGreatDoorH29
import Derived.Test.YtmpaflidennnoaaGreatDoorRows
import Derived.ProofKit
import Derived.OpenShut
import Derived.LaidMore
import Derived.LaidSub
import Derived.Lay
import Derived.Lib.LaidTab
import Derived.SevenTiedAt
import Derived.Stop.Joined
import Derived.Deep.SlicePairs
set_option maxRecDepth 100000
set_option maxHeartbeats 8000000
set_option linter.unusedVariables false
set_option linter.unusedSimpArgs false
namespace Go.Proofs.YtmpaflidennnoaaGreatDoor
open Go.RowKit Go.Shelf
attribute [local go_sem ↓] Go.wp_at_zero Go.wp_at_succ
theorem ZhL {a b:Nat} (hb:0<b) (ha1:a<1000) (hb1:b<1000) {s t:ByteArray} (h:isPB (mkRat (a:Nat) b) s t=true) (w:World) (hT:Tabs w) :
  Calls Tryz.prog 46 #[.int .i64 a,.int .i64 b] w (ZM (pV s t) w):=by
 refine(ZnK a b hb ha1 hb1 w hT).mono ?_
 rintro e w' ⟨x,y,rfl,h2,hb⟩
 have h3:=ZdH h
 obtain⟨e1,e2⟩:=ZbC h2 h3 rfl
 rw[e1,e2]
 exact⟨rfl,hb⟩
theorem ZnB (w:World) (hT:Tabs w):Calls Tryz.prog 46 #[.int .i64 1,.int .i64 2] w (ZM (pV ⟨#[49]⟩ ⟨#[50]⟩) w):=
 ZhL (a:=1) (b:=2) (by decide) (by decide) (by decide) (by decide +kernel) w hT
theorem ZnO (w:World) (hT:Tabs w):Calls Tryz.prog 46 #[.int .i64 1,.int .i64 4] w (ZM (pV ⟨#[49]⟩ ⟨#[52]⟩) w):=
 ZhL (a:=1) (b:=4) (by decide) (by decide) (by decide) (by decide +kernel) w hT
theorem ZnM (w:World) (hT:Tabs w):Calls Tryz.prog 46 #[.int .i64 1,.int .i64 8] w (ZM (pV ⟨#[49]⟩ ⟨#[56]⟩) w):=
 ZhL (a:=1) (b:=8) (by decide) (by decide) (by decide) (by decide +kernel) w hT
theorem ZmN (w:World) (hT:Tabs w):Calls Tryz.prog 46 #[.int .i64 1,.int .i64 1] w (ZM (pV ⟨#[49]⟩ ⟨#[49]⟩) w):=
 ZhL (a:=1) (b:=1) (by decide) (by decide) (by decide) (by decide +kernel) w hT
def twoT:TaskP:={ sites:=[⟨(⟨#[49]⟩,⟨#[50]⟩),Z4 2⟩,⟨(⟨#[49]⟩,⟨#[52]⟩),Z4 2⟩],hours:=[2],rates:=[[(⟨#[49]⟩,⟨#[49]⟩),(⟨#[49]⟩,⟨#[49]⟩)]] }
theorem ZgW (w:World) (hD:DetV w) (hT:Tabs w) (hE:EffZ w):Calls Tryz.prog 45 #[] w (fun e w'=>∃ sv hv rv,e=.returned (.agg #[sv,hv,rv])∧TaskIn twoT sv hv rv w'∧Below w.heap.size w w'):=by
 have HT:=ZnV hT
 have HD:=ZnV hD
 have HE:=ZnV hE
 obtain⟨G,hG⟩:=ZnX w.heap.size
 obtain⟨w1,hw1⟩:=ZnX (w.alloc (efO (.slice none 0 0) (.slice none 0 0) (.slice none 0 0)))
 have HB1:Hid (Below w.heap.size w w1):=by rw[← hw1];exact(Below.refl _ w).alloc ZnW _
 have HG1:Hid (w1.heap[G]?=some (efO (.slice none 0 0) (.slice none 0 0) (.slice none 0 0))):=by rw[← hw1,← hG];exact World.alloc_heap_new w _
 clear hT hD hE
 go_enter Tryz.func45,Tryz.ntmps45
 go_wp2_with fail
 clear hw1
 refine(Zje 2 _ (HD.out.below HB1.out ZnW) (HT.out.below HB1.out ZnW)).mono ?_
 rintro e w2 ⟨hE,hb⟩
 obtain⟨v,rfl,hO⟩:∃ v,e=.returned (.tuple #[v,.int .i64 0])∧OwnB w2 w1.heap.size v (Z4 2):=by
  rcases hE with ⟨h,_⟩ | ⟨_,v,h1,h2⟩
  ·exact absurd ⟨by decide,by decide⟩ h
  ·exact⟨v,h1,h2⟩
 have hlen3:(Z4 2).length=3:=ZbG 2
 have hV:=hO.bl
 obtain⟨p,c,rfl⟩:∃ p c,v=.slice p 3 c:=by obtain⟨p,c,h,_⟩:=id hV;exact⟨_,_,by rw[← hlen3];exact h⟩
 have hpb:(Value.slice p 3 c).ownBlock≠some G:=fun e=>by
  have h1:=(World.ownsRow.lt hO _ e).1
  have h2:=(Array.getElem?_eq_some_iff.1 HG1.out).1
  omega
 have HV:=ZnV hV
 have HB2:Hid (Below w.heap.size w w2):=HB1.out.trans (hb.mono HB1.out.size)
 have HG2:Hid (w2.heap[G]?=some (efO (.slice none 0 0) (.slice none 0 0) (.slice none 0 0))):=(hb.block _ (Array.getElem?_eq_some_iff.1 HG1.out).1).trans HG1.out
 clear hE hb hO hV HG1 HB1
 go_wp2_with fail
 refine(ZnB _ (HT.out.below HB2.out ZnW)).mono ?_
 rintro e w3 ⟨rfl,hb⟩
 have HV3:=ZnV (HV.out.after hb ZnW)
 have HB3:Hid (Below w.heap.size w w3):=HB2.out.trans (hb.mono HB2.out.size)
 have HG3:Hid (w3.heap[G]?=some (efO (.slice none 0 0) (.slice none 0 0) (.slice none 0 0))):=(hb.block _ (Array.getElem?_eq_some_iff.1 HG2.out).1).trans HG2.out
 clear hb HB2 HG2 HV
 go_wp2_with fail
 refine(ZnO _ (HT.out.below HB3.out ZnW)).mono ?_
 rintro e w4 ⟨rfl,hb⟩
 have HV4:=ZnV (HV3.out.after hb ZnW)
 have HB4:Hid (Below w.heap.size w w4):=HB3.out.trans (hb.mono HB3.out.size)
 have HG4:Hid (w4.heap[G]?=some (efO (.slice none 0 0) (.slice none 0 0) (.slice none 0 0))):=(hb.block _ (Array.getElem?_eq_some_iff.1 HG3.out).1).trans HG3.out
 clear hb HB3 HG3 HV3
 obtain⟨H,hH⟩:=ZnX w4.heap.size
 obtain⟨w5,hw5⟩:=ZnX ((w4.alloc (.cells #[.string ⟨#[49]⟩,.string ⟨#[50]⟩,.slice p 3 c,.string ⟨#[49]⟩,.string ⟨#[52]⟩,.slice p 3 c] 74)).alloc (.cells #[.int .i64 2] 3))
 have hGH:G<H:=by rw[← hH];exact(Array.getElem?_eq_some_iff.1 HG4.out).1
 have hb5:Below w4.heap.size w4 w5:=by rw[← hw5];exact((Below.refl _ w4).alloc ZnW _).alloc (by simp) _
 have hs0:w5.heap[H]?=some (.cells #[.string ⟨#[49]⟩,.string ⟨#[50]⟩,.slice p 3 c,.string ⟨#[49]⟩,.string ⟨#[52]⟩,.slice p 3 c] 74):=by
  rw[← hw5,← hH]
  exact(Below.heap_alloc _ _ _ (by simp)).trans (World.alloc_heap_new w4 _)
 have hh0:w5.heap[H+1]?=some (.cells #[.int .i64 2] 3):=by
  rw[← hw5,← hH]
  have:=World.alloc_heap_new (w4.alloc (.cells #[.string ⟨#[49]⟩,.string ⟨#[50]⟩,.slice p 3 c,.string ⟨#[49]⟩,.string ⟨#[52]⟩,.slice p 3 c] 74)) (.cells #[.int .i64 2] 3)
  rwa [World.size_alloc] at this
 have HV5:=HV4.out.after hb5 ZnW
 have HK5:Hid (w5.heap[H]?=_∧w5.heap[H+1]?=_∧BL w5 _ _):=⟨hs0,hh0,HV5⟩
 have HB5:Hid (Below w.heap.size w w5):=HB4.out.trans (hb5.mono HB4.out.size)
 have HG5:Hid (w5.heap[G]?=some (efO (.slice none 0 0) (.slice none 0 0) (.slice none 0 0))):=(hb5.block _ (Array.getElem?_eq_some_iff.1 HG4.out).1).trans HG4.out
 clear hb5 hs0 hh0 HV5 HV4 HB4 HG4
 go_wp2_with fail
 try rw[hw5]
 try rw[hH]
 clear hw5 hH
 refine(ZmN _ (HT.out.below HB5.out ZnW)).mono ?_
 rintro e w6 ⟨rfl,hb6⟩
 have HB6:Hid (Below w.heap.size w w6):=HB5.out.trans (hb6.mono HB5.out.size)
 go_wp2_with fail
 refine(ZmN _ (HT.out.below HB6.out ZnW)).mono ?_
 rintro e w7 ⟨rfl,hb7⟩
 have hb57:Below w5.heap.size w5 w7:=hb6.trans (hb7.mono hb6.size)
 have HB7:Hid (Below w.heap.size w w7):=HB5.out.trans (hb57.mono HB5.out.size)
 have HG7:Hid (w7.heap[G]?=some (efO (.slice none 0 0) (.slice none 0 0) (.slice none 0 0))):=(hb57.block _ (Array.getElem?_eq_some_iff.1 HG5.out).1).trans HG5.out
 have HK7:Hid (w7.heap[H]?=_∧w7.heap[H+1]?=_∧BL w7 _ _):=⟨(hb57.block _ (Array.getElem?_eq_some_iff.1 HK5.out.1).1).trans HK5.out.1,(hb57.block _ (Array.getElem?_eq_some_iff.1 HK5.out.2.1).1).trans HK5.out.2.1,HK5.out.2.2.after hb57 ZnW⟩
 clear hb6 hb7 hb57 HB5 HB6 HG5 HK5
 obtain⟨R,hR⟩:=ZnX w7.heap.size
 obtain⟨w8,hw8⟩:=ZnX ((w7.alloc (.cells #[.string ⟨#[49]⟩,.string ⟨#[49]⟩,.string ⟨#[49]⟩,.string ⟨#[49]⟩] 41)).alloc (.cells #[.slice (some ⟨R,0,none⟩) 2 2] 37))
 have hb8:Below w7.heap.size w7 w8:=by rw[← hw8];exact((Below.refl _ w7).alloc ZnW _).alloc (by simp) _
 have hr0:w8.heap[R]?=some (.cells #[.string ⟨#[49]⟩,.string ⟨#[49]⟩,.string ⟨#[49]⟩,.string ⟨#[49]⟩] 41):=by
  rw[← hw8,← hR]
  exact(Below.heap_alloc _ _ _ (by simp)).trans (World.alloc_heap_new w7 _)
 have hr1:w8.heap[R+1]?=some (.cells #[.slice (some ⟨R,0,none⟩) 2 2] 37):=by
  rw[← hw8,← hR]
  have:=World.alloc_heap_new (w7.alloc (.cells #[.string ⟨#[49]⟩,.string ⟨#[49]⟩,.string ⟨#[49]⟩,.string ⟨#[49]⟩] 41)) (.cells #[.slice (some ⟨w7.heap.size,0,none⟩) 2 2] 37)
  rwa [World.size_alloc] at this
 have HK8:Hid ((w8.heap[H]?=_∧w8.heap[H+1]?=_∧BL w8 _ _)∧w8.heap[R]?=_∧w8.heap[R+1]?=_):=⟨⟨(hb8.block _ (Array.getElem?_eq_some_iff.1 HK7.out.1).1).trans HK7.out.1,(hb8.block _ (Array.getElem?_eq_some_iff.1 HK7.out.2.1).1).trans HK7.out.2.1,HK7.out.2.2.after hb8 ZnW⟩,hr0,hr1⟩
 have hGR:G<R:=by rw[← hR];exact(Array.getElem?_eq_some_iff.1 HG7.out).1
 have HB8:Hid (Below w.heap.size w w8):=HB7.out.trans (hb8.mono HB7.out.size)
 have hG8:w8.heap[G]?=some (efO (.slice none 0 0) (.slice none 0 0) (.slice none 0 0)):=(hb8.block _ (Array.getElem?_eq_some_iff.1 HG7.out).1).trans HG7.out
 have HG8:=ZnV hG8
 have c0:=Za hG8 0 (v:=.slice none 0 0) rfl
 have c1:=Za hG8 1 (v:=.slice none 0 0) rfl
 have c2:=Za hG8 2 (v:=.slice none 0 0) rfl
 have f0:=Zc hG8 0
 have f1:=Zc hG8 1
 have f2:=Zc hG8 2
 clear hb8 hr0 hr1 HK7 HB7 HG7 hG8
 go_wp2
 obtain⟨w9,hw9⟩:=ZnX (((w8.setCell ⟨G,0,none⟩ (.slice (some ⟨H,0,none⟩) 2 2)).setCell ⟨G,1,none⟩ (.slice (some ⟨H+1,0,none⟩) 1 1)).setCell ⟨G,2,none⟩ (.slice (some ⟨R+1,0,none⟩) 1 1))
 have hg9:w9.heap[G]?=some (efO (.slice (some ⟨H,0,none⟩) 2 2) (.slice (some ⟨H+1,0,none⟩) 1 1) (.slice (some ⟨R+1,0,none⟩) 1 1)):=by
  rw[← hw9]
  exact Joins.block_setCell (Joins.block_setCell (Joins.block_setCell HG8.out _) _) _
 have o9:∀ x,x≠G→w9.heap[x]?=w8.heap[x]?:=fun x hx=>by rw[← hw9];exact((Below.heap_setCell _ _ _ _ hx).trans (Below.heap_setCell _ _ _ _ hx)).trans (Below.heap_setCell _ _ _ _ hx)
 have hB9:Below w.heap.size w w9:=by
  have hg:w.heap.size≤G:=by omega
  rw[← hw9]
  exact((HB8.out.setCell (p:=⟨G,0,none⟩) hg _).setCell (p:=⟨G,1,none⟩) hg _).setCell (p:=⟨G,2,none⟩) hg _
 have hs9:w9.heap.size=w8.heap.size:=by rw[← hw9];simp
 rw[hw9]
 obtain⟨⟨k1,k2,k3⟩,k4,k5⟩:=HK8.out
 have s0:=(o9 H (by omega)).trans k1
 have h0:=(o9 (H+1) (by omega)).trans k2
 have r0:=(o9 R (by omega)).trans k4
 have r1:=(o9 (R+1) (by omega)).trans k5
 have hV9:BL w9 (.slice p 3 c) (Z4 2):=by
  obtain⟨p',c',hv,q1,q2,q3⟩:=k3
  refine⟨p',c',hv,q1,q2,fun hne=>?_⟩
  obtain⟨b,off,rfl,hb,hat⟩:=q3 hne
  have hbG:b≠G:=fun e=>hpb (by injection hv with e1;rw[e1,e];rfl)
  have hc:∀ o,w9.cell? ⟨b,o,none⟩=w8.cell? ⟨b,o,none⟩:=fun o=>World.cell?_of_block (o9 b hbG)
  refine⟨b,off,rfl,by omega,fun j hj=>?_⟩
  rw[hc,hc,hc,hc]
  exact hat j hj
 refine bodyPost_ret (v:=.agg #[.slice (some ⟨H,0,none⟩) 2 2,.slice (some ⟨H+1,0,none⟩) 1 1,.slice (some ⟨R+1,0,none⟩) 1 1]) (by
  have d0:=Za hg9 0 (v:=.slice (some ⟨H,0,none⟩) 2 2) rfl
  have d1:=Za hg9 1 (v:=.slice (some ⟨H+1,0,none⟩) 1 1) rfl
  have d2:=Za hg9 2 (v:=.slice (some ⟨R+1,0,none⟩) 1 1) rfl
  simp[results,Tryz.f45,go_sem,d0,d1,d2]) rfl ⟨_,_,_,rfl,⟨?_,?_,?_,HD.out.below hB9 ZnW,HT.out.below hB9 ZnW,HE.out.below hB9 ZnW⟩,hB9⟩
 ·refine⟨_,2,rfl,Nat.le_refl _,by simp[maxLen],fun _=>⟨H,0,rfl,(Array.getElem?_eq_some_iff.1 s0).1,fun j hj=>?_⟩⟩
  match j,hj with
  | 0,_=>exact⟨Za s0 0 rfl,Za s0 1 rfl,_,Za s0 2 rfl,hV9⟩
  | 1,_=>exact⟨Za s0 3 rfl,Za s0 4 rfl,_,Za s0 5 rfl,hV9⟩
  | j+2,h=>exact absurd h (by simp[twoT])
 ·refine⟨_,1,rfl,Nat.le_refl _,by simp[maxLen],fun _=>⟨H+1,0,rfl,(Array.getElem?_eq_some_iff.1 h0).1,fun j hj=>?_⟩⟩
  match j,hj with
  | 0,_=>exact Za h0 0 rfl
  | j+1,h=>exact absurd h (by simp[twoT])
 ·refine⟨_,1,rfl,Nat.le_refl _,by simp[maxLen],fun _=>⟨R+1,0,rfl,(Array.getElem?_eq_some_iff.1 r1).1,fun j hj=>?_⟩⟩
  match j,hj with
  | 0,_=>
   refine⟨_,Za r1 0 rfl,_,2,rfl,Nat.le_refl _,by simp[maxLen],fun _=>⟨R,0,rfl,(Array.getElem?_eq_some_iff.1 r0).1,fun k hk=>?_⟩⟩
   match k,hk with
   | 0,_=>exact⟨Za r0 0 rfl,Za r0 1 rfl⟩
   | 1,_=>exact⟨Za r0 2 rfl,Za r0 3 rfl⟩
   | k+2,h=>exact absurd h (by simp[twoT])
  | j+1,h=>exact absurd h (by simp[twoT])
theorem ZgJ:TaskOk twoT where
 sites:=by decide
 teams:=by decide
 rates:=rfl
 site:=fun i hi=>by
  have h:i<2:=hi
  match i,h with
  | 0,_=>exact⟨by decide +kernel,Za8⟩
  | 1,_=>exact⟨by decide +kernel,Za8⟩
 team:=fun u hu=>by
  have h:u<1:=hu
  obtain rfl:u=0:=by omega
  refine⟨by decide,rfl,fun i hi=>?_⟩
  have h:i<2:=hi
  match i,h with
  | 0,_=>decide +kernel
  | 1,_=>decide +kernel
theorem Zdc (i:Nat) (hi:i<2):rR twoT 0 i=1:=by
 match i,hi with
 | 0,_=>decide +kernel
 | 1,_=>decide +kernel
theorem Zgc:wR twoT 0=mkRat 1 2∧wR twoT 1=mkRat 1 4:=⟨by decide +kernel,by decide +kernel⟩
theorem ZdT (i:Nat) (hi:i<2):chF (eS twoT i).curve 0=0∧chF (eS twoT i).curve 1=mkRat 1 2∧chF (eS twoT i).curve 2=mkRat 3 4:=by
 have e:(eS twoT i).curve=Z4 2:=by
  match i,hi with
  | 0,_=>rfl
  | 1,_=>rfl
 rw[e]
 have hl:=ZbG 2
 refine⟨ZeJ Za8 ⟨0,?_,?_⟩,ZeJ Za8 ⟨1,?_,?_⟩,ZeJ Za8 ⟨2,?_,?_⟩⟩
 all_goals rw[hl]
 ·exact⟨by decide,fun j hj=>absurd hj (by omega),fun _=>by decide +kernel⟩
 ·unfold lin slo slp;decide +kernel
 ·refine⟨by decide,fun j hj=>?_,fun _=>by decide +kernel⟩
  obtain rfl:j=0:=by omega
  decide +kernel
 ·unfold lin slo slp;decide +kernel
 ·refine⟨by decide,fun j hj=>?_,fun h=>absurd h (by decide)⟩
  have h2:j<2:=hj
  match j,h2 with
  | 0,_=>decide +kernel
  | 1,_=>decide +kernel
 ·unfold lin slo slp;decide +kernel
theorem ZgH (a b:Int) (i:Nat) (hi:i<2):covR twoT [[a,b]] i=((pN [[a,b]] 0 i:Int):Rat):=by
 show ZaJ twoT [[a,b]] i 1=_
 unfold ZaJ ZaJ
 rw[Zdc i hi,Rat.one_mul,Rat.zero_add]
theorem ZlP {x y:ByteArray} {n:Int} (h:SumE (valF twoT [[1,1]]) 2 x y n):x=⟨#[51]⟩∧y=⟨#[56]⟩∧n=0:=by
 have v0:valF twoT [[1,1]] 0=mkRat 1 4:=by
  unfold valF
  rw[Zgc.1,ZgH 1 1 0 (by decide),show ((pN [[1,1]] 0 0:Int):Rat)=1 by decide +kernel,(ZdT 0 (by decide)).2.1]
  decide +kernel
 have v1:valF twoT [[1,1]] 1=mkRat 1 8:=by
  unfold valF
  rw[Zgc.2,ZgH 1 1 1 (by decide),show ((pN [[1,1]] 0 1:Int):Rat)=1 by decide +kernel,(ZdT 1 (by decide)).2.1]
  decide +kernel
 have s0:sumF (valF twoT [[1,1]]) 0=0:=rfl
 have s1:sumF (valF twoT [[1,1]]) 1=mkRat 1 4:=by
  show sumF (valF twoT [[1,1]]) 0+valF twoT [[1,1]] 0=_
  rw[s0,v0,Rat.zero_add]
 have s2:sumF (valF twoT [[1,1]]) 2=mkRat 3 8:=by
  show sumF (valF twoT [[1,1]]) 1+valF twoT [[1,1]] 1=_
  rw[s1,v1]
  decide +kernel
 have i0:IsP (0:Rat) ⟨#[48]⟩ ⟨#[49]⟩:=ZY
 have i1:IsP (mkRat 1 4) ⟨#[49]⟩ ⟨#[52]⟩:=ZdH (by decide +kernel)
 have i2:IsP (mkRat 3 8) ⟨#[51]⟩ ⟨#[56]⟩:=ZdH (by decide +kernel)
 have hall:Zae (valF twoT [[1,1]]) 2:=fun k hk=>by
  match k,hk with
  | 0,_=>rw[s0];exact i0.fits
  | 1,_=>rw[s1];exact i1.fits
  | 2,_=>rw[s2];exact i2.fits
 exact h.det (.inl ⟨hall,by rw[s2];exact i2,rfl⟩)
theorem Zis (a b:Int) (i:Nat) (hi:i<2):Zai twoT [[a,b]] 0 i=wR twoT i*(chF (eS twoT i).curve (((pN [[a,b]] 0 i:Int):Rat)+1)-chF (eS twoT i).curve ((pN [[a,b]] 0 i:Int):Rat)):=by
 unfold Zai
 rw[ZgH a b i hi,Zdc i hi]
theorem Zer (i:Nat) (hi:i<2) (a b:Int) (h:pN [[a,b]] 0 i=0):Zai twoT [[a,b]] 0 i=wR twoT i*mkRat 1 2:=by
 rw[Zis a b i hi,h,show ((0:Int):Rat)+1=1 by decide +kernel,show ((0:Int):Rat)=0 by decide +kernel,(ZdT i hi).1,(ZdT i hi).2.1]
 congr 1
 decide +kernel
theorem ZlK (i:Nat) (hi:i<2) (a b:Int) (h:pN [[a,b]] 0 i=1):Zai twoT [[a,b]] 0 i=wR twoT i*mkRat 1 4:=by
 rw[Zis a b i hi,h,show ((1:Int):Rat)+1=2 by decide +kernel,show ((1:Int):Rat)=1 by decide +kernel,(ZdT i hi).2.2,(ZdT i hi).2.1]
 congr 1
 decide +kernel
theorem Zku {p:List (List Int)} (h:GreedyR twoT (Zr twoT) p):p=[[2,0]]:=by
 have b1:Best (Zac twoT [[0,0]]) 2 (some 0) (Zac twoT [[0,0]] 0):=by
  have g0:Zac twoT [[0,0]] 0=mkRat 1 4:=by
   show (if 0<Zab twoT [[0,0]] 0 then Zai twoT [[0,0]] 0 0 else 0)=_
   rw[if_pos (by decide),Zer 0 (by decide) 0 0 rfl]
   decide +kernel
  have g1:Zac twoT [[0,0]] 1=mkRat 1 8:=by
   show (if 0<Zab twoT [[0,0]] 0 then Zai twoT [[0,0]] 0 1 else 0)=_
   rw[if_pos (by decide),Zer 1 (by decide) 0 0 rfl]
   decide +kernel
  exact((Best.zero _).up (by rw[g0];decide +kernel)).keep (by rw[g0,g1];decide +kernel)
 have b2:Best (Zac twoT [[1,0]]) 2 (some 0) (Zac twoT [[1,0]] 0):=by
  have g0:Zac twoT [[1,0]] 0=mkRat 1 8:=by
   show (if 0<Zab twoT [[1,0]] 0 then Zai twoT [[1,0]] 0 0 else 0)=_
   rw[if_pos (by decide),ZlK 0 (by decide) 1 0 rfl]
   decide +kernel
  have g1:Zac twoT [[1,0]] 1=mkRat 1 8:=by
   show (if 0<Zab twoT [[1,0]] 0 then Zai twoT [[1,0]] 0 1 else 0)=_
   rw[if_pos (by decide),Zer 1 (by decide) 1 0 rfl]
   decide +kernel
  exact((Best.zero _).up (by rw[g0];decide +kernel)).keep (by rw[g0,g1];exact Rat.le_refl)
 have b3:Best (Zac twoT [[2,0]]) 2 none 0:=by
  have g0:Zac twoT [[2,0]] 0=0:=by
   show (if 0<Zab twoT [[2,0]] 0 then Zai twoT [[2,0]] 0 0 else 0)=_
   rw[if_neg (by decide)]
  have g1:Zac twoT [[2,0]] 1=0:=by
   show (if 0<Zab twoT [[2,0]] 0 then Zai twoT [[2,0]] 0 1 else 0)=_
   rw[if_neg (by decide)]
  exact((Best.zero _).keep (by rw[g0];exact Rat.le_refl)).keep (by rw[g1];exact Rat.le_refl)
 exact h.det (.step (j:=0) b1 (.step (j:=0) b2 (.done b3)))
def Zaf:PP:=(⟨#[49]⟩,⟨#[56]⟩)
theorem ZkK:PricesOk twoT [Zaf]:=⟨rfl,fun u hu=>by
 have h:u<1:=hu
 obtain rfl:u=0:=by omega
 decide +kernel⟩
theorem Zhj (i:Nat) (hi:i<2):LeastQ (fun u=>prR [Zaf] u/rR twoT u i) (fun u=>rR twoT u i≠0) 1 (some (mkRat 1 8)):=by
 have h:=(LeastQ.zero (fun u=>prR [Zaf] u/rR twoT u i) (fun u=>rR twoT u i≠0)).take (by show rR twoT 0 i≠0;rw[Zdc i hi];decide) (fun c hc=>by cases hc)
 have e:prR [Zaf] 0/rR twoT 0 i=mkRat 1 8:=by
  rw[Zdc i hi]
  decide +kernel
 rw[e] at h
 exact h
theorem ZmI:SurR twoT [Zaf] 0 (mkRat 1 8):=by
 have g0:posR (wR twoT 0*hR (eS twoT 0).curve 0-mkRat 1 8*cR (eS twoT 0).curve 0)=0:=by unfold posR;decide +kernel
 have g1:posR (wR twoT 0*hR (eS twoT 0).curve 1-mkRat 1 8*cR (eS twoT 0).curve 1)=mkRat 1 8:=by unfold posR;decide +kernel
 have g2:posR (wR twoT 0*hR (eS twoT 0).curve 2-mkRat 1 8*cR (eS twoT 0).curve 2)=mkRat 1 8:=by unfold posR;decide +kernel
 have hb:=(((Best.zero (fun k=>posR (wR twoT 0*hR (eS twoT 0).curve k-mkRat 1 8*cR (eS twoT 0).curve k))).keep (by rw[g0];exact Rat.le_refl)).up (by rw[g1];decide +kernel)).keep (by rw[g1,g2];exact Rat.le_refl)
 rw[g1] at hb
 exact⟨_,Zhj 0 (by decide),.inr ⟨_,rfl,_,hb⟩⟩
theorem Zmf:SurR twoT [Zaf] 1 0:=by
 have g0:posR (wR twoT 1*hR (eS twoT 1).curve 0-mkRat 1 8*cR (eS twoT 1).curve 0)=0:=by unfold posR;decide +kernel
 have g1:posR (wR twoT 1*hR (eS twoT 1).curve 1-mkRat 1 8*cR (eS twoT 1).curve 1)=0:=by unfold posR;decide +kernel
 have g2:posR (wR twoT 1*hR (eS twoT 1).curve 2-mkRat 1 8*cR (eS twoT 1).curve 2)=0:=by unfold posR;decide +kernel
 have hb:=(((Best.zero (fun k=>posR (wR twoT 1*hR (eS twoT 1).curve k-mkRat 1 8*cR (eS twoT 1).curve k))).keep (by rw[g0];exact Rat.le_refl)).keep (by rw[g1];exact Rat.le_refl)).keep (by rw[g2];exact Rat.le_refl)
 exact⟨_,Zhj 1 (by decide),.inr ⟨_,rfl,_,hb⟩⟩
theorem ZlF {x y:ByteArray} {n:Int} (h:SumE (ZS twoT [Zaf]) 3 x y n):x=⟨#[51]⟩∧y=⟨#[56]⟩∧n=0:=by
 have f0:ZS twoT [Zaf] 0=mkRat 1 4:=by
  unfold ZS
  rw[if_pos (show 0<twoT.hours.length by decide)]
  decide +kernel
 have f1:ZS twoT [Zaf] 1=mkRat 1 8:=by
  unfold ZS
  rw[if_neg (show ¬ 1<twoT.hours.length by decide)]
  exact ZgI ZmI
 have f2:ZS twoT [Zaf] 2=0:=by
  unfold ZS
  rw[if_neg (show ¬ 2<twoT.hours.length by decide)]
  exact ZgI Zmf
 have s0:sumF (ZS twoT [Zaf]) 0=0:=rfl
 have s1:sumF (ZS twoT [Zaf]) 1=mkRat 1 4:=by
  show sumF (ZS twoT [Zaf]) 0+ZS twoT [Zaf] 0=_
  rw[s0,f0,Rat.zero_add]
 have s2:sumF (ZS twoT [Zaf]) 2=mkRat 3 8:=by
  show sumF (ZS twoT [Zaf]) 1+ZS twoT [Zaf] 1=_
  rw[s1,f1]
  decide +kernel
 have s3:sumF (ZS twoT [Zaf]) 3=mkRat 3 8:=by
  show sumF (ZS twoT [Zaf]) 2+ZS twoT [Zaf] 2=_
  rw[s2,f2,Rat.add_zero]
 have i0:IsP (0:Rat) ⟨#[48]⟩ ⟨#[49]⟩:=ZY
 have i1:IsP (mkRat 1 4) ⟨#[49]⟩ ⟨#[52]⟩:=ZdH (by decide +kernel)
 have i2:IsP (mkRat 3 8) ⟨#[51]⟩ ⟨#[56]⟩:=ZdH (by decide +kernel)
 have hall:Zae (ZS twoT [Zaf]) 3:=fun k hk=>by
  match k,hk with
  | 0,_=>rw[s0];exact i0.fits
  | 1,_=>rw[s1];exact i1.fits
  | 2,_=>rw[s2];exact i2.fits
  | 3,_=>rw[s3];exact i2.fits
 exact h.det (.inl ⟨hall,by rw[s3];exact i2,rfl⟩)
theorem ZfF:LimT twoT:=by
 refine⟨fun s hs=>?_,fun l hl=>?_⟩
 ·have h2:s=⟨(⟨#[49]⟩,⟨#[50]⟩),Z4 2⟩∨s=⟨(⟨#[49]⟩,⟨#[52]⟩),Z4 2⟩:=by simpa[twoT] using hs
  rcases h2 with rfl | rfl
  ·exact⟨by decide,Za8.limB⟩
  ·exact⟨by decide,Za8.limB⟩
 ·have h2:l=[(⟨#[49]⟩,⟨#[49]⟩),(⟨#[49]⟩,⟨#[49]⟩)]:=by simpa[twoT] using hl
  subst h2
  intro q hq
  have h3:q=(⟨#[49]⟩,⟨#[49]⟩):=by simpa using hq
  subst h3
  decide
theorem ZmB:PlanOk twoT [[1,1]]:=by
 refine⟨ZgJ,rfl,fun u hu=>?_,fun u i hu hi=>?_,fun u hu=>?_⟩
 ·have h:u<1:=hu
  obtain rfl:u=0:=by omega
  rfl
 ·have h:u<1:=hu
  obtain rfl:u=0:=by omega
  have h2:i<2:=hi
  have hr:rR twoT 0 i≠0:=by rw[Zdc i h2];decide
  match i,h2,hr with
  | 0,_,hr=>exact⟨by decide,fun _=>hr⟩
  | 1,_,hr=>exact⟨by decide,fun _=>hr⟩
 ·have h:u<1:=hu
  obtain rfl:u=0:=by omega
  decide
theorem ZfR (w:World) (hD:DetV w) (hT:Tabs w) (hE:EffZ w):Calls Tryz.prog 15 #[] w (ZP w true):=by
 have HT:=ZnV hT
 have HD:=ZnV hD
 have HE:=ZnV hE
 clear hT hD hE
 go_enter Tryz.func15,Tryz.ntmps15
 go_wp2_with fail
 refine(ZgW w HD.out HT.out HE.out).mono ?_
 rintro e w1 ⟨sv,hv,rv,rfl,hI,hb⟩
 have HB1:=ZnV hb
 obtain⟨p1,c1,rfl,_⟩:=hI.sites.shape (n:=2) rfl
 obtain⟨p2,c2,rfl,_⟩:=hI.hours.shape (n:=1) rfl
 obtain⟨p3,c3,rfl,_⟩:=hI.rates.shape (n:=1) rfl
 obtain⟨H,hH⟩:=ZnX w1.heap.size
 obtain⟨w2,hw2⟩:=ZnX ((w1.alloc (.cells #[.int .i64 1,.int .i64 1] 3)).alloc (.cells #[.slice (some ⟨H,0,none⟩) 2 2] 23))
 have hb2:Below w1.heap.size w1 w2:=by rw[← hw2];exact((Below.refl _ w1).alloc ZnW _).alloc (by simp) _
 have hr0:w2.heap[H]?=some (.cells #[.int .i64 1,.int .i64 1] 3):=by
  rw[← hw2,← hH]
  exact(Below.heap_alloc _ _ _ (by simp)).trans (World.alloc_heap_new w1 _)
 have hr1:w2.heap[H+1]?=some (.cells #[.slice (some ⟨H,0,none⟩) 2 2] 23):=by
  rw[← hw2,← hH]
  have:=World.alloc_heap_new (w1.alloc (.cells #[.int .i64 1,.int .i64 1] 3)) (.cells #[.slice (some ⟨w1.heap.size,0,none⟩) 2 2] 23)
  rwa [World.size_alloc] at this
 have HI2:Hid (IIL w2 (.slice (some ⟨H+1,0,none⟩) 1 1) [[1,1]]):=by
  refine⟨_,1,rfl,Nat.le_refl _,by simp[maxLen],fun _=>⟨H+1,0,rfl,(Array.getElem?_eq_some_iff.1 hr1).1,fun j hj=>?_⟩⟩
  match j,hj with
  | 0,_=>
   refine⟨_,Za hr1 0 rfl,_,2,rfl,Nat.le_refl _,by simp[maxLen],fun _=>⟨H,0,rfl,(Array.getElem?_eq_some_iff.1 hr0).1,fun k hk=>?_⟩⟩
   match k,hk with
   | 0,_=>exact Za hr0 0 rfl
   | 1,_=>exact Za hr0 1 rfl
   | k+2,h=>exact absurd h (by simp)
  | j+1,h=>exact absurd h (by simp)
 have HT2:=ZnV (hI.below hb2 ZnW)
 have HB2:Hid (Below w.heap.size w w2):=HB1.out.trans (hb2.mono HB1.out.size)
 clear hI hb hb2 hr0 hr1 HB1
 go_wp2_with fail
 try rw[hw2]
 clear hw2 hH
 refine(Zj3 HT2.out ZfF HI2.out).mono ?_
 rintro e w3 ⟨x,y,n,rfl,hA,hb⟩
 obtain⟨rfl,rfl,rfl⟩:x=⟨#[51]⟩∧y=⟨#[56]⟩∧n=0:=by
  rcases hA with ⟨h,_⟩ | ⟨_,h⟩
  ·exact absurd ZmB h
  ·exact ZlP h
 have HB3:Hid (Below w.heap.size w w3):=HB2.out.trans (hb.mono HB2.out.size)
 clear hA hb HT2 HI2 HB2
 obtain⟨A,hA⟩:=ZnX w3.heap.size
 obtain⟨w4,hw4⟩:=ZnX (w3.alloc (pObj ⟨#[51]⟩ ⟨#[56]⟩))
 have hb4:Below w3.heap.size w3 w4:=by rw[← hw4];exact(Below.refl _ w3).alloc ZnW _
 have HA4:Hid (w4.heap[A]?=some (pObj ⟨#[51]⟩ ⟨#[56]⟩)):=by rw[← hw4,← hA];exact World.alloc_heap_new w3 _
 have HB4:Hid (Below w.heap.size w w4):=HB3.out.trans (hb4.mono HB3.out.size)
 clear hb4 HB3
 go_wp2_with fail
 try rw[hw4]
 try rw[hA]
 clear hw4 hA
 refine(ZgW w4 (HD.out.below HB4.out ZnW) (HT.out.below HB4.out ZnW) (HE.out.below HB4.out ZnW)).mono ?_
 rintro e w5 ⟨sv,hv,rv,rfl,hI,hb⟩
 obtain⟨p4,c4,rfl,_⟩:=hI.sites.shape (n:=2) rfl
 obtain⟨p5,c5,rfl,_⟩:=hI.hours.shape (n:=1) rfl
 obtain⟨p6,c6,rfl,_⟩:=hI.rates.shape (n:=1) rfl
 have HI5:=ZnV hI
 have HB5:Hid (Below w.heap.size w w5):=HB4.out.trans (hb.mono HB4.out.size)
 have HA5:Hid (w5.heap[A]?=some (pObj ⟨#[51]⟩ ⟨#[56]⟩)):=(hb.block _ (Array.getElem?_eq_some_iff.1 HA4.out).1).trans HA4.out
 clear hI hb HB4 HA4
 go_wp2_with fail
 refine(Zfg HI5.out ZfF).mono ?_
 rintro e w6 ⟨hG,hb⟩
 obtain⟨pv,rfl,hIL⟩:∃ pv,e=.returned (.tuple #[pv,.int .i64 0])∧IIL w6 pv [[2,0]]:=by
  rcases hG with ⟨h,_⟩ | ⟨_,p,pv,h1,_,h3,h4⟩
  ·exact absurd ZgJ h
  ·obtain rfl:=Zku h1
   exact⟨pv,h4,h3⟩
 obtain⟨q1,d1,rfl,_⟩:=hIL.shape (n:=1) rfl
 have HL6:=ZnV hIL
 have HB6:Hid (Below w.heap.size w w6):=HB5.out.trans (hb.mono HB5.out.size)
 have HA6:Hid (w6.heap[A]?=some (pObj ⟨#[51]⟩ ⟨#[56]⟩)):=(hb.block _ (Array.getElem?_eq_some_iff.1 HA5.out).1).trans HA5.out
 clear hG hb hIL HI5 HB5 HA5
 go_wp2_with fail
 refine(ZgW w6 (HD.out.below HB6.out ZnW) (HT.out.below HB6.out ZnW) (HE.out.below HB6.out ZnW)).mono ?_
 rintro e w7 ⟨sv,hv,rv,rfl,hI,hb7⟩
 obtain⟨p7,c7,rfl,_⟩:=hI.sites.shape (n:=2) rfl
 obtain⟨p8,c8,rfl,_⟩:=hI.hours.shape (n:=1) rfl
 obtain⟨p9,c9,rfl,_⟩:=hI.rates.shape (n:=1) rfl
 have HB7:Hid (Below w.heap.size w w7):=HB6.out.trans (hb7.mono HB6.out.size)
 go_wp2_with fail
 refine(ZnM _ (HT.out.below HB7.out ZnW)).mono ?_
 rintro e w8 ⟨rfl,hb8⟩
 obtain⟨K1,hK1⟩:=ZnX w8.heap.size
 obtain⟨w9,hw9⟩:=ZnX (w8.alloc (pObj ⟨#[49]⟩ ⟨#[56]⟩))
 have hb9:Below w8.heap.size w8 w9:=by rw[← hw9];exact(Below.refl _ w8).alloc ZnW _
 have hp9:w9.heap[K1]?=some (pObj ⟨#[49]⟩ ⟨#[56]⟩):=by rw[← hw9,← hK1];exact World.alloc_heap_new w8 _
 have HQ9:Hid (PL w9 (.slice (some ⟨K1,0,none⟩) 1 1) [Zaf]):=by
  refine⟨_,1,rfl,Nat.le_refl _,by simp[maxLen],fun _=>⟨K1,0,rfl,(Array.getElem?_eq_some_iff.1 hp9).1,fun j hj=>?_⟩⟩
  match j,hj with
  | 0,_=>exact⟨Za hp9 0 rfl,Za hp9 1 rfl⟩
  | j+1,h=>exact absurd h (by simp)
 have hb69:Below w6.heap.size w6 w9:=hb7.trans ((hb8.trans (hb9.mono hb8.size)).mono hb7.size)
 have HI9:=ZnV (hI.below (hb8.trans (hb9.mono hb8.size)) ZnW)
 have HB69:=ZnV hb69
 clear hI hb7 hb8 hb9 hp9 hb69 HB7
 go_wp2_with fail
 try rw[hw9]
 try rw[hK1]
 clear hw9 hK1
 refine(ZkW HI9.out ZfF HQ9.out (fun q hq=>by obtain rfl:q=Zaf:=(by simpa using hq);exact⟨by decide,by decide⟩)).mono ?_
 rintro e w10 ⟨x,y,n,rfl,hA,hb⟩
 obtain⟨rfl,rfl,rfl⟩:x=⟨#[51]⟩∧y=⟨#[56]⟩∧n=0:=by
  rcases hA with ⟨h,_⟩ | ⟨_,h⟩
  ·exact absurd ⟨ZgJ,ZkK⟩ h
  ·exact ZlF h
 have hb610:Below w6.heap.size w6 w10:=HB69.out.trans (hb.mono HB69.out.size)
 have HB10:Hid (Below w.heap.size w w10):=HB6.out.trans (hb610.mono HB6.out.size)
 have hA10:w10.heap[A]?=some (pObj ⟨#[51]⟩ ⟨#[56]⟩):=(hb610.block _ (Array.getElem?_eq_some_iff.1 HA6.out).1).trans HA6.out
 have HL10:=IIL.stay2 HL6.out hb610 ZnW
 obtain⟨b1,o1,rfl,g2,g3⟩:=HL10.at IIL.stays (n:=1) rfl (by decide)
 obtain⟨v,g4,g5⟩:=g3 w10 (Below.refl _ w10) 0 (by decide)
 obtain⟨q,f,c,rfl,k1,k2,k3,k4⟩:=ZaR g5 (by decide)
 have m0:=k4 0 (by decide)
 have m1:=k4 1 (by decide)
 unfold IntR at m0 m1
 obtain⟨B,hB⟩:=ZnX w10.heap.size
 obtain⟨w11,hw11⟩:=ZnX (w10.alloc (pObj ⟨#[51]⟩ ⟨#[56]⟩))
 have hb11:Below w10.heap.size w10 w11:=by rw[← hw11];exact(Below.refl _ w10).alloc ZnW _
 have hB11:w11.heap[B]?=some (pObj ⟨#[51]⟩ ⟨#[56]⟩):=by rw[← hw11,← hB];exact World.alloc_heap_new w10 _
 have hA11:=(hb11.block _ (Array.getElem?_eq_some_iff.1 hA10).1).trans hA10
 have a0:=Za hA11 0 (v:=.string ⟨#[51]⟩) rfl
 have a1:=Za hA11 1 (v:=.string ⟨#[56]⟩) rfl
 have b0:=Za hB11 0 (v:=.string ⟨#[51]⟩) rfl
 have b1':=Za hB11 1 (v:=.string ⟨#[56]⟩) rfl
 have g6:=(hb11.cell (p:=⟨b1,o1+0*1,none⟩) g2).trans g4
 have m2:=(hb11.cell (p:=⟨q,f+0*1,none⟩) k3).trans m0
 have m3:=(hb11.cell (p:=⟨q,f+1*1,none⟩) k3).trans m1
 simp only[Nat.zero_mul,Nat.mul_one,Nat.one_mul,Nat.add_zero,List.getElem_cons_zero,List.getElem_cons_succ] at g6 m2 m3
 have HB11:Hid (Below w.heap.size w w11):=HB10.out.trans (hb11.mono HB10.out.size)
 simp only[List.length_cons,List.length_nil,Nat.zero_add,Nat.reduceAdd,List.getElem_cons_zero] at g6 k1
 clear hA hb hb610 hA10 HL10 g3 g4 g5 k4 m0 m1 hb11 hB11 hA11 HL6 HB6 HA6 HI9 HQ9 HB69
 go_wp2
 try rw[hw11]
 exact bodyPost_ret (by simp[results,Tryz.f15,go_sem]) rfl ⟨rfl,HB11.out⟩
end Go.Proofs.YtmpaflidennnoaaGreatDoor
namespace Go.Proofs.YtmpaflidennnoaaGreatDoor
open Go.ChangeShapes Go.WideShapes Go.ChangeAt Go.RowKit
section
variable {H:Type} {enc:TypeId×Value→H} {W:World} {base b0:Nat} {sp:Nat→Bool} {held:Bool}
def Ze4 {α:Type} (enc:TypeId×Value→H) (W:World) (base:Nat) (sp:Nat→Bool) (held:Bool) (e:TypeId) (k:Nat) (R:World→Nat→Nat→α→Prop):Prop:=
 ∀ (b o:Nat) (spot:Option Nat) (cs:List Value) (n:Nat) (x:DataW H×List MemPlace),cs.length=k→(∀ i,i<k→W.cell? ((⟨b,o,spot⟩:Addr).add i)=cs[i]?)→DataW.trod enc Tryz.prog W base sp held n e cs=some x→spot=none∧b<W.heap.size∧∃ q,R W b o q
theorem ZdM {α:Type} {t e:TypeId} {k:Nat} {R:World→Nat→Nat→α→Prop} (ht:Tryz.prog.underlying t=some (.slice e)) (hk:Tryz.prog.cellsOf e=k) (hR:Ze4 enc W base sp held e k R) {n:Nat} {v:Value} {x:DataW H×List MemPlace}
  (h:DataW.trod enc Tryz.prog W base sp held n t [v]=some x):∃ l:List α,LL k R W v l:=by
 rcases Deep.open_slice ht h with ⟨hcs,_⟩ | ⟨a,len',cap',m,n,D,Pl,hcs,_,hl,hm,hmm,_,hx⟩
 ·simp only[List.cons.injEq,and_true] at hcs
  subst hcs
  exact⟨[],LL.nil W⟩
 ·simp only[List.cons.injEq,and_true] at hcs
  subst hcs
  have hlm:len'≤m:=by rw[hmm];split<;>omega
  obtain⟨b,off,spot⟩:=a
  have each:∀ i,i<len'→spot=none∧b<W.heap.size∧∃ q,R W b (off+i*k) q:=fun i hi=>by
   obtain⟨cs',h1,h2⟩:=hx i (by omega)
   rw[hk] at h1
   obtain⟨_,hlen,hcell⟩:=World.cells?_some h1
   have e:(⟨b,off,spot⟩:Addr).add (i*k)=⟨b,off+i*k,if i*k=0 then spot else none⟩∨(⟨b,off,spot⟩:Addr).add (i*k)=⟨b,off+i*k,spot⟩:=by
    unfold Addr.add
    by_cases h0:i*k=0
    ·simp[h0]
    ·simp[h0]
   rcases e with e | e
   ·rw[e] at hcell
    obtain⟨z1,z2,z3⟩:=hR _ _ _ _ _ _ hlen hcell h2
    by_cases h0:i*k=0
    ·rw[if_pos h0] at z1
     exact⟨z1,z2,z3⟩
    ·obtain⟨c0,d1,d2⟩:=hx 0 (by omega)
     rw[hk,Nat.zero_mul] at d1
     obtain⟨_,hlen0,hcell0⟩:=World.cells?_some d1
     have e0:(⟨b,off,spot⟩:Addr).add 0=⟨b,off,spot⟩:=by simp[Addr.add]
     rw[e0] at hcell0
     exact⟨(hR _ _ _ _ _ _ hlen0 hcell0 d2).1,z2,z3⟩
   ·rw[e] at hcell
    exact hR _ _ _ _ _ _ hlen hcell h2
  obtain⟨q,hq⟩:∃ q:(i:Nat)→i<len'→α,∀ i hi,R W b (off+i*k) (q i hi):=⟨fun i hi=>(each i hi).2.2.choose,fun i hi=>(each i hi).2.2.choose_spec⟩
  refine⟨List.ofFn fun i:Fin len'=>q i.1 i.2,some ⟨b,off,spot⟩,cap',by simp,by simpa using hl,hm,fun hne=>?_⟩
  have h0:0<len':=by
   rcases Nat.eq_zero_or_pos len' with h | h
   ·subst h;exact absurd rfl hne
   ·exact h
  obtain⟨rfl,hb,_⟩:=each 0 h0
  refine⟨b,off,rfl,hb,fun j hj=>?_⟩
  have hj':j<len':=by simpa using hj
  have e:(List.ofFn fun i:Fin len'=>q i.1 i.2)[j]=q j hj':=by simp
  rw[e]
  exact hq j hj'
theorem Zcg {b o:Nat} {spot:Option Nat} {v:Value} (h:W.cell? ((⟨b,o,spot⟩:Addr).add 0)=some v):spot=none∧b<W.heap.size∧W.cell? ⟨b,o,none⟩=some v:=by
 have e0:(⟨b,o,spot⟩:Addr).add 0=⟨b,o,spot⟩:=by simp[Addr.add]
 rw[e0] at h
 have h1:spot=none:=World.cell?_spot h
 subst h1
 exact⟨rfl,World.block_lt_of_cell? _ _ h,h⟩
theorem Zl7 {l:List Value} (h:l.length=1):∃ a,l=[a]:=by
 match l,h with
 | [a],_=>exact⟨a,rfl⟩
theorem Zlk:Ze4 enc W base sp held 3 1 IntR:=fun b o spot cs n x hl hc h=>by
 obtain⟨a,rfl⟩:=Zl7 hl
 obtain⟨h1,h2,h3⟩:=Zcg (hc 0 (by omega))
 obtain⟨m,e,_,_⟩:=DataW.trod_int Tryz.underlying3 h
 simp only[List.cons.injEq,and_true] at e
 subst e
 exact⟨h1,h2,m,h3⟩
def ZmS (w:World) (b o:Nat) (q:PP):Prop:=w.cell? ⟨b,o,none⟩=some (.string q.1)∧w.cell? ⟨b,o+1,none⟩=some (.string q.2)
def ZmO (w:World) (b o:Nat) (q:BB):Prop:=w.cell? ⟨b,o,none⟩=some (.string q.1.1)∧w.cell? ⟨b,o+1,none⟩=some (.string q.1.2)∧w.cell? ⟨b,o+2,none⟩=some (.string q.2.1)∧w.cell? ⟨b,o+3,none⟩=some (.string q.2.2)
theorem LL.toPL {w:World} {v:Value} {ps:List PP} (h:LL 2 ZmS w v ps):PL w v ps:=h
theorem LL.toBL {w:World} {v:Value} {bs:List BB} (h:LL 4 ZmO w v bs):BL w v bs:=h
theorem ZcV {n:Nat} {v0 v1:Value} {x:DataW H×List MemPlace} (h:DataW.trod enc Tryz.prog W base sp held n 41 [v0,v1]=some x):∃ s t:ByteArray,v0=.string s∧v1=.string t:=by
 have ci:Tryz.prog.cellsOf 39=1:=by kernel_rfl
 obtain⟨y0,y1,m,_,_,h0,h1⟩:=trod_struct2 Tryz.underlying41 h
 simp[ci] at h0 h1
 obtain⟨s,e0,_,_⟩:=DataW.trod_string Tryz.underlying39 h0
 obtain⟨t,e1,_,_⟩:=DataW.trod_string Tryz.underlying39 h1
 simp only[List.cons.injEq,and_true] at e0 e1
 exact⟨s,t,e0,e1⟩
theorem Zcb {b o i:Nat} {v:Value} {spot:Option Nat} (hs:spot=none) (h:W.cell? ((⟨b,o,spot⟩:Addr).add i)=some v):W.cell? ⟨b,o+i,none⟩=some v:=by
 subst hs
 rwa [add_plain] at h
theorem Zki:Ze4 enc W base sp held 41 2 ZmS:=fun b o spot cs n x hl hc h=>by
 match cs,hl with
 | [v0,v1],_=>
  obtain⟨h1,h2,h3⟩:=Zcg (hc 0 (by omega))
  obtain⟨s,t,rfl,rfl⟩:=ZcV h
  exact⟨h1,h2,(s,t),h3,Zcb h1 (hc 1 (by omega))⟩
theorem Zkg:Ze4 enc W base sp held 138 4 ZmO:=fun b o spot cs n x hl hc h=>by
 have cp:Tryz.prog.cellsOf 41=2:=by kernel_rfl
 match cs,hl with
 | [v0,v1,v2,v3],_=>
  obtain⟨h1,h2,h3⟩:=Zcg (hc 0 (by omega))
  obtain⟨y0,y1,m,_,_,g0,g1⟩:=trod_struct2 Tryz.underlying138 h
  simp[cp] at g0 g1
  obtain⟨s,t,rfl,rfl⟩:=ZcV g0
  obtain⟨u,v,rfl,rfl⟩:=ZcV g1
  exact⟨h1,h2,((s,t),(u,v)),h3,Zcb h1 (hc 1 (by omega)),Zcb h1 (hc 2 (by omega)),Zcb h1 (hc 3 (by omega))⟩
theorem Zjr:Ze4 enc W base sp held 37 1 (InR PL):=fun b o spot cs n x hl hc h=>by
 obtain⟨a,rfl⟩:=Zl7 hl
 obtain⟨h1,h2,h3⟩:=Zcg (hc 0 (by omega))
 obtain⟨l,hl⟩:=ZdM Tryz.underlying37 (by kernel_rfl) Zki h
 exact⟨h1,h2,l,a,h3,hl.toPL⟩
theorem Zkw:Ze4 enc W base sp held 74 3 Zcm:=fun b o spot cs n x hl hc h=>by
 have cp:Tryz.prog.cellsOf 41=2:=by kernel_rfl
 have cb:Tryz.prog.cellsOf 72=1:=by kernel_rfl
 match cs,hl with
 | [v0,v1,v2],_=>
  obtain⟨h1,h2,h3⟩:=Zcg (hc 0 (by omega))
  obtain⟨y0,y1,m,_,_,g0,g1⟩:=trod_struct2 Tryz.underlying74 h
  simp[cp,cb] at g0 g1
  obtain⟨s,t,rfl,rfl⟩:=ZcV g0
  obtain⟨l,hl⟩:=ZdM Tryz.underlying72 (by kernel_rfl) Zkg g1
  exact⟨h1,h2,⟨(s,t),l⟩,h3,Zcb h1 (hc 1 (by omega)),v2,Zcb h1 (hc 2 (by omega)),hl.toBL⟩
end
section
variable {H:Type} {enc:TypeId×Value→H} {W:World} {base b0:Nat} {sp:Nat→Bool} {held:Bool}
theorem ZiQ (T:Array Value) (h:T.size=3):∃ v0 v1 v2:Value,T = #[v0,v1,v2]:=by
 obtain⟨l⟩:=T
 match l,h with
 | [a,b,c],_=>exact⟨a,b,c,rfl⟩
theorem ZiX {v:Value} {d:DataW H} {p:List MemPlace} (hv:Value.okWide Tryz.prog W .any b0 26 v) (h:DataW.Trod enc Tryz.prog W base sp held 26 v d p) :
  ∃ (t:TaskP) (sv hv rv:Value),v=.agg #[sv,hv,rv]∧Zj5 W sv t.sites∧IL W hv t.hours∧PPL W rv t.rates:=by
 have hv2:=hv
 simp only[Value.okWide,Tryz.underlying26] at hv2
 obtain⟨cs,rfl,hsz,_⟩:=hv2
 have ca:Tryz.prog.cellsOf 26=3:=by kernel_rfl
 have c1:Tryz.prog.cellsOf 22=1:=by kernel_rfl
 have c2:Tryz.prog.cellsOf 23=1:=by kernel_rfl
 have c3:Tryz.prog.cellsOf 24=1:=by kernel_rfl
 rw[ca] at hsz
 obtain⟨v0,v1,v2,rfl⟩:=ZiQ _ hsz
 obtain⟨fuel,hf⟩:=h
 obtain⟨xs,k,hk,hxy,_,hxl,hff⟩:=DataW.trod_struct Tryz.underlying26 hf
 match xs,hxl with
 | [y0,y1,y2],_=>
  have g0:=hff 0 _ rfl
  have g1:=hff 1 _ rfl
  have g2:=hff 2 _ rfl
  simp[c1,c2,c3,Value.cells] at g0 g1 g2
  obtain⟨l0,h0⟩:=ZdM Tryz.underlying22 (by kernel_rfl) Zkw g0
  obtain⟨l1,h1⟩:=ZdM Tryz.underlying23 (by kernel_rfl) Zlk g1
  obtain⟨l2,h2⟩:=ZdM Tryz.underlying24 (by kernel_rfl) Zjr g2
  exact⟨⟨l0,l1,l2⟩,v0,v1,v2,rfl,h0,h1,h2⟩
end
end Go.Proofs.YtmpaflidennnoaaGreatDoor
namespace Go.Proofs.YtmpaflidennnoaaGreatDoor
open Go.ChangeShapes Go.WideShapes Go.ChangeAt Go.RowKit
theorem Zmt:ownKnob Tryz.prog.godebug=none:=by kernel_rfl
theorem Zme:laidOutB Tryz.prog=true:=by kernel_rfl
def ZaZ:List (String×DataW Unit):=Rows.effortBoundRow.laid
theorem ZfT:(ZaZ.all fun x=>x.2.handleName?.isNone)=true:=by kernel_rfl
theorem pow9:(ZaZ.filter fun x=>x.1=="internal/strconv.uint64pow10")=[("internal/strconv.uint64pow10",Lib.tabData .u64 Lib.pow10Tab)]:=by kernel_rfl
theorem Znw:(ZaZ.filter fun x=>x.1=="cresset/detect.zero")=[("cresset/detect.zero",.agg [.lit (.string [48]),.lit (.string [49])])]:=by kernel_rfl
theorem one9:(ZaZ.filter fun x=>x.1=="cresset/detect.one")=[("cresset/detect.one",.agg [.lit (.string [49]),.lit (.string [49])])]:=by kernel_rfl
theorem Znp:(ZaZ.filter fun x=>x.1=="cresset/effort.zero")=[("cresset/effort.zero",.agg [.lit (.string [48]),.lit (.string [49])])]:=by kernel_rfl
theorem Zhx {W:World} (h:laidMetH Tryz.prog ZaZ W):Tabs W:=by
 rw[MakeChecks.laidMetH_plain _ _ _ ZfT] at h
 have h2:=laidMet.filter (fun x=>x.1=="internal/strconv.uint64pow10") h
 rw[pow9] at h2
 exact Lib.tabIs_of_head ZdY (by kernel_rfl) Tryz.underlying295 Tryz.underlying158 (by kernel_rfl) (by kernel_rfl) h2
theorem Zdl {name:String} {g:Nat} {a b:List UInt8} {W:World} (hg:Tryz.prog.globalNamed name=some g) (hty:(Tryz.prog.globals[g]?).map (·.type)=some 41)
  (h:laidMet Tryz.prog [(name,.agg [.lit (.string a),.lit (.string b)])] W):W.cell? ⟨g,0,none⟩=some (.string ⟨a.toArray⟩)∧W.cell? ⟨g,1,none⟩=some (.string ⟨b.toArray⟩):=by
 obtain⟨ps,⟨g',t',cs,fuel,p,q,hg',ht',hvar,hd,_,_⟩,_⟩:=h
 obtain rfl:=Option.some.inj (hg.symm.trans hg')
 obtain rfl:=Option.some.inj (hty.symm.trans ht')
 obtain⟨y0,y1,n,hx,hl,h0,h1⟩:=trod_struct2 Tryz.underlying41 hd
 obtain⟨l,hl'⟩:=ZnX cs.toList
 rw[hl'] at hl h0 h1
 have c2:Tryz.prog.cellsOf 41=2:=by kernel_rfl
 have c1:Tryz.prog.cellsOf 39=1:=by kernel_rfl
 rw[c2] at hl
 match l,hl with
 | [v0,v1],_=>
  dsimp only at h0 h1
  rw[c1] at h0 h1
  obtain⟨s,e0,e1,_⟩:=DataW.trod_string Tryz.underlying39 h0
  obtain⟨t,f0,f1,_⟩:=DataW.trod_string Tryz.underlying39 h1
  simp at e0 f0
  subst e0 f0
  simp only[e1,f1,Prod.mk.injEq,DataW.agg.injEq,List.cons.injEq,DataW.lit.injEq,Lit.string.injEq,and_true] at hx
  obtain⟨⟨rfl,rfl⟩,_⟩:=hx
  have k0:=World.var?_cell hg hvar 0
  have k1:=World.var?_cell hg hvar 1
  have z0:cs[0]?=some (.string s):=by rw[← Array.getElem?_toList,hl'];rfl
  have z1:cs[1]?=some (.string t):=by rw[← Array.getElem?_toList,hl'];rfl
  exact⟨k0.trans z0,k1.trans z1⟩
theorem Zhr {W:World} (h:laidMetH Tryz.prog ZaZ W):DetV W:=by
 rw[MakeChecks.laidMetH_plain _ _ _ ZfT] at h
 have h2:=laidMet.filter (fun x=>x.1=="cresset/detect.zero") h
 have h3:=laidMet.filter (fun x=>x.1=="cresset/detect.one") h
 rw[Znw] at h2
 rw[one9] at h3
 have k2:=Zdl (g:=1) (by kernel_rfl) (by kernel_rfl) h2
 have k3:=Zdl (g:=2) (by kernel_rfl) (by kernel_rfl) h3
 exact⟨k2.1,k2.2,k3.1,k3.2⟩
theorem Zhq {W:World} (h:laidMetH Tryz.prog ZaZ W):EffZ W:=by
 rw[MakeChecks.laidMetH_plain _ _ _ ZfT] at h
 have h2:=laidMet.filter (fun x=>x.1=="cresset/effort.zero") h
 rw[Znp] at h2
 have k2:=Zdl (g:=0) (by kernel_rfl) (by kernel_rfl) h2
 exact⟨k2.1,k2.2⟩
theorem ZnG (os:Os):(World.holding Tryz.prog os ⟨#[],#[],[]⟩).layFits Tryz.prog ZaZ []=true:=by kernel_rfl
theorem Zm7 (os:Os):(World.holding Tryz.prog os ⟨#[],#[],[]⟩).layIfaces Tryz.prog ZaZ (World.laidAll Tryz.prog os ZaZ)=true:=by kernel_rfl
theorem met9 (os:Os) (args:Array Value):laidMetH Tryz.prog ZaZ ((World.laidAll Tryz.prog os ZaZ).forCall (fun _ _=>0) ⟨#[],args,[]⟩).memory:=by
 rw[MakeChecks.laidMetH_plain _ _ _ ZfT]
 exact laidMet_laidAll _ (ZnG os) (Zm7 os)
theorem ZmV {H:Type} {enc:TypeId×Value→H} {W:World} {base b0:Nat} {sp:Nat→Bool} {held:Bool} {v:Value} {d:DataW H} {p:List MemPlace} (hv:Value.okWide Tryz.prog W .any b0 26 v) (h:DataW.Trod enc Tryz.prog W base sp held 26 v d p) (hL:laidMetH Tryz.prog ZaZ W) :
  ∃ (t:TaskP) (sv hv rv:Value),v=.agg #[sv,hv,rv]∧TaskIn t sv hv rv W:=by
 obtain⟨t,sv,hv,rv,e,h1,h2,h3⟩:=ZiX hv h
 exact⟨t,sv,hv,rv,e,h1,h2,h3,Zhr hL,Zhx hL,Zhq hL⟩
end Go.Proofs.YtmpaflidennnoaaGreatDoor
namespace Go.Proofs.YtmpaflidennnoaaGreatDoor
open Go.RowKit Go.Shelf
attribute [local go_sem ↓] Go.wp_at_zero Go.wp_at_succ
def fewB (b:BB):Prop:=(b.1.1.size≤30∧b.1.2.size≤30)∧(b.2.1.size≤30∧b.2.2.size≤30)
def Zlu (bs:List BB) (w:World) (e:Ending) (w':World):Prop:=∃ r:Bool,e=.returned (.bool r)∧(r=false→bs.length≤66∧∀ i,i<bs.length→fewB (bAt bs i))∧Below w.heap.size w w'
theorem Zm8 {bs:List BB} (h:∀ i,i<bs.length→fewB (bAt bs i)):LimB bs:=fun x hx=>by
 obtain⟨i,hi,rfl⟩:=List.getElem_of_mem hx
 have h1:=h i hi
 rw[Zc3 hi] at h1
 obtain⟨⟨a1,a2⟩,a3,a4⟩:=h1
 exact⟨⟨by omega,by omega⟩,by omega,by omega⟩
abbrev S4g (b o:Nat) (s t u v:ByteArray) (w':World):Prop:=w'.cell? ⟨b,o,none⟩=some (.string s)∧w'.cell? ⟨b,o+1,none⟩=some (.string t)∧w'.cell? ⟨b,o+2,none⟩=some (.string u)∧w'.cell? ⟨b,o+3,none⟩=some (.string v)
theorem Zl3 {v:Value} {bs:List BB} {w:World} (hv:BL w v bs):Calls Tryz.prog 47 #[v] w (Zlu bs w):=by
 obtain⟨n,hn⟩:=ZnX bs.length
 obtain⟨p,c,rfl⟩:∃ p c,v=.slice p n c:=by obtain⟨p,c,h,_⟩:=id hv;exact⟨_,_,by rw[← hn];exact h⟩
 obtain⟨_,hcc,hnc⟩:=hv.len
 have HV:=ZnV hv
 have HN:=ZnV hn
 clear hv hn
 by_cases hl:n≤66
 ·have hno:¬ (66:Int)<(n:Int):=by omega
  go_enter Tryz.func47,Tryz.ntmps47
  go_wp2_with fail
  go_loopw [3] (fun i wr=>∃ k:Nat,i=.int .i64 k∧k≤n∧Hid (∀ j,j<k→fewB (bAt bs j))∧Hid (Below w.heap.size w wr)) (fun i _=>n-(intOf i).toNat)
  case atStart=>exact⟨0,rfl,Nat.zero_le _,fun j hj=>by omega,Below.refl _ _⟩
  case round=>
   obtain⟨k,rfl,hk,HK,HB⟩:=hrel
   by_cases hlt:k<n
   ·obtain⟨b,off,rfl,_,hat⟩:=HV.out.at HN.out (by omega)
    have hS:=hat wr.drew HB.out.drew k hlt
    obtain⟨q,hq⟩:=ZnX (bAt bs k)
    rw[hq] at hS
    have HQ:=ZnV hq
    obtain⟨⟨s,t⟩,u,v⟩:=q
    dsimp only at hS
    have i0':(0:Int)≤(k:Int):=by omega
    have i1':(k:Int)<(n:Int):=by omega
    clear hat hq
    go_wp2_with fail
    refine ZL [(true,0),(true,1),(true,2),(true,3),(true,4),(true,5),(true,6),(true,7),(true,8),(true,9),(true,10),(true,11),(true,12),(true,13),(true,14),(true,15),(true,16),(true,17),(true,18),(true,19),(true,20),(true,21),(true,22),(true,23),(true,24),(true,25),(true,26),(true,27),(true,28),(true,29),(true,30),(true,31)] (S4g b (off+k*4) s t u v) (fun _=>false)
     (by kernel_rfl) (by kernel_rfl) (by kernel_rfl) (fun _ _=>rfl) (fun _ _ o _ _ h=>by cases o<;>exact h) hS ?_
    iterate 32
     refine Ze _ rfl rfl (fun w' hS=>by obtain⟨a0,a1,a2,a3⟩:=hS;go_simp;first | rfl | (rw[if_pos (by omega)])) ?_
     simp only[ZnP,ZnQ,ZnR,Act.put,ZnS,ZnT,ZnU]
    refine Zw ?_
    obtain⟨mx,hmx⟩:∃ mx:Int,max (s.size:Int) (max (t.size:Int) (max (u.size:Int) (v.size:Int)))=mx:=⟨_,rfl⟩
    rw[hmx]
    by_cases h30:(30:Int)<mx
    ·go_wp2
     go_ret
     exact⟨true,rfl,(fun h=>by cases h),HB.out.drew⟩
    ·go_wp2
     have hb:fewB (bAt bs k):=by
      rw[HQ.out]
      show (s.size≤30∧t.size≤30)∧(u.size≤30∧v.size≤30)
      exact⟨⟨by omega,by omega⟩,by omega,by omega⟩
     refine⟨⟨k+1,by simp,by omega,?_,HB.out.drew⟩,?_⟩
     ·intro j hj
      rcases Nat.lt_or_ge j k with h | h
      ·exact HK.out j h
      ·obtain rfl:j=k:=by omega
       exact hb
     ·simp only[intOf]
      omega
   ·obtain rfl:k=n:=by omega
    have HF:Hid (bs.length≤66∧∀ i,i<bs.length→fewB (bAt bs i)):=⟨by rw[HN.out];exact hl,fun i hi=>HK.out i (by rw[← HN.out];exact hi)⟩
    go_wp2
    go_ret
    exact⟨false,rfl,fun _=>HF.out,HB.out⟩
 ·have hno:(66:Int)<(n:Int):=by omega
  go_enter Tryz.func47,Tryz.ntmps47
  go_wp2
  go_ret
  exact⟨true,rfl,(fun h=>by cases h),Below.refl _ _⟩
end Go.Proofs.YtmpaflidennnoaaGreatDoor
