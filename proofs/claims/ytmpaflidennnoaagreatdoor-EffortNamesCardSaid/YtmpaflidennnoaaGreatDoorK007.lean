/- The parts LawENames of a proof, put together by program (merge7.py). -/
import Derived.Test.YtmpaflidennnoaaGreatDoorH01
import Derived.Test.YtmpaflidennnoaaGreatDoorK006
import Derived.Test.YtmpaflidennnoaaGreatDoorH31
import Derived.Test.YtmpaflidennnoaaGreatDoorK003
set_option maxRecDepth 100000
set_option maxHeartbeats 16000000
set_option linter.unusedVariables false
set_option linter.unusedSimpArgs false
namespace Go.Proofs.YtmpaflidennnoaaGreatDoor
open Go.RowKit Go.Shelf
attribute [local go_sem ↓] Go.wp_at_zero Go.wp_at_succ
theorem Zb7 (w:World) (a b:Int):IIL ((w.alloc (.cells #[.int .i64 a,.int .i64 b] 3)).alloc (.cells #[.slice (some ⟨w.heap.size,0,none⟩) 2 2] 23)) (.slice (some ⟨w.heap.size+1,0,none⟩) 1 1) [[a,b]]∧Below w.heap.size w ((w.alloc (.cells #[.int .i64 a,.int .i64 b] 3)).alloc (.cells #[.slice (some ⟨w.heap.size,0,none⟩) 2 2] 23)):=by
 obtain⟨V,hV⟩:∃ z,(w.alloc (.cells #[.int .i64 a,.int .i64 b] 3)).alloc (.cells #[.slice (some ⟨w.heap.size,0,none⟩) 2 2] 23)=z:=⟨_,rfl⟩
 have hb:Below w.heap.size w V:=by rw[← hV];exact((Below.refl _ w).alloc (Nat.le_refl _) _).alloc (by simp) _
 have hr0:V.heap[w.heap.size]?=some (.cells #[.int .i64 a,.int .i64 b] 3):=by
  rw[← hV]
  exact(Below.heap_alloc _ _ _ (by simp)).trans (World.alloc_heap_new w _)
 have hr1:V.heap[w.heap.size+1]?=some (.cells #[.slice (some ⟨w.heap.size,0,none⟩) 2 2] 23):=by
  rw[← hV]
  have:=World.alloc_heap_new (w.alloc (.cells #[.int .i64 a,.int .i64 b] 3)) (.cells #[.slice (some ⟨w.heap.size,0,none⟩) 2 2] 23)
  rwa [World.size_alloc] at this
 rw[hV]
 refine⟨⟨_,1,rfl,Nat.le_refl _,by simp[maxLen],fun _=>⟨_,0,rfl,(Array.getElem?_eq_some_iff.1 hr1).1,fun j hj=>?_⟩⟩,hb⟩
 match j,hj with
 | 0,_=>
  refine⟨_,Za hr1 0 rfl,_,2,rfl,Nat.le_refl _,by simp[maxLen],fun _=>⟨_,0,rfl,(Array.getElem?_eq_some_iff.1 hr0).1,fun k hk=>?_⟩⟩
  match k,hk with
  | 0,_=>exact Za hr0 0 rfl
  | 1,_=>exact Za hr0 1 rfl
  | k+2,h=>exact absurd h (by simp)
 | j+1,h=>exact absurd h (by simp)
section
variable {P:Program} {ops:Array Oper} {Q:Exit→Act→World→Prop} {ι:Type} {S:ι→Option Nat→World→Prop} {bar:Nat→Bool}
theorem ZeC {i d:Nat} {j:ι} {tl:List (Nat×Nat)} {o:Oper} {ks:List (Nat×Nat)} {a:Act} (ho:ops[i]?=some o) (hw:∀ z,Region.wanted o (yielded ops (a.put (some d) z).tmps)=true)
  (h:∀ z g w,S j g w→o.wp P (a.put (some d) z) w (fun a' w'=>∃ v j',a'=(a.put (some d) z).put o.dst v∧S j' g w'∧Zag P ops Q S bar d tl ks j' (a.put o.dst v)) Q):Zag P ops Q S bar d tl ((0,i)::ks) j a:=⟨o,ho,.inl ⟨hw,h⟩⟩
end
theorem Zlu {V:World} {K:Nat} {q:PP} (h:V.heap[K]?=some (pObj q.1 q.2)):PL V (.slice (some ⟨K,0,none⟩) 1 1) [q]:=by
 refine⟨_,1,rfl,Nat.le_refl _,by simp[maxLen],fun _=>⟨K,0,rfl,(Array.getElem?_eq_some_iff.1 h).1,fun j hj=>?_⟩⟩
 match j,hj with
 | 0,_=>exact⟨Za h 0 rfl,Za h 1 rfl⟩
 | j+1,h=>exact absurd h (by simp)
def OneS (X:World) (P:PP) (j:Option Nat) (g:Option Nat) (V:World):Prop:=
 Below X.heap.size X V∧(∀ k,g=some k→V.heap[k]?=some (pObj ⟨#[]⟩ ⟨#[]⟩)∧X.heap.size≤k)∧∀ K,j=some K→V.heap[K]?=some (pObj P.1 P.2)∧X.heap.size≤K∧∀ k,g=some k→k≠K
theorem OneS.start (X:World) {P:PP} : OneS X P none none X.drew:=⟨(Below.refl _ X).drew,fun k e=>(by cases e),fun K e=>(by cases e)⟩
theorem OneS.step {X V V':World} {P:PP} {j g:Option Nat} (h:OneS X P j g V) (hb:Below V.heap.size V V'):OneS X P j g V':=
 ⟨h.1.trans (hb.mono h.1.size),fun k e=>⟨(hb.keepsS (fun _=>True)).at (h.2.1 k e).1 trivial,(h.2.1 k e).2⟩,fun K e=>⟨(hb.keepsS (fun _=>True)).at (h.2.2 K e).1 trivial,(h.2.2 K e).2⟩⟩
theorem OneS.push {X V:World} {P:PP} {j:Option Nat} (h:OneS X P j none V):OneS X P j (some V.heap.size) (V.alloc (pObj ⟨#[]⟩ ⟨#[]⟩)):=by
 have hb:Below V.heap.size V (V.alloc (pObj ⟨#[]⟩ ⟨#[]⟩)):=(Below.refl _ V).alloc (Nat.le_refl _) _
 have h2:=h.step hb
 refine⟨h2.1,fun k e=>?_,fun K e=>⟨(h2.2.2 K e).1,(h2.2.2 K e).2.1,fun k e2=>?_⟩⟩
 ·obtain rfl:=Option.some.inj e
  exact⟨World.alloc_heap_new V _,h.1.size⟩
 ·obtain rfl:=Option.some.inj e2
  have:=(Array.getElem?_eq_some_iff.1 (h.2.2 K e).1).1
  omega
theorem OneS.put {X V:World} {P:PP} {g:Option Nat} (h:OneS X P none g V):OneS X P (some V.heap.size) g (V.alloc (pObj P.1 P.2)):=by
 have hb:Below V.heap.size V (V.alloc (pObj P.1 P.2)):=(Below.refl _ V).alloc (Nat.le_refl _) _
 have h2:=h.step hb
 refine⟨h2.1,h2.2.1,fun K e=>?_⟩
 obtain rfl:=Option.some.inj e
 refine⟨World.alloc_heap_new V _,h.1.size,fun k e2=>?_⟩
 have:=(Array.getElem?_eq_some_iff.1 (h.2.1 k e2).1).1
 omega
theorem ZeE.fit2 {p:List (List Int)} {x y:ByteArray} {n:Int} (h:ZeE twoT p x y n) (ok:PlanOk twoT p):n=0∧IsP (valR twoT p) x y:=by
 rcases h with ⟨h,_⟩ | ⟨_,h⟩
 ·exact absurd ok h
 ·rcases h with ⟨_,h2,h3⟩ | ⟨h,_⟩
  ·exact⟨h3,h2⟩
  ·exact absurd (ZgD ok.task ok.inn (by decide) (by decide)) h
theorem Zfe (a b:Int) (i:Int) (ok:PlanOk twoT [[a,b]]) (hi:i=0∨i=1):Zel twoT [[a,b]] 0 i:=⟨ok,⟨by decide,by decide⟩,by show 0≤i∧i≤2-1;omega⟩
theorem Zk3 (w:World) (hD:DetV w) (hT:Tabs w) (hE:EffZ w):Calls Tryz.prog 13 #[] w (ZZ w true):=by
 have HTT:=Lib.hid hT
 have HD:=Lib.hid hD
 have HZ:=Lib.hid hE
 clear hT hD hE
 go_enter Tryz.func13,Tryz.ntmps13
 go_wp2_with fail
 refine(Zfd w HD.out HTT.out HZ.out).mono ?_
 rintro e W1 ⟨sv,hv,rv,rfl,hI,hb⟩
 obtain⟨p1,c1,rfl,_⟩:=hI.sites.shape (n:=2) rfl
 obtain⟨p2,c2,rfl,_⟩:=hI.hours.shape (n:=1) rfl
 obtain⟨p3,c3,rfl,_⟩:=hI.rates.shape (n:=1) rfl
 obtain⟨G,hK1⟩:∃ g,W1.heap.size=g:=⟨_,rfl⟩
 obtain⟨V1,hV1⟩:∃ z,W1.alloc (efO (.slice p1 2 c1) (.slice p2 1 c2) (.slice p3 1 c3))=z:=⟨_,rfl⟩
 have HE1:Hid (Env w.heap.size w [(G,efO (.slice p1 2 c1) (.slice p2 1 c2) (.slice p3 1 c3))] [] V1):=by rw[← hV1];exact((Env.start w).step hb).push _ hK1.symm
 have HT1:Hid (TaskIn twoT (.slice p1 2 c1) (.slice p2 1 c2) (.slice p3 1 c3) V1):=by rw[← hV1];exact hI.below ((Below.refl _ W1).alloc (Nat.le_refl _) _) (Nat.le_refl _)
 have HB1:Hid (Below V1.heap.size V1 V1):=Below.refl _ _
 clear hI hb
 obtain⟨H2,hH2⟩:∃ H,V1.heap.size=H:=⟨_,rfl⟩
 obtain⟨U2,hU2⟩:∃ z,(V1.alloc (.cells #[.int .i64 2,.int .i64 0] 3)).alloc (.cells #[.slice (some ⟨H2,0,none⟩) 2 2] 23)=z:=⟨_,rfl⟩
 have hI2:=Zb7 V1 2 0
 rw[hH2,hU2] at hI2
 have HU2:Hid (Env w.heap.size w [(G,efO (.slice p1 2 c1) (.slice p2 1 c2) (.slice p3 1 c3))] [] U2):=HE1.out.step (by rw[hH2];exact hI2.2)
 have HBU2:Hid (Below V1.heap.size V1 U2):=HB1.out.trans ((show Below V1.heap.size V1 U2 by rw[hH2];exact hI2.2).mono HB1.out.size)
 have HP2:=Lib.hid hI2.1
 have HDU2:Hid (Below V1.heap.size V1 U2):=by rw[hH2];exact hI2.2
 clear hI2
 have c0':=HE1.out.cell 0 0 (v:=.slice p1 2 c1) rfl rfl
 have c1':=HE1.out.cell 0 1 (v:=.slice p2 1 c2) rfl rfl
 have c2':=HE1.out.cell 0 2 (v:=.slice p3 1 c3) rfl rfl
 go_wp2_with fail
 try rw[hU2]
 try rw[hH2]
 clear c0' c1' c2' hU2 hH2 hV1 hK1
 refine(Zf9 (HT1.out.below HBU2.out (Nat.le_refl _)) Zaf HP2.out).mono ?_
 rintro e W2 ⟨x,y,n,rfl,hA,hb⟩
 obtain⟨rfl,rfl,rfl⟩:x=⟨#[51]⟩∧y=⟨#[56]⟩∧n=0:=by
  obtain⟨rfl,h2⟩:=hA.fit2 ((Zb3 2 0 (by decide) (by decide)).2 (by decide))
  obtain⟨e1,e2⟩:=Z5 h2 (Zae (q:=mkRat 3 8) (by decide +kernel):IsP (mkRat 3 8) ⟨#[51]⟩ ⟨#[56]⟩) ZcM
  exact⟨e1,e2,rfl⟩
 obtain⟨A2,hK2⟩:∃ g,W2.heap.size=g:=⟨_,rfl⟩
 obtain⟨V2,hV2⟩:∃ z,W2.alloc (pObj ⟨#[51]⟩ ⟨#[56]⟩)=z:=⟨_,rfl⟩
 have HE2:Hid (Env w.heap.size w [(A2,pObj ⟨#[51]⟩ ⟨#[56]⟩),(G,efO (.slice p1 2 c1) (.slice p2 1 c2) (.slice p3 1 c3))] [] V2):=by rw[← hV2];exact(HU2.out.step hb).push _ hK2.symm
 have HB2:Hid (Below V1.heap.size V1 V2):=by rw[← hV2];exact(HBU2.out.trans (hb.mono HBU2.out.size)).alloc (Nat.le_trans HBU2.out.size hb.size) _
 clear hb hA HU2 HBU2 HP2 HE1 HB1 HDU2
 obtain⟨H3,hH3⟩:∃ H,V2.heap.size=H:=⟨_,rfl⟩
 obtain⟨U3,hU3⟩:∃ z,(V2.alloc (.cells #[.int .i64 0,.int .i64 0] 3)).alloc (.cells #[.slice (some ⟨H3,0,none⟩) 2 2] 23)=z:=⟨_,rfl⟩
 have hI3:=Zb7 V2 0 0
 rw[hH3,hU3] at hI3
 have HU3:Hid (Env w.heap.size w [(A2,pObj ⟨#[51]⟩ ⟨#[56]⟩),(G,efO (.slice p1 2 c1) (.slice p2 1 c2) (.slice p3 1 c3))] [] U3):=HE2.out.step (by rw[hH3];exact hI3.2)
 have HBU3:Hid (Below V1.heap.size V1 U3):=HB2.out.trans ((show Below V2.heap.size V2 U3 by rw[hH3];exact hI3.2).mono HB2.out.size)
 have HP3:=Lib.hid hI3.1
 have HDU3:Hid (Below V2.heap.size V2 U3):=by rw[hH3];exact hI3.2
 clear hI3
 have c0':=HE2.out.cell 1 0 (v:=.slice p1 2 c1) rfl rfl
 have c1':=HE2.out.cell 1 1 (v:=.slice p2 1 c2) rfl rfl
 have c2':=HE2.out.cell 1 2 (v:=.slice p3 1 c3) rfl rfl
 go_wp2_with fail
 try rw[hU3]
 try rw[hH3]
 clear c0' c1' c2' hU3 hH3 hV2 hK2
 refine(ZcQ (u:=0) (i:=0) (HT1.out.below HBU3.out (Nat.le_refl _)) Zaf HP3.out).mono ?_
 rintro e W3 ⟨x,y,n,rfl,hA,hb⟩
 obtain⟨rfl,rfl,rfl⟩:x=⟨#[49]⟩∧y=⟨#[52]⟩∧n=0:=by
  rcases hA with ⟨h,_⟩ | ⟨_,h1,h2⟩
  ·exact absurd (Zfe 0 0 0 ((Zb3 0 0 (by decide) (by decide)).2 (by decide)) (by decide)) h
  ·obtain⟨e1,e2⟩:=Z5 h2 (Zae (by decide +kernel):IsP (mkRat 1 4) ⟨#[49]⟩ ⟨#[52]⟩) Zmh
   exact⟨e1,e2,h1⟩
 obtain⟨A3,hK3⟩:∃ g,W3.heap.size=g:=⟨_,rfl⟩
 obtain⟨V3,hV3⟩:∃ z,W3.alloc (pObj ⟨#[49]⟩ ⟨#[52]⟩)=z:=⟨_,rfl⟩
 have HE3:Hid (Env w.heap.size w [(A3,pObj ⟨#[49]⟩ ⟨#[52]⟩),(A2,pObj ⟨#[51]⟩ ⟨#[56]⟩),(G,efO (.slice p1 2 c1) (.slice p2 1 c2) (.slice p3 1 c3))] [] V3):=by rw[← hV3];exact(HU3.out.step hb).push _ hK3.symm
 have HB3:Hid (Below V1.heap.size V1 V3):=by rw[← hV3];exact(HBU3.out.trans (hb.mono HBU3.out.size)).alloc (Nat.le_trans HBU3.out.size hb.size) _
 clear hb hA HU3 HBU3 HP3 HE2 HB2 HDU3
 obtain⟨H4,hH4⟩:∃ H,V3.heap.size=H:=⟨_,rfl⟩
 obtain⟨U4,hU4⟩:∃ z,(V3.alloc (.cells #[.int .i64 0,.int .i64 0] 3)).alloc (.cells #[.slice (some ⟨H4,0,none⟩) 2 2] 23)=z:=⟨_,rfl⟩
 have hI4:=Zb7 V3 0 0
 rw[hH4,hU4] at hI4
 have HU4:Hid (Env w.heap.size w [(A3,pObj ⟨#[49]⟩ ⟨#[52]⟩),(A2,pObj ⟨#[51]⟩ ⟨#[56]⟩),(G,efO (.slice p1 2 c1) (.slice p2 1 c2) (.slice p3 1 c3))] [] U4):=HE3.out.step (by rw[hH4];exact hI4.2)
 have HBU4:Hid (Below V1.heap.size V1 U4):=HB3.out.trans ((show Below V3.heap.size V3 U4 by rw[hH4];exact hI4.2).mono HB3.out.size)
 have HP4:=Lib.hid hI4.1
 have HDU4:Hid (Below V3.heap.size V3 U4):=by rw[hH4];exact hI4.2
 clear hI4
 have c0':=HE3.out.cell 2 0 (v:=.slice p1 2 c1) rfl rfl
 have c1':=HE3.out.cell 2 1 (v:=.slice p2 1 c2) rfl rfl
 have c2':=HE3.out.cell 2 2 (v:=.slice p3 1 c3) rfl rfl
 go_wp2_with fail
 try rw[hU4]
 try rw[hH4]
 clear c0' c1' c2' hU4 hH4 hV3 hK3
 refine(ZcQ (u:=0) (i:=1) (HT1.out.below HBU4.out (Nat.le_refl _)) Zaf HP4.out).mono ?_
 rintro e W4 ⟨x,y,n,rfl,hA,hb⟩
 obtain⟨rfl,rfl,rfl⟩:x=⟨#[49]⟩∧y=⟨#[56]⟩∧n=0:=by
  rcases hA with ⟨h,_⟩ | ⟨_,h1,h2⟩
  ·exact absurd (Zfe 0 0 1 ((Zb3 0 0 (by decide) (by decide)).2 (by decide)) (by decide)) h
  ·obtain⟨e1,e2⟩:=Z5 h2 (Zae (by decide +kernel):IsP (mkRat 1 8) ⟨#[49]⟩ ⟨#[56]⟩) Zmq
   exact⟨e1,e2,h1⟩
 obtain⟨A4,hK4⟩:∃ g,W4.heap.size=g:=⟨_,rfl⟩
 obtain⟨V4,hV4⟩:∃ z,W4.alloc (pObj ⟨#[49]⟩ ⟨#[56]⟩)=z:=⟨_,rfl⟩
 have HE4:Hid (Env w.heap.size w [(A4,pObj ⟨#[49]⟩ ⟨#[56]⟩),(A3,pObj ⟨#[49]⟩ ⟨#[52]⟩),(A2,pObj ⟨#[51]⟩ ⟨#[56]⟩),(G,efO (.slice p1 2 c1) (.slice p2 1 c2) (.slice p3 1 c3))] [] V4):=by rw[← hV4];exact(HU4.out.step hb).push _ hK4.symm
 have HB4:Hid (Below V1.heap.size V1 V4):=by rw[← hV4];exact(HBU4.out.trans (hb.mono HBU4.out.size)).alloc (Nat.le_trans HBU4.out.size hb.size) _
 clear hb hA HU4 HBU4 HP4 HE3 HB3 HDU4
 obtain⟨H5,hH5⟩:∃ H,V4.heap.size=H:=⟨_,rfl⟩
 obtain⟨U5,hU5⟩:∃ z,(V4.alloc (.cells #[.int .i64 1,.int .i64 0] 3)).alloc (.cells #[.slice (some ⟨H5,0,none⟩) 2 2] 23)=z:=⟨_,rfl⟩
 have hI5:=Zb7 V4 1 0
 rw[hH5,hU5] at hI5
 have HU5:Hid (Env w.heap.size w [(A4,pObj ⟨#[49]⟩ ⟨#[56]⟩),(A3,pObj ⟨#[49]⟩ ⟨#[52]⟩),(A2,pObj ⟨#[51]⟩ ⟨#[56]⟩),(G,efO (.slice p1 2 c1) (.slice p2 1 c2) (.slice p3 1 c3))] [] U5):=HE4.out.step (by rw[hH5];exact hI5.2)
 have HBU5:Hid (Below V1.heap.size V1 U5):=HB4.out.trans ((show Below V4.heap.size V4 U5 by rw[hH5];exact hI5.2).mono HB4.out.size)
 have HP5:=Lib.hid hI5.1
 have HDU5:Hid (Below V4.heap.size V4 U5):=by rw[hH5];exact hI5.2
 clear hI5
 have c0':=HE4.out.cell 3 0 (v:=.slice p1 2 c1) rfl rfl
 have c1':=HE4.out.cell 3 1 (v:=.slice p2 1 c2) rfl rfl
 have c2':=HE4.out.cell 3 2 (v:=.slice p3 1 c3) rfl rfl
 go_wp2_with fail
 try rw[hU5]
 try rw[hH5]
 clear c0' c1' c2' hU5 hH5 hV4 hK4
 refine(ZcQ (u:=0) (i:=0) (HT1.out.below HBU5.out (Nat.le_refl _)) Zaf HP5.out).mono ?_
 rintro e W5 ⟨x,y,n,rfl,hA,hb⟩
 obtain⟨rfl,rfl,rfl⟩:x=⟨#[49]⟩∧y=⟨#[56]⟩∧n=0:=by
  rcases hA with ⟨h,_⟩ | ⟨_,h1,h2⟩
  ·exact absurd (Zfe 1 0 0 ((Zb3 1 0 (by decide) (by decide)).2 (by decide)) (by decide)) h
  ·obtain⟨e1,e2⟩:=Z5 h2 (Zae (by decide +kernel):IsP (mkRat 1 8) ⟨#[49]⟩ ⟨#[56]⟩) ZmG
   exact⟨e1,e2,h1⟩
 obtain⟨A5,hK5⟩:∃ g,W5.heap.size=g:=⟨_,rfl⟩
 obtain⟨V5,hV5⟩:∃ z,W5.alloc (pObj ⟨#[49]⟩ ⟨#[56]⟩)=z:=⟨_,rfl⟩
 have HE5:Hid (Env w.heap.size w [(A5,pObj ⟨#[49]⟩ ⟨#[56]⟩),(A4,pObj ⟨#[49]⟩ ⟨#[56]⟩),(A3,pObj ⟨#[49]⟩ ⟨#[52]⟩),(A2,pObj ⟨#[51]⟩ ⟨#[56]⟩),(G,efO (.slice p1 2 c1) (.slice p2 1 c2) (.slice p3 1 c3))] [] V5):=by rw[← hV5];exact(HU5.out.step hb).push _ hK5.symm
 have HB5:Hid (Below V1.heap.size V1 V5):=by rw[← hV5];exact(HBU5.out.trans (hb.mono HBU5.out.size)).alloc (Nat.le_trans HBU5.out.size hb.size) _
 clear hb hA HU5 HBU5 HP5 HE4 HB4 HDU5
 obtain⟨H6,hH6⟩:∃ H,V5.heap.size=H:=⟨_,rfl⟩
 obtain⟨U6,hU6⟩:∃ z,(V5.alloc (.cells #[.int .i64 1,.int .i64 0] 3)).alloc (.cells #[.slice (some ⟨H6,0,none⟩) 2 2] 23)=z:=⟨_,rfl⟩
 have hI6:=Zb7 V5 1 0
 rw[hH6,hU6] at hI6
 have HU6:Hid (Env w.heap.size w [(A5,pObj ⟨#[49]⟩ ⟨#[56]⟩),(A4,pObj ⟨#[49]⟩ ⟨#[56]⟩),(A3,pObj ⟨#[49]⟩ ⟨#[52]⟩),(A2,pObj ⟨#[51]⟩ ⟨#[56]⟩),(G,efO (.slice p1 2 c1) (.slice p2 1 c2) (.slice p3 1 c3))] [] U6):=HE5.out.step (by rw[hH6];exact hI6.2)
 have HBU6:Hid (Below V1.heap.size V1 U6):=HB5.out.trans ((show Below V5.heap.size V5 U6 by rw[hH6];exact hI6.2).mono HB5.out.size)
 have HP6:=Lib.hid hI6.1
 have HDU6:Hid (Below V5.heap.size V5 U6):=by rw[hH6];exact hI6.2
 clear hI6
 have c0':=HE5.out.cell 4 0 (v:=.slice p1 2 c1) rfl rfl
 have c1':=HE5.out.cell 4 1 (v:=.slice p2 1 c2) rfl rfl
 have c2':=HE5.out.cell 4 2 (v:=.slice p3 1 c3) rfl rfl
 go_wp2_with fail
 try rw[hU6]
 try rw[hH6]
 clear c0' c1' c2' hU6 hH6 hV5 hK5
 refine(ZcQ (u:=0) (i:=1) (HT1.out.below HBU6.out (Nat.le_refl _)) Zaf HP6.out).mono ?_
 rintro e W6 ⟨x,y,n,rfl,hA,hb⟩
 obtain⟨rfl,rfl,rfl⟩:x=⟨#[49]⟩∧y=⟨#[56]⟩∧n=0:=by
  rcases hA with ⟨h,_⟩ | ⟨_,h1,h2⟩
  ·exact absurd (Zfe 1 0 1 ((Zb3 1 0 (by decide) (by decide)).2 (by decide)) (by decide)) h
  ·obtain⟨e1,e2⟩:=Z5 h2 (Zae (by decide +kernel):IsP (mkRat 1 8) ⟨#[49]⟩ ⟨#[56]⟩) ZmF
   exact⟨e1,e2,h1⟩
 obtain⟨A6,hK6⟩:∃ g,W6.heap.size=g:=⟨_,rfl⟩
 obtain⟨V6,hV6⟩:∃ z,W6.alloc (pObj ⟨#[49]⟩ ⟨#[56]⟩)=z:=⟨_,rfl⟩
 have HE6:Hid (Env w.heap.size w [(A6,pObj ⟨#[49]⟩ ⟨#[56]⟩),(A5,pObj ⟨#[49]⟩ ⟨#[56]⟩),(A4,pObj ⟨#[49]⟩ ⟨#[56]⟩),(A3,pObj ⟨#[49]⟩ ⟨#[52]⟩),(A2,pObj ⟨#[51]⟩ ⟨#[56]⟩),(G,efO (.slice p1 2 c1) (.slice p2 1 c2) (.slice p3 1 c3))] [] V6):=by rw[← hV6];exact(HU6.out.step hb).push _ hK6.symm
 have HB6:Hid (Below V1.heap.size V1 V6):=by rw[← hV6];exact(HBU6.out.trans (hb.mono HBU6.out.size)).alloc (Nat.le_trans HBU6.out.size hb.size) _
 clear hb hA HU6 HBU6 HP6 HE5 HB5 HDU6
 obtain⟨H7,hH7⟩:∃ H,V6.heap.size=H:=⟨_,rfl⟩
 obtain⟨U7,hU7⟩:∃ z,(V6.alloc (.cells #[.int .i64 2,.int .i64 0] 3)).alloc (.cells #[.slice (some ⟨H7,0,none⟩) 2 2] 23)=z:=⟨_,rfl⟩
 have hI7:=Zb7 V6 2 0
 rw[hH7,hU7] at hI7
 have HU7:Hid (Env w.heap.size w [(A6,pObj ⟨#[49]⟩ ⟨#[56]⟩),(A5,pObj ⟨#[49]⟩ ⟨#[56]⟩),(A4,pObj ⟨#[49]⟩ ⟨#[56]⟩),(A3,pObj ⟨#[49]⟩ ⟨#[52]⟩),(A2,pObj ⟨#[51]⟩ ⟨#[56]⟩),(G,efO (.slice p1 2 c1) (.slice p2 1 c2) (.slice p3 1 c3))] [] U7):=HE6.out.step (by rw[hH7];exact hI7.2)
 have HBU7:Hid (Below V1.heap.size V1 U7):=HB6.out.trans ((show Below V6.heap.size V6 U7 by rw[hH7];exact hI7.2).mono HB6.out.size)
 have HP7:=Lib.hid hI7.1
 have HDU7:Hid (Below V6.heap.size V6 U7):=by rw[hH7];exact hI7.2
 clear hI7
 have c0':=HE6.out.cell 5 0 (v:=.slice p1 2 c1) rfl rfl
 have c1':=HE6.out.cell 5 1 (v:=.slice p2 1 c2) rfl rfl
 have c2':=HE6.out.cell 5 2 (v:=.slice p3 1 c3) rfl rfl
 go_wp2_with fail
 try rw[hU7]
 try rw[hH7]
 clear c0' c1' c2' hU7 hH7 hV6 hK6
 refine(Zjj (HT1.out.below HBU7.out (Nat.le_refl _)) Zaf HP7.out).mono ?_
 rintro e W7 ⟨hA,hb⟩
 obtain⟨fv,rfl,hO⟩:∃ v,e=.returned (.tuple #[v,.int .i64 0])∧PL W7 v [ZD]:=by
  rcases hA with ⟨h,_⟩ | ⟨_,qs,v,h1,h2,h3⟩
  ·exact absurd ((Zb3 2 0 (by decide) (by decide)).2 (by decide)) h
  ·obtain rfl:=Zg0 h1
   exact⟨v,h3,h2.pl⟩
 obtain⟨fb,fo,fc,rfl,fc1,fc2,fl,fa⟩:=Zfc hO (by decide)
 have fa0:=fa 0 (by decide)
 have HF7:Hid (∀ V,Below W7.heap.size W7 V→V.cell? ⟨fb,fo,none⟩=some (.string ⟨#[49]⟩)∧V.cell? ⟨fb,fo+1,none⟩=some (.string ⟨#[56]⟩)):=fun V hV=>⟨(hV.cell (p:=⟨fb,fo,none⟩) fl).trans fa0.1,(hV.cell (p:=⟨fb,fo+1,none⟩) fl).trans fa0.2⟩
 clear fa fa0 fl
 have HE7:=Lib.hid (HU7.out.step hb)
 have HB7:Hid (Below V1.heap.size V1 W7):=HBU7.out.trans (hb.mono HBU7.out.size)
 have HC7:Hid (Below W7.heap.size W7 W7):=Below.refl _ _
 clear hb hA hO HU7 HBU7 HP7 HE6 HB6 HDU7
 obtain⟨V7,hV7⟩:∃ z,z=W7:=⟨_,rfl⟩
 rw[← hV7] at HE7 HB7
 have HC7:Hid (Below W7.heap.size W7 V7):=by rw[hV7];exact Below.refl _ _
 go_upto_region 8 with (fail)
 try rw[← hV7]
 clear hV7
 refine Zbm 7 14 [(0,8),(0,9)] [(1,0),(0,1),(0,2),(0,3),(1,4),(2,5),(2,6)] (OneS V7 Zax) none (fun i=>i==5 || i==6 || i==8 || i==9)
  (by kernel_rfl) (by kernel_rfl) (fun j hj=>by have h:10≤j:=hj;simp;omega) (fun _ _ o _ _ h=>by cases o<;>exact h) rfl rfl (fun _=>rfl) (fun a V K hK=>by go_simp;exact hK) (fun j V h=>h.push) (OneS.start V7) ?_
 iterate 1
  refine ZI _ rfl (fun z=>rfl) (fun z j g w' hS=>by have hE:=HE7.out.step hS.1;have c0:=hE.cell 5 0 (v:=.slice p1 2 c1) rfl rfl;have c1:=hE.cell 5 1 (v:=.slice p2 1 c2) rfl rfl;have c2:=hE.cell 5 2 (v:=.slice p3 1 c3) rfl rfl;simp only[Act.put,List.setIfInBounds_toArray,List.set_cons_zero,List.set_cons_succ];go_simp;first | rfl | (rw[if_pos (by omega)])) ?_
  simp only[Znc,Znd,Zne,Act.put,Znf,Zng,Znh]
 refine Zai 46 _ rfl (fun z=>rfl) (fun z w'=>by simp only[Act.put,List.setIfInBounds_toArray,List.set_cons_zero,List.set_cons_succ];go_simp;rfl) (fun g V hS=>?_)
 refine(Za1 (a:=0) (b:=1) (s:=Zax.1) (t:=Zax.2) (by decide) (by decide) (by decide) (by decide +kernel) V (HT1.out.below (HB7.out.trans (hS.1.mono HB7.out.size)) (Nat.le_refl _)).tabs).mono ?_
 rintro e V' ⟨rfl,hb⟩
 refine .inl ⟨_,none,rfl,hS.step hb,?_⟩
 clear hb hS
 simp only[Znc,Znd,Zne,Act.put,Znf,Zng,Znh]
 refine ZeC rfl (fun z=>rfl) (fun z g Vp hS=>?_)
 go_simp
 refine⟨some Vp.heap.size,hS.put,?_⟩
 obtain⟨Kp,hKp⟩:∃ z,Vp.heap.size=z:=⟨_,rfl⟩
 rw[hKp]
 clear hS hKp
 refine Zai 21 _ rfl (fun z=>rfl) (fun z w'=>by simp only[Act.put,List.setIfInBounds_toArray,List.set_cons_zero,List.set_cons_succ];go_simp;rfl) (fun g V hS=>?_)
 refine(Zek (HT1.out.below (HB7.out.trans (hS.1.mono HB7.out.size)) (Nat.le_refl _)) Zaf (Zlu (hS.2.2 Kp rfl).1) (fun q hq=>by obtain rfl:=List.mem_singleton.1 hq;decide)).mono ?_
 rintro e V' ⟨x,y,n,rfl,hA,hb⟩
 obtain⟨rfl,rfl,rfl⟩:x=⟨#[57]⟩∧y=⟨#[49,54]⟩∧n=0:=by
  rcases hA with ⟨h,_⟩ | ⟨_,h⟩
  ·exact absurd ⟨Zcz,Zfl Zax (by decide +kernel)⟩ h
  ·exact Zkw h
 refine .inl ⟨_,some Kp,rfl,hS.step hb,?_⟩
 clear hb hS hA
 simp only[Znc,Znd,Zne,Act.put,Znf,Zng,Znh]
 iterate 1
  refine ZI _ rfl (fun z=>rfl) (fun z j g w' hS=>by skip;simp only[Act.put,List.setIfInBounds_toArray,List.set_cons_zero,List.set_cons_succ];go_simp;first | rfl | (rw[if_pos (by omega)])) ?_
  simp only[Znc,Znd,Zne,Act.put,Znf,Zng,Znh]
 iterate 2
  refine ZcE _ rfl (fun z=>rfl) (fun z w'=>by simp only[Act.put,List.setIfInBounds_toArray,List.set_cons_zero,List.set_cons_succ];go_simp;rfl) ?_
  simp only[Znc,Znd,Zne,Act.put,Znf,Zng,Znh]
 refine ZaF fun A8 V hS=>?_
 simp only[Znc,Znd,Zne,Act.put,Znf,Zng,Znh]
 obtain⟨hS1,hS2,_⟩:=hS
 obtain⟨hp1,hp2⟩:=hS2 _ rfl
 have r0:=Za hp1 0 (v:=.string ⟨#[]⟩) rfl
 have r1:=Za hp1 1 (v:=.string ⟨#[]⟩) rfl
 have f0:=Zb hp1 0
 have f1:=Zb hp1 1
 have hg8:=ZM hp1 (.string ⟨#[57]⟩) (.string ⟨#[49,54]⟩)
 have hb8:Below V7.heap.size V7 ((V.setCell ⟨A8,0,none⟩ (.string ⟨#[57]⟩)).setCell ⟨A8,1,none⟩ (.string ⟨#[49,54]⟩)):=Zf hS1 hp2 _ _
 have HE8:=Lib.hid (HE7.out.laid hb8 hg8 hp2)
 have HB8:Hid (Below V1.heap.size V1 _):=HB7.out.trans (hb8.mono HB7.out.size)
 have HC8:Hid (Below W7.heap.size W7 _):=HC7.out.trans (hb8.mono HC7.out.size)
 refine Zn rfl rfl fun K hK=>?_
 go_simp
 obtain⟨V8,hV8⟩:∃ z,(V.setCell ⟨A8,0,none⟩ (.string ⟨#[57]⟩)).setCell ⟨A8,1,none⟩ (.string ⟨#[49,54]⟩)=z:=⟨_,rfl⟩
 rw[hV8] at HE8 HB8 HC8 ⊢
 refine hK _ _ (.inl rfl) ?_
 clear hK K r0 r1 f0 f1 hS1 hS2 hp1 hp2 hg8 hb8 hV8 HE7 HB7 HC7
 refine Zn rfl rfl fun K hK=>?_
 go_simp
 refine hK _ _ (.inl rfl) ?_
 clear hK K
 refine Zq ?_
 go_upto_region 9 with (fail)
 refine Zbm 7 16 [(0,8),(0,9)] [(1,0),(0,1),(0,2),(0,3),(1,4),(2,5),(2,6)] (OneS V8 oneP) none (fun i=>i==5 || i==6 || i==8 || i==9)
  (by kernel_rfl) (by kernel_rfl) (fun j hj=>by have h:10≤j:=hj;simp;omega) (fun _ _ o _ _ h=>by cases o<;>exact h) rfl rfl (fun _=>rfl) (fun a V K hK=>by go_simp;exact hK) (fun j V h=>h.push) (OneS.start V8) ?_
 iterate 1
  refine ZI _ rfl (fun z=>rfl) (fun z j g w' hS=>by have hE:=HE8.out.step hS.1;have c0:=hE.cell 6 0 (v:=.slice p1 2 c1) rfl rfl;have c1:=hE.cell 6 1 (v:=.slice p2 1 c2) rfl rfl;have c2:=hE.cell 6 2 (v:=.slice p3 1 c3) rfl rfl;simp only[Act.put,List.setIfInBounds_toArray,List.set_cons_zero,List.set_cons_succ];go_simp;first | rfl | (rw[if_pos (by omega)])) ?_
  simp only[Znc,Znd,Zne,Act.put,Znf,Zng,Znh]
 refine Zai 46 _ rfl (fun z=>rfl) (fun z w'=>by simp only[Act.put,List.setIfInBounds_toArray,List.set_cons_zero,List.set_cons_succ];go_simp;rfl) (fun g V hS=>?_)
 refine(Za1 (a:=1) (b:=1) (s:=oneP.1) (t:=oneP.2) (by decide) (by decide) (by decide) (by decide +kernel) V (HT1.out.below (HB8.out.trans (hS.1.mono HB8.out.size)) (Nat.le_refl _)).tabs).mono ?_
 rintro e V' ⟨rfl,hb⟩
 refine .inl ⟨_,none,rfl,hS.step hb,?_⟩
 clear hb hS
 simp only[Znc,Znd,Zne,Act.put,Znf,Zng,Znh]
 refine ZeC rfl (fun z=>rfl) (fun z g Vp hS=>?_)
 go_simp
 refine⟨some Vp.heap.size,hS.put,?_⟩
 obtain⟨Kp,hKp⟩:∃ z,Vp.heap.size=z:=⟨_,rfl⟩
 rw[hKp]
 clear hS hKp
 refine Zai 21 _ rfl (fun z=>rfl) (fun z w'=>by simp only[Act.put,List.setIfInBounds_toArray,List.set_cons_zero,List.set_cons_succ];go_simp;rfl) (fun g V hS=>?_)
 refine(Zek (HT1.out.below (HB8.out.trans (hS.1.mono HB8.out.size)) (Nat.le_refl _)) Zaf (Zlu (hS.2.2 Kp rfl).1) (fun q hq=>by obtain rfl:=List.mem_singleton.1 hq;decide)).mono ?_
 rintro e V' ⟨x,y,n,rfl,hA,hb⟩
 obtain⟨rfl,rfl,rfl⟩:x=⟨#[50]⟩∧y=⟨#[49]⟩∧n=0:=by
  rcases hA with ⟨h,_⟩ | ⟨_,h⟩
  ·exact absurd ⟨Zcz,Zfl oneP (by decide +kernel)⟩ h
  ·exact Zke h
 refine .inl ⟨_,some Kp,rfl,hS.step hb,?_⟩
 clear hb hS hA
 simp only[Znc,Znd,Zne,Act.put,Znf,Zng,Znh]
 iterate 1
  refine ZI _ rfl (fun z=>rfl) (fun z j g w' hS=>by skip;simp only[Act.put,List.setIfInBounds_toArray,List.set_cons_zero,List.set_cons_succ];go_simp;first | rfl | (rw[if_pos (by omega)])) ?_
  simp only[Znc,Znd,Zne,Act.put,Znf,Zng,Znh]
 iterate 2
  refine ZcE _ rfl (fun z=>rfl) (fun z w'=>by simp only[Act.put,List.setIfInBounds_toArray,List.set_cons_zero,List.set_cons_succ];go_simp;rfl) ?_
  simp only[Znc,Znd,Zne,Act.put,Znf,Zng,Znh]
 refine ZaF fun A9 V hS=>?_
 simp only[Znc,Znd,Zne,Act.put,Znf,Zng,Znh]
 obtain⟨hS1,hS2,_⟩:=hS
 obtain⟨hp1,hp2⟩:=hS2 _ rfl
 have r0:=Za hp1 0 (v:=.string ⟨#[]⟩) rfl
 have r1:=Za hp1 1 (v:=.string ⟨#[]⟩) rfl
 have f0:=Zb hp1 0
 have f1:=Zb hp1 1
 have hg9:=ZM hp1 (.string ⟨#[50]⟩) (.string ⟨#[49]⟩)
 have hb9:Below V8.heap.size V8 ((V.setCell ⟨A9,0,none⟩ (.string ⟨#[50]⟩)).setCell ⟨A9,1,none⟩ (.string ⟨#[49]⟩)):=Zf hS1 hp2 _ _
 have HE9:=Lib.hid (HE8.out.laid hb9 hg9 hp2)
 have HB9:Hid (Below V1.heap.size V1 _):=HB8.out.trans (hb9.mono HB8.out.size)
 have HC9:Hid (Below W7.heap.size W7 _):=HC8.out.trans (hb9.mono HC8.out.size)
 refine Zn rfl rfl fun K hK=>?_
 go_simp
 obtain⟨V9,hV9⟩:∃ z,(V.setCell ⟨A9,0,none⟩ (.string ⟨#[50]⟩)).setCell ⟨A9,1,none⟩ (.string ⟨#[49]⟩)=z:=⟨_,rfl⟩
 rw[hV9] at HE9 HB9 HC9 ⊢
 refine hK _ _ (.inl rfl) ?_
 clear hK K r0 r1 f0 f1 hS1 hS2 hp1 hp2 hg9 hb9 hV9 HE8 HB8 HC8
 refine Zn rfl rfl fun K hK=>?_
 go_simp
 refine hK _ _ (.inl rfl) ?_
 clear hK K
 refine Zq ?_
 have c0':=HE9.out.cell 7 0 (v:=.slice p1 2 c1) rfl rfl
 have c1':=HE9.out.cell 7 1 (v:=.slice p2 1 c2) rfl rfl
 have c2':=HE9.out.cell 7 2 (v:=.slice p3 1 c3) rfl rfl
 go_wp2_with fail
 clear c0' c1' c2'
 refine(Zj2 (R:=4) (HT1.out.below HB9.out (Nat.le_refl _)) Zaf (fun _=>⟨by decide,by decide⟩)).mono ?_
 rintro e W10 ⟨hA,hb⟩
 obtain⟨pv,qv,u,v,rfl,⟨sp,sn,sc,rfl⟩,tp,tn,tc,rfl⟩:∃ pv qv u v,e=.returned (.tuple #[soV pv ⟨#[51]⟩ ⟨#[56]⟩ qv u v ⟨#[48]⟩ ⟨#[49]⟩,.int .i64 0])∧(∃ a b c,pv=Value.slice a b c)∧∃ a b c,qv=Value.slice a b c:=by
  rcases hA with ⟨h,_⟩ | ⟨_,q,qs,hS,hA⟩
  ·exact absurd ⟨Zcz,by decide,by decide⟩ h
  ·obtain⟨rfl,rfl⟩:=Zlr hS
   rcases hA with ⟨_,pv,x,y,qv,u,v,s,z,h1,h2,hx,_,hz,rfl⟩ | ⟨h,_⟩
   ·obtain⟨rfl,rfl⟩:=Z5 hx (Zae (by decide +kernel):IsP (mkRat 3 8) ⟨#[51]⟩ ⟨#[56]⟩) ZcM
    obtain⟨rfl,rfl⟩:=Z5 hz ZP (by rw[Zfg,ZcM];decide +kernel)
    obtain⟨_,_,e1,_⟩:=h1.shape (n:=1) rfl
    obtain⟨_,_,e2,_⟩:=id h2
    exact⟨pv,qv,u,v,rfl,⟨_,_,_,e1⟩,_,_,_,e2⟩
   ·exact absurd ZlZ h
 obtain⟨A10,hK10⟩:∃ g,W10.heap.size=g:=⟨_,rfl⟩
 obtain⟨V10,hV10⟩:∃ z',W10.alloc (soO (.slice sp sn sc) ⟨#[51]⟩ ⟨#[56]⟩ (.slice tp tn tc) u v ⟨#[48]⟩ ⟨#[49]⟩)=z':=⟨_,rfl⟩
 have HE10:Hid (Env w.heap.size w [(A10,soO (.slice sp sn sc) ⟨#[51]⟩ ⟨#[56]⟩ (.slice tp tn tc) u v ⟨#[48]⟩ ⟨#[49]⟩),(A9,pObj ⟨#[50]⟩ ⟨#[49]⟩),(A8,pObj ⟨#[57]⟩ ⟨#[49,54]⟩),(A6,pObj ⟨#[49]⟩ ⟨#[56]⟩),(A5,pObj ⟨#[49]⟩ ⟨#[56]⟩),(A4,pObj ⟨#[49]⟩ ⟨#[56]⟩),(A3,pObj ⟨#[49]⟩ ⟨#[52]⟩),(A2,pObj ⟨#[51]⟩ ⟨#[56]⟩),(G,efO (.slice p1 2 c1) (.slice p2 1 c2) (.slice p3 1 c3))] [] V10):=by rw[← hV10];exact(HE9.out.step hb).push _ hK10.symm
 have HB10:Hid (Below V1.heap.size V1 V10):=by rw[← hV10];exact(HB9.out.trans (hb.mono HB9.out.size)).alloc (Nat.le_trans HB9.out.size hb.size) _
 have HC10:Hid (Below W7.heap.size W7 V10):=by rw[← hV10];exact(HC9.out.trans (hb.mono HC9.out.size)).alloc (Nat.le_trans HC9.out.size hb.size) _
 clear hb hA HE9 HB9 HC9
 obtain⟨H11,hH11⟩:∃ H,V10.heap.size=H:=⟨_,rfl⟩
 obtain⟨U11,hU11⟩:∃ z,(V10.alloc (.cells #[.int .i64 2,.int .i64 1] 3)).alloc (.cells #[.slice (some ⟨H11,0,none⟩) 2 2] 23)=z:=⟨_,rfl⟩
 have hI11:=Zb7 V10 2 1
 rw[hH11,hU11] at hI11
 have HU11:Hid (Env w.heap.size w [(A10,soO (.slice sp sn sc) ⟨#[51]⟩ ⟨#[56]⟩ (.slice tp tn tc) u v ⟨#[48]⟩ ⟨#[49]⟩),(A9,pObj ⟨#[50]⟩ ⟨#[49]⟩),(A8,pObj ⟨#[57]⟩ ⟨#[49,54]⟩),(A6,pObj ⟨#[49]⟩ ⟨#[56]⟩),(A5,pObj ⟨#[49]⟩ ⟨#[56]⟩),(A4,pObj ⟨#[49]⟩ ⟨#[56]⟩),(A3,pObj ⟨#[49]⟩ ⟨#[52]⟩),(A2,pObj ⟨#[51]⟩ ⟨#[56]⟩),(G,efO (.slice p1 2 c1) (.slice p2 1 c2) (.slice p3 1 c3))] [] U11):=HE10.out.step (by rw[hH11];exact hI11.2)
 have HBU11:Hid (Below V1.heap.size V1 U11):=HB10.out.trans ((show Below V10.heap.size V10 U11 by rw[hH11];exact hI11.2).mono HB10.out.size)
 have HP11:=Lib.hid hI11.1
 have HDU11:Hid (Below V10.heap.size V10 U11):=by rw[hH11];exact hI11.2
 clear hI11
 have c0':=HE10.out.cell 8 0 (v:=.slice p1 2 c1) rfl rfl
 have c1':=HE10.out.cell 8 1 (v:=.slice p2 1 c2) rfl rfl
 have c2':=HE10.out.cell 8 2 (v:=.slice p3 1 c3) rfl rfl
 go_wp2_with fail
 try rw[hU11]
 try rw[hH11]
 clear c0' c1' c2' hU11 hH11 hV10 hK10
 refine(ZbH (HT1.out.below HBU11.out (Nat.le_refl _)) Zaf HP11.out).mono ?_
 rintro e V11 ⟨hE,hb⟩
 obtain rfl:e=.returned (.int .i64 2):=by
  rcases hE with ⟨h,_⟩ | ⟨_,h⟩
  ·exact absurd ((Zb3 2 1 (by decide) (by decide)).1 h) (by decide)
  ·exact h
 have hV11:=True.intro
 have hK11:=True.intro
 have HE11:=Lib.hid (HU11.out.step hb)
 have HB11:Hid (Below V1.heap.size V1 V11):=HBU11.out.trans (hb.mono HBU11.out.size)
 have HC11:Hid (Below W7.heap.size W7 V11):=HC10.out.trans ((show Below V10.heap.size V10 U11 from HDU11.out).trans (hb.mono HDU11.out.size) |>.mono HC10.out.size)
 clear hb hE HU11 HBU11 HP11 HE10 HB10 HC10 HDU11
 obtain⟨H12,hH12⟩:∃ H,V11.heap.size=H:=⟨_,rfl⟩
 obtain⟨U12,hU12⟩:∃ z,(V11.alloc (.cells #[.int .i64 0,.int .i64 0] 3)).alloc (.cells #[.slice (some ⟨H12,0,none⟩) 2 2] 23)=z:=⟨_,rfl⟩
 have hI12:=Zb7 V11 0 0
 rw[hH12,hU12] at hI12
 have HU12:Hid (Env w.heap.size w [(A10,soO (.slice sp sn sc) ⟨#[51]⟩ ⟨#[56]⟩ (.slice tp tn tc) u v ⟨#[48]⟩ ⟨#[49]⟩),(A9,pObj ⟨#[50]⟩ ⟨#[49]⟩),(A8,pObj ⟨#[57]⟩ ⟨#[49,54]⟩),(A6,pObj ⟨#[49]⟩ ⟨#[56]⟩),(A5,pObj ⟨#[49]⟩ ⟨#[56]⟩),(A4,pObj ⟨#[49]⟩ ⟨#[56]⟩),(A3,pObj ⟨#[49]⟩ ⟨#[52]⟩),(A2,pObj ⟨#[51]⟩ ⟨#[56]⟩),(G,efO (.slice p1 2 c1) (.slice p2 1 c2) (.slice p3 1 c3))] [] U12):=HE11.out.step (by rw[hH12];exact hI12.2)
 have HBU12:Hid (Below V1.heap.size V1 U12):=HB11.out.trans ((show Below V11.heap.size V11 U12 by rw[hH12];exact hI12.2).mono HB11.out.size)
 have HP12:=Lib.hid hI12.1
 have HDU12:Hid (Below V11.heap.size V11 U12):=by rw[hH12];exact hI12.2
 clear hI12
 have c0':=HE11.out.cell 8 0 (v:=.slice p1 2 c1) rfl rfl
 have c1':=HE11.out.cell 8 1 (v:=.slice p2 1 c2) rfl rfl
 have c2':=HE11.out.cell 8 2 (v:=.slice p3 1 c3) rfl rfl
 go_wp2_with fail
 try rw[hU12]
 try rw[hH12]
 clear c0' c1' c2' hU12 hH12 hV11 hK11
 refine(ZcQ (u:=1) (i:=0) (HT1.out.below HBU12.out (Nat.le_refl _)) Zaf HP12.out).mono ?_
 rintro e W12 ⟨x,y,n,rfl,hA,hb⟩
 obtain⟨rfl,rfl,rfl⟩:x=⟨#[]⟩∧y=⟨#[]⟩∧n=2:=by
  rcases hA with ⟨_,h1,h2,h3⟩ | ⟨h,_⟩
  ·exact⟨h1,h2,h3⟩
  ·exact absurd h.2.1.2 (by decide)
 go_upto_region 13 with (fail)
 have hal:Below W12.heap.size W12 (W12.alloc (pObj ⟨#[]⟩ ⟨#[]⟩)):=(Below.refl _ W12).alloc (Nat.le_refl _) _
 have HE12:=Lib.hid ((HU12.out.step hb).step hal)
 have HB12:Hid (Below V1.heap.size V1 _):=(HBU12.out.trans (hb.mono HBU12.out.size)).trans (hal.mono (Nat.le_trans HBU12.out.size hb.size))
 have HC12:Hid (Below W7.heap.size W7 _):=HC11.out.trans ((HDU12.out.trans ((hb.trans (hal.mono hb.size)).mono HDU12.out.size)).mono HC11.out.size)
 obtain⟨V12,hV12⟩:∃ z,W12.alloc (pObj ⟨#[]⟩ ⟨#[]⟩)=z:=⟨_,rfl⟩
 rw[hV12] at HE12 HB12 HC12 ⊢
 clear hV12 hal hb hA HU12 HBU12 HP12 HE11 HB11 HC11 HDU12
 have HBLa:=HB12
 have HEL:=HE12
 have HCL:=HC12
 refine ZG [(1,0),(0,1),(1,2),(1,3),(1,4),(0,5),(1,6),(1,7),(1,8),(1,9),(0,10),(1,11),(1,12),(1,13),(1,14),(0,15),(1,16),(1,17),(1,18),(1,19),(0,20),(1,21),(1,22),(1,23),(1,24),(1,25),(1,26),(1,27),(1,28),(1,29),(1,30),(1,31),(0,32),(1,33),(1,34),(0,35)] (fun V=>Below V12.heap.size V12 V) (fun i=>i==35)
  (by kernel_rfl) (by kernel_rfl) (fun j hj=>by have h:36≤j:=hj;simp;omega) (fun _ _ o _ _ h=>by cases o<;>exact h) (Below.refl _ _).drew ?_
 obtain⟨ax0,hax⟩:∃ z,V12.drew=z:=⟨_,rfl⟩
 have HSa0:Hid (Below V12.heap.size V12 ax0):=by rw[← hax];exact(Below.refl _ _).drew
 rw[hax]
 clear hax
 refine Zc _ rfl rfl (fun w' hS=>by have hE:=HEL.out.step hS;have b0:=hE.cell 7 0 (v:=.string ⟨#[51]⟩) rfl rfl;have b1:=hE.cell 7 1 (v:=.string ⟨#[56]⟩) rfl rfl;go_simp;first | rfl | (rw[if_pos (by omega)])) ?_
 simp only[Znc,Znd,Zne,Act.put,Znf,Zng,Znh]
 refine Zl 46 _ rfl rfl (by go_simp;rfl) ?_
 refine(Za1 (a:=3) (b:=8) (s:=⟨#[51]⟩) (t:=⟨#[56]⟩) (by decide) (by decide) (by decide) (by decide +kernel) _ (HT1.out.below (HBLa.out.trans (HSa0.out.mono HBLa.out.size)) (Nat.le_refl _)).tabs).mono ?_
 rintro e ax1 ⟨rfl,hb⟩
 have HSa1:Hid (Below V12.heap.size V12 ax1):=HSa0.out.trans (hb.mono HSa0.out.size)
 refine .inl ⟨_,rfl,HSa1.out,?_⟩
 clear hb HSa0
 simp only[Znc,Znd,Zne,Act.put,Znf,Zng,Znh]
 refine Zc _ rfl rfl (fun w' hS=>by skip;go_simp;first | rfl | (rw[if_pos (by omega)])) ?_
 simp only[Znc,Znd,Zne,Act.put,Znf,Zng,Znh]
 refine Zc _ rfl rfl (fun w' hS=>by skip;go_simp;first | rfl | (rw[if_pos (by omega)])) ?_
 simp only[Znc,Znd,Zne,Act.put,Znf,Zng,Znh]
 refine Zc _ rfl rfl (fun w' hS=>by have hE:=HEL.out.step hS;have b0:=hE.cell 6 0 (v:=.string ⟨#[49]⟩) rfl rfl;have b1:=hE.cell 6 1 (v:=.string ⟨#[52]⟩) rfl rfl;go_simp;first | rfl | (rw[if_pos (by omega)])) ?_
 simp only[Znc,Znd,Zne,Act.put,Znf,Zng,Znh]
 refine Zl 46 _ rfl rfl (by go_simp;rfl) ?_
 refine(Za1 (a:=1) (b:=4) (s:=⟨#[49]⟩) (t:=⟨#[52]⟩) (by decide) (by decide) (by decide) (by decide +kernel) _ (HT1.out.below (HBLa.out.trans (HSa1.out.mono HBLa.out.size)) (Nat.le_refl _)).tabs).mono ?_
 rintro e ax2 ⟨rfl,hb⟩
 have HSa2:Hid (Below V12.heap.size V12 ax2):=HSa1.out.trans (hb.mono HSa1.out.size)
 refine .inl ⟨_,rfl,HSa2.out,?_⟩
 clear hb HSa1
 simp only[Znc,Znd,Zne,Act.put,Znf,Zng,Znh]
 refine Zc _ rfl rfl (fun w' hS=>by skip;go_simp;first | rfl | (rw[if_pos (by omega)])) ?_
 simp only[Znc,Znd,Zne,Act.put,Znf,Zng,Znh]
 refine Zc _ rfl rfl (fun w' hS=>by skip;go_simp;first | rfl | (rw[if_pos (by omega)])) ?_
 simp only[Znc,Znd,Zne,Act.put,Znf,Zng,Znh]
 refine Zc _ rfl rfl (fun w' hS=>by skip;go_simp;first | rfl | (rw[if_pos (by omega)])) ?_
 simp only[Znc,Znd,Zne,Act.put,Znf,Zng,Znh]
 refine Zc _ rfl rfl (fun w' hS=>by have hE:=HEL.out.step hS;have b0:=hE.cell 5 0 (v:=.string ⟨#[49]⟩) rfl rfl;have b1:=hE.cell 5 1 (v:=.string ⟨#[56]⟩) rfl rfl;go_simp;first | rfl | (rw[if_pos (by omega)])) ?_
 simp only[Znc,Znd,Zne,Act.put,Znf,Zng,Znh]
 refine Zl 46 _ rfl rfl (by go_simp;rfl) ?_
 refine(Za1 (a:=1) (b:=8) (s:=⟨#[49]⟩) (t:=⟨#[56]⟩) (by decide) (by decide) (by decide) (by decide +kernel) _ (HT1.out.below (HBLa.out.trans (HSa2.out.mono HBLa.out.size)) (Nat.le_refl _)).tabs).mono ?_
 rintro e ax3 ⟨rfl,hb⟩
 have HSa3:Hid (Below V12.heap.size V12 ax3):=HSa2.out.trans (hb.mono HSa2.out.size)
 refine .inl ⟨_,rfl,HSa3.out,?_⟩
 clear hb HSa2
 simp only[Znc,Znd,Zne,Act.put,Znf,Zng,Znh]
 refine Zc _ rfl rfl (fun w' hS=>by skip;go_simp;first | rfl | (rw[if_pos (by omega)])) ?_
 simp only[Znc,Znd,Zne,Act.put,Znf,Zng,Znh]
 refine Zc _ rfl rfl (fun w' hS=>by skip;go_simp;first | rfl | (rw[if_pos (by omega)])) ?_
 simp only[Znc,Znd,Zne,Act.put,Znf,Zng,Znh]
 refine Zc _ rfl rfl (fun w' hS=>by skip;go_simp;first | rfl | (rw[if_pos (by omega)])) ?_
 simp only[Znc,Znd,Zne,Act.put,Znf,Zng,Znh]
 refine Zc _ rfl rfl (fun w' hS=>by have hE:=HEL.out.step hS;have b0:=hE.cell 4 0 (v:=.string ⟨#[49]⟩) rfl rfl;have b1:=hE.cell 4 1 (v:=.string ⟨#[56]⟩) rfl rfl;go_simp;first | rfl | (rw[if_pos (by omega)])) ?_
 simp only[Znc,Znd,Zne,Act.put,Znf,Zng,Znh]
 refine Zl 46 _ rfl rfl (by go_simp;rfl) ?_
 refine(Za1 (a:=1) (b:=8) (s:=⟨#[49]⟩) (t:=⟨#[56]⟩) (by decide) (by decide) (by decide) (by decide +kernel) _ (HT1.out.below (HBLa.out.trans (HSa3.out.mono HBLa.out.size)) (Nat.le_refl _)).tabs).mono ?_
 rintro e ax4 ⟨rfl,hb⟩
 have HSa4:Hid (Below V12.heap.size V12 ax4):=HSa3.out.trans (hb.mono HSa3.out.size)
 refine .inl ⟨_,rfl,HSa4.out,?_⟩
 clear hb HSa3
 simp only[Znc,Znd,Zne,Act.put,Znf,Zng,Znh]
 refine Zc _ rfl rfl (fun w' hS=>by skip;go_simp;first | rfl | (rw[if_pos (by omega)])) ?_
 simp only[Znc,Znd,Zne,Act.put,Znf,Zng,Znh]
 refine Zc _ rfl rfl (fun w' hS=>by skip;go_simp;first | rfl | (rw[if_pos (by omega)])) ?_
 simp only[Znc,Znd,Zne,Act.put,Znf,Zng,Znh]
 refine Zc _ rfl rfl (fun w' hS=>by skip;go_simp;first | rfl | (rw[if_pos (by omega)])) ?_
 simp only[Znc,Znd,Zne,Act.put,Znf,Zng,Znh]
 refine Zc _ rfl rfl (fun w' hS=>by have hE:=HEL.out.step hS;have b0:=hE.cell 3 0 (v:=.string ⟨#[49]⟩) rfl rfl;have b1:=hE.cell 3 1 (v:=.string ⟨#[56]⟩) rfl rfl;go_simp;first | rfl | (rw[if_pos (by omega)])) ?_
 simp only[Znc,Znd,Zne,Act.put,Znf,Zng,Znh]
 refine Zl 46 _ rfl rfl (by go_simp;rfl) ?_
 refine(Za1 (a:=1) (b:=8) (s:=⟨#[49]⟩) (t:=⟨#[56]⟩) (by decide) (by decide) (by decide) (by decide +kernel) _ (HT1.out.below (HBLa.out.trans (HSa4.out.mono HBLa.out.size)) (Nat.le_refl _)).tabs).mono ?_
 rintro e ax5 ⟨rfl,hb⟩
 have HSa5:Hid (Below V12.heap.size V12 ax5):=HSa4.out.trans (hb.mono HSa4.out.size)
 refine .inl ⟨_,rfl,HSa5.out,?_⟩
 clear hb HSa4
 simp only[Znc,Znd,Zne,Act.put,Znf,Zng,Znh]
 refine Zc _ rfl rfl (fun w' hS=>by skip;go_simp;first | rfl | (rw[if_pos (by omega)])) ?_
 simp only[Znc,Znd,Zne,Act.put,Znf,Zng,Znh]
 refine Zc _ rfl rfl (fun w' hS=>by skip;go_simp;first | rfl | (rw[if_pos (by omega)])) ?_
 simp only[Znc,Znd,Zne,Act.put,Znf,Zng,Znh]
 refine Zc _ rfl rfl (fun w' hS=>by skip;go_simp;first | rfl | (rw[if_pos (by omega)])) ?_
 simp only[Znc,Znd,Zne,Act.put,Znf,Zng,Znh]
 refine Zc _ rfl rfl (fun w' hS=>by skip;go_simp;first | rfl | (rw[if_pos (by omega)])) ?_
 simp only[Znc,Znd,Zne,Act.put,Znf,Zng,Znh]
 refine Zc _ rfl rfl (fun w' hS=>by skip;go_simp;first | rfl | (rw[if_pos (by omega)])) ?_
 simp only[Znc,Znd,Zne,Act.put,Znf,Zng,Znh]
 refine Zc _ rfl rfl (fun w' hS=>by skip;go_simp;first | rfl | (rw[if_pos (by omega)])) ?_
 simp only[Znc,Znd,Zne,Act.put,Znf,Zng,Znh]
 refine Zc _ rfl rfl (fun w' hS=>by skip;go_simp;first | rfl | (rw[if_pos (by omega)])) ?_
 simp only[Znc,Znd,Zne,Act.put,Znf,Zng,Znh]
 refine Zc _ rfl rfl (fun w' hS=>by skip;go_simp;first | rfl | (rw[if_pos (by omega)])) ?_
 simp only[Znc,Znd,Zne,Act.put,Znf,Zng,Znh]
 refine Zc _ rfl rfl (fun w' hS=>by skip;go_simp;first | rfl | (rw[if_pos (by omega)])) ?_
 simp only[Znc,Znd,Zne,Act.put,Znf,Zng,Znh]
 refine Zc _ rfl rfl (fun w' hS=>by skip;go_simp;first | rfl | (rw[if_pos (by omega)])) ?_
 simp only[Znc,Znd,Zne,Act.put,Znf,Zng,Znh]
 refine Zc _ rfl rfl (fun w' hS=>by obtain⟨b0,b1⟩:=HF7.out _ (HCL.out.trans (hS.mono HCL.out.size));go_simp;first | rfl | (rw[if_pos (by omega)])) ?_
 simp only[Znc,Znd,Zne,Act.put,Znf,Zng,Znh]
 refine Zl 46 _ rfl rfl (by go_simp;rfl) ?_
 refine(Za1 (a:=1) (b:=8) (s:=⟨#[49]⟩) (t:=⟨#[56]⟩) (by decide) (by decide) (by decide) (by decide +kernel) _ (HT1.out.below (HBLa.out.trans (HSa5.out.mono HBLa.out.size)) (Nat.le_refl _)).tabs).mono ?_
 rintro e ax6 ⟨rfl,hb⟩
 have HSa6:Hid (Below V12.heap.size V12 ax6):=HSa5.out.trans (hb.mono HSa5.out.size)
 refine .inl ⟨_,rfl,HSa6.out,?_⟩
 clear hb HSa5
 simp only[Znc,Znd,Zne,Act.put,Znf,Zng,Znh]
 refine Zc _ rfl rfl (fun w' hS=>by skip;go_simp;first | rfl | (rw[if_pos (by omega)])) ?_
 simp only[Znc,Znd,Zne,Act.put,Znf,Zng,Znh]
 refine Zc _ rfl rfl (fun w' hS=>by skip;go_simp;first | rfl | (rw[if_pos (by omega)])) ?_
 simp only[Znc,Znd,Zne,Act.put,Znf,Zng,Znh]
 refine Zn rfl rfl fun K hK=>?_
 go_simp
 refine hK _ _ (.inl rfl) ?_
 clear hK K
 refine Zq ?_
 have HBLb:Hid (Below V1.heap.size V1 ax6):=HB12.out.trans (HSa6.out.mono HB12.out.size)
 clear HEL
 have HEL:=Lib.hid (HE12.out.step HSa6.out)
 clear HE12 HB12 HC12 HCL HBLa HSa6
 go_upto_region 14 with (fail)
 refine ZG [(1,0),(0,1),(1,2),(1,3),(1,4),(0,5),(1,6),(1,7),(1,8),(1,9),(1,10),(1,11),(1,12),(1,13),(1,14),(0,15),(1,16),(1,17),(1,18),(1,19),(1,20),(0,21),(1,22),(1,23),(1,24),(1,25),(1,26),(1,27),(1,28),(1,29),(1,30),(1,31),(0,32)] (fun V=>Below ax6.heap.size ax6 V) (fun i=>i==32)
  (by kernel_rfl) (by kernel_rfl) (fun j hj=>by have h:33≤j:=hj;simp;omega) (fun _ _ o _ _ h=>by cases o<;>exact h) (Below.refl _ _).drew ?_
 obtain⟨bx0,hbx⟩:∃ z,ax6.drew=z:=⟨_,rfl⟩
 have HSb0:Hid (Below ax6.heap.size ax6 bx0):=by rw[← hbx];exact(Below.refl _ _).drew
 rw[hbx]
 clear hbx
 refine Zc _ rfl rfl (fun w' hS=>by have hE:=HEL.out.step hS;have b0:=hE.cell 2 0 (v:=.string ⟨#[57]⟩) rfl rfl;have b1:=hE.cell 2 1 (v:=.string ⟨#[49,54]⟩) rfl rfl;go_simp;first | rfl | (rw[if_pos (by omega)])) ?_
 simp only[Znc,Znd,Zne,Act.put,Znf,Zng,Znh]
 refine Zl 46 _ rfl rfl (by go_simp;rfl) ?_
 refine(Za1 (a:=9) (b:=16) (s:=⟨#[57]⟩) (t:=⟨#[49,54]⟩) (by decide) (by decide) (by decide) (by decide +kernel) _ (HT1.out.below (HBLb.out.trans (HSb0.out.mono HBLb.out.size)) (Nat.le_refl _)).tabs).mono ?_
 rintro e bx1 ⟨rfl,hb⟩
 have HSb1:Hid (Below ax6.heap.size ax6 bx1):=HSb0.out.trans (hb.mono HSb0.out.size)
 refine .inl ⟨_,rfl,HSb1.out,?_⟩
 clear hb HSb0
 simp only[Znc,Znd,Zne,Act.put,Znf,Zng,Znh]
 refine Zc _ rfl rfl (fun w' hS=>by skip;go_simp;first | rfl | (rw[if_pos (by omega)])) ?_
 simp only[Znc,Znd,Zne,Act.put,Znf,Zng,Znh]
 refine Zc _ rfl rfl (fun w' hS=>by skip;go_simp;first | rfl | (rw[if_pos (by omega)])) ?_
 simp only[Znc,Znd,Zne,Act.put,Znf,Zng,Znh]
 refine Zc _ rfl rfl (fun w' hS=>by have hE:=HEL.out.step hS;have b0:=hE.cell 1 0 (v:=.string ⟨#[50]⟩) rfl rfl;have b1:=hE.cell 1 1 (v:=.string ⟨#[49]⟩) rfl rfl;go_simp;first | rfl | (rw[if_pos (by omega)])) ?_
 simp only[Znc,Znd,Zne,Act.put,Znf,Zng,Znh]
 refine Zl 46 _ rfl rfl (by go_simp;rfl) ?_
 refine(Za1 (a:=2) (b:=1) (s:=⟨#[50]⟩) (t:=⟨#[49]⟩) (by decide) (by decide) (by decide) (by decide +kernel) _ (HT1.out.below (HBLb.out.trans (HSb1.out.mono HBLb.out.size)) (Nat.le_refl _)).tabs).mono ?_
 rintro e bx2 ⟨rfl,hb⟩
 have HSb2:Hid (Below ax6.heap.size ax6 bx2):=HSb1.out.trans (hb.mono HSb1.out.size)
 refine .inl ⟨_,rfl,HSb2.out,?_⟩
 clear hb HSb1
 simp only[Znc,Znd,Zne,Act.put,Znf,Zng,Znh]
 refine Zc _ rfl rfl (fun w' hS=>by skip;go_simp;first | rfl | (rw[if_pos (by omega)])) ?_
 simp only[Znc,Znd,Zne,Act.put,Znf,Zng,Znh]
 refine Zc _ rfl rfl (fun w' hS=>by skip;go_simp;first | rfl | (rw[if_pos (by omega)])) ?_
 simp only[Znc,Znd,Zne,Act.put,Znf,Zng,Znh]
 refine Zc _ rfl rfl (fun w' hS=>by skip;go_simp;first | rfl | (rw[if_pos (by omega)])) ?_
 simp only[Znc,Znd,Zne,Act.put,Znf,Zng,Znh]
 refine Zc _ rfl rfl (fun w' hS=>by skip;go_simp;first | rfl | (rw[if_pos (by omega)])) ?_
 simp only[Znc,Znd,Zne,Act.put,Znf,Zng,Znh]
 refine Zc _ rfl rfl (fun w' hS=>by skip;go_simp;first | rfl | (rw[if_pos (by omega)])) ?_
 simp only[Znc,Znd,Zne,Act.put,Znf,Zng,Znh]
 refine Zc _ rfl rfl (fun w' hS=>by skip;go_simp;first | rfl | (rw[if_pos (by omega)])) ?_
 simp only[Znc,Znd,Zne,Act.put,Znf,Zng,Znh]
 refine Zc _ rfl rfl (fun w' hS=>by skip;go_simp;first | rfl | (rw[if_pos (by omega)])) ?_
 simp only[Znc,Znd,Zne,Act.put,Znf,Zng,Znh]
 refine Zc _ rfl rfl (fun w' hS=>by skip;go_simp;first | rfl | (rw[if_pos (by omega)])) ?_
 simp only[Znc,Znd,Zne,Act.put,Znf,Zng,Znh]
 refine Zc _ rfl rfl (fun w' hS=>by have hE:=HEL.out.step hS;have b0:=hE.cell 0 6 (v:=.string ⟨#[48]⟩) rfl rfl;have b1:=hE.cell 0 7 (v:=.string ⟨#[49]⟩) rfl rfl;go_simp;first | rfl | (rw[if_pos (by omega)])) ?_
 simp only[Znc,Znd,Zne,Act.put,Znf,Zng,Znh]
 refine Zl 46 _ rfl rfl (by go_simp;rfl) ?_
 refine(Za1 (a:=0) (b:=1) (s:=⟨#[48]⟩) (t:=⟨#[49]⟩) (by decide) (by decide) (by decide) (by decide +kernel) _ (HT1.out.below (HBLb.out.trans (HSb2.out.mono HBLb.out.size)) (Nat.le_refl _)).tabs).mono ?_
 rintro e bx3 ⟨rfl,hb⟩
 have HSb3:Hid (Below ax6.heap.size ax6 bx3):=HSb2.out.trans (hb.mono HSb2.out.size)
 refine .inl ⟨_,rfl,HSb3.out,?_⟩
 clear hb HSb2
 simp only[Znc,Znd,Zne,Act.put,Znf,Zng,Znh]
 refine Zc _ rfl rfl (fun w' hS=>by skip;go_simp;first | rfl | (rw[if_pos (by omega)])) ?_
 simp only[Znc,Znd,Zne,Act.put,Znf,Zng,Znh]
 refine Zc _ rfl rfl (fun w' hS=>by skip;go_simp;first | rfl | (rw[if_pos (by omega)])) ?_
 simp only[Znc,Znd,Zne,Act.put,Znf,Zng,Znh]
 refine Zc _ rfl rfl (fun w' hS=>by skip;go_simp;first | rfl | (rw[if_pos (by omega)])) ?_
 simp only[Znc,Znd,Zne,Act.put,Znf,Zng,Znh]
 refine Zc _ rfl rfl (fun w' hS=>by skip;go_simp;first | rfl | (rw[if_pos (by omega)])) ?_
 simp only[Znc,Znd,Zne,Act.put,Znf,Zng,Znh]
 refine Zc _ rfl rfl (fun w' hS=>by have hE:=HEL.out.step hS;have b0:=hE.cell 0 1 (v:=.string ⟨#[51]⟩) rfl rfl;have b1:=hE.cell 0 2 (v:=.string ⟨#[56]⟩) rfl rfl;go_simp;first | rfl | (rw[if_pos (by omega)])) ?_
 simp only[Znc,Znd,Zne,Act.put,Znf,Zng,Znh]
 refine Zl 46 _ rfl rfl (by go_simp;rfl) ?_
 refine(Za1 (a:=3) (b:=8) (s:=⟨#[51]⟩) (t:=⟨#[56]⟩) (by decide) (by decide) (by decide) (by decide +kernel) _ (HT1.out.below (HBLb.out.trans (HSb3.out.mono HBLb.out.size)) (Nat.le_refl _)).tabs).mono ?_
 rintro e bx4 ⟨rfl,hb⟩
 have HSb4:Hid (Below ax6.heap.size ax6 bx4):=HSb3.out.trans (hb.mono HSb3.out.size)
 refine .inl ⟨_,rfl,HSb4.out,?_⟩
 clear hb HSb3
 simp only[Znc,Znd,Zne,Act.put,Znf,Zng,Znh]
 refine Zc _ rfl rfl (fun w' hS=>by skip;go_simp;first | rfl | (rw[if_pos (by omega)])) ?_
 simp only[Znc,Znd,Zne,Act.put,Znf,Zng,Znh]
 refine Zc _ rfl rfl (fun w' hS=>by skip;go_simp;first | rfl | (rw[if_pos (by omega)])) ?_
 simp only[Znc,Znd,Zne,Act.put,Znf,Zng,Znh]
 refine Zc _ rfl rfl (fun w' hS=>by skip;go_simp;first | rfl | (rw[if_pos (by omega)])) ?_
 simp only[Znc,Znd,Zne,Act.put,Znf,Zng,Znh]
 refine Zc _ rfl rfl (fun w' hS=>by skip;go_simp;first | rfl | (rw[if_pos (by omega)])) ?_
 simp only[Znc,Znd,Zne,Act.put,Znf,Zng,Znh]
 refine Zc _ rfl rfl (fun w' hS=>by skip;go_simp;first | rfl | (rw[if_pos (by omega)])) ?_
 simp only[Znc,Znd,Zne,Act.put,Znf,Zng,Znh]
 refine Zc _ rfl rfl (fun w' hS=>by skip;go_simp;first | rfl | (rw[if_pos (by omega)])) ?_
 simp only[Znc,Znd,Zne,Act.put,Znf,Zng,Znh]
 refine Zc _ rfl rfl (fun w' hS=>by skip;go_simp;first | rfl | (rw[if_pos (by omega)])) ?_
 simp only[Znc,Znd,Zne,Act.put,Znf,Zng,Znh]
 refine Zc _ rfl rfl (fun w' hS=>by skip;go_simp;first | rfl | (rw[if_pos (by omega)])) ?_
 simp only[Znc,Znd,Zne,Act.put,Znf,Zng,Znh]
 refine Zc _ rfl rfl (fun w' hS=>by skip;go_simp;first | rfl | (rw[if_pos (by omega)])) ?_
 simp only[Znc,Znd,Zne,Act.put,Znf,Zng,Znh]
 refine Zc _ rfl rfl (fun w' hS=>by skip;go_simp;first | rfl | (rw[if_pos (by omega)])) ?_
 simp only[Znc,Znd,Zne,Act.put,Znf,Zng,Znh]
 refine Zn rfl rfl fun K hK=>?_
 go_simp
 refine hK _ _ (.inl rfl) ?_
 clear hK K
 refine Zq ?_
 have HEZ:=Lib.hid (HEL.out.step HSb4.out)
 have HBZ:Hid (Below V1.heap.size V1 bx4):=HBLb.out.trans (HSb4.out.mono HBLb.out.size)
 clear HEL HBLb HSb4
 go_wp2_with fail
 have hTZ:=HT1.out.below HBZ.out (Nat.le_refl _)
 refine(ZkA _ hTZ.det hTZ.tabs hTZ.eff).mono ?_
 rintro e wZ ⟨rfl,hb⟩
 have HEY:=Lib.hid (HEZ.out.step hb)
 clear hb hTZ HEZ HBZ
 go_wp2
 exact bodyPost_ret (by simp[results,Tryz.f13,go_sem]) rfl ⟨rfl,HEY.out.base⟩
end Go.Proofs.YtmpaflidennnoaaGreatDoor
