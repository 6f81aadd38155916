/- The parts Along, DChance, DChance2 of a proof, put together by program (merge7.py). -/
import Derived.Test.YtmpaflidennnoaaGreatDoorH12
import Derived.Test.YtmpaflidennnoaaGreatDoorH15
import Derived.Test.YtmpaflidennnoaaGreatDoorH11
import Derived.Test.YtmpaflidennnoaaGreatDoorH14
set_option maxRecDepth 100000
set_option maxHeartbeats 4000000
set_option linter.unusedVariables false
set_option linter.unusedSimpArgs false
namespace Go.Proofs.YtmpaflidennnoaaGreatDoor
open Go.RowKit Go.Shelf
attribute [local go_sem ↓] Go.wp_at_zero Go.wp_at_succ
theorem Zk.six (w:World) (a b c d e f:Obj):Zk w.heap.size [a,b,c,d,e,f] ((((((w.alloc a).alloc b).alloc c).alloc d).alloc e).alloc f):=
 (((Zk.four w a b c d).snoc (by simp) e).snoc (by simp) f)
abbrev SA (g1 g2 g3 g4:Nat) (a1 b1 a2 b2 a3 b3 a4 b4:ByteArray) (w':World):Prop:=w'.cell? ⟨g1,0,none⟩=some (.string a1)∧w'.cell? ⟨g1,1,none⟩=some (.string b1)∧w'.cell? ⟨g2,0,none⟩=some (.string a2)∧w'.cell? ⟨g2,1,none⟩=some (.string b2)∧
 w'.cell? ⟨g3,0,none⟩=some (.string a3)∧w'.cell? ⟨g3,1,none⟩=some (.string b3)∧w'.cell? ⟨g4,0,none⟩=some (.string a4)∧w'.cell? ⟨g4,1,none⟩=some (.string b4)
theorem ZlE {X Y U V A:Rat} {xs xt ys yt us ut vs vt ao ap p1 q1 p2 q2 p3 q3 p4 q4 p5 q5 x y:ByteArray} (hx:IsP X xs xt) (hy:IsP Y ys yt) (hu:IsP U us ut) (hv:IsP V vs vt) (ha:IsP A ao ap)
  (h1:IsP (V-U) p1 q1) (h2:IsP (Y-X) p2 q2) (h3:IsP ((V-U)/(Y-X)) p3 q3) (hp:0<Y-X) (h4:IsP (A-X) p4 q4) (h5:IsP ((V-U)/(Y-X)*(A-X)) p5 q5) (h6:IsP (U+(V-U)/(Y-X)*(A-X)) x y)
  (w:World) (hT:Tabs w):Calls Tryz.prog 227 #[pV xs xt,pV ys yt,pV us ut,pV vs vt,pV ao ap] w (Z7 (pV x y) w):=by
 have HX:=Lib.hid hx
 have HY:=Lib.hid hy
 have HU:=Lib.hid hu
 have HV:=Lib.hid hv
 have HA:=Lib.hid ha
 have H1:=Lib.hid h1
 have H2:=Lib.hid h2
 have H3:=Lib.hid h3
 have H4:=Lib.hid h4
 have H5:=Lib.hid h5
 have H6:=Lib.hid h6
 have HP:=Lib.hid hp
 have HT:=Lib.hid hT
 clear hx hy hu hv ha h1 h2 h3 h4 h5 h6 hp hT
 go_enter Tryz.func227,Tryz.ntmps227
 go_wp2_with fail
 obtain⟨W,hW⟩:∃ W,(((((w.alloc (pObj xs xt)).alloc (pObj ys yt)).alloc (pObj us ut)).alloc (pObj vs vt)).alloc (pObj ao ap)).alloc (pObj ⟨#[]⟩ ⟨#[]⟩)=W:=⟨_,rfl⟩
 rw[hW]
 have HXB:Hid (Zk w.heap.size [pObj xs xt,pObj ys yt,pObj us ut,pObj vs vt,pObj ao ap,pObj ⟨#[]⟩ ⟨#[]⟩] W):=by rw[← hW];exact Zk.six w _ _ _ _ _ _
 have HBW:Hid (Below w.heap.size w W):=by rw[← hW];exact((((((Below.refl _ w).alloc (Nat.le_refl _) _).alloc (by simp) _).alloc (by simp<;>omega) _).alloc (by simp<;>omega) _).alloc (by simp<;>omega) _).alloc (by simp<;>omega) _
 have hS:∀ w',Below W.heap.size W w'→SA w.heap.size (w.heap.size+1) (w.heap.size+1+1) (w.heap.size+1+1+1) xs xt ys yt us ut vs vt w':=fun w' h=>by
  have hx:=HXB.out.below h HXB.out.lt
  exact⟨hx.cell 0 0 (b:=w.heap.size) rfl rfl rfl,hx.cell 0 1 (b:=w.heap.size) rfl rfl rfl,hx.cell 1 0 (b:=w.heap.size+1) rfl rfl rfl,hx.cell 1 1 (b:=w.heap.size+1) rfl rfl rfl,
   hx.cell 2 0 (b:=w.heap.size+1+1) rfl rfl rfl,hx.cell 2 1 (b:=w.heap.size+1+1) rfl rfl rfl,hx.cell 3 0 (b:=w.heap.size+1+1+1) rfl rfl rfl,hx.cell 3 1 (b:=w.heap.size+1+1+1) rfl rfl rfl⟩
 have HS:=Lib.hid hS
 have HTW:Hid (Tabs W):=HT.out.below HBW.out (Nat.le_refl _)
 have HW0:Hid (Below W.heap.size W W.drew):=(Below.refl _ W).drew
 clear hW hS
 refine Zjb 16 [(false,17)] [(true,0),(true,1),(true,6),(true,7),(false,2),(true,3),(true,4),(false,5),(false,8),(true,9),(true,10),(false,11),(false,12),(true,13),(true,14),(false,15)] (SA w.heap.size (w.heap.size+1) (w.heap.size+1+1) (w.heap.size+1+1+1) xs xt ys yt us ut vs vt)
  (by kernel_rfl) (by kernel_rfl) (fun _ _ o _ _ h=>by cases o<;>exact h) (HS.out _ HW0.out) ?_
 obtain⟨w0,hw0⟩:∃ z,W.drew=z:=⟨_,rfl⟩
 rw[hw0] at HW0 ⊢
 clear hw0
 iterate 4
  refine Zda _ rfl rfl (fun w' hS=>by obtain⟨a0,a1,b0,b1,c0,c1,d0,d1⟩:=hS;go_simp;rfl) ?_
  simp only[Act.put,List.setIfInBounds_toArray,List.set_cons_zero,List.set_cons_succ]
 refine Zbq rfl rfl rfl rfl (fun K hK=>?_) (fun K hK=>?_)
 go_simp
 have HW20:Hid (Below W.heap.size W (w0.alloc (pObj ⟨#[]⟩ ⟨#[]⟩))):=HW0.out.alloc HW0.out.size _
 refine hK _ _ (HS.out _ HW20.out) ?_
 clear hK K
 obtain⟨G,hG⟩:∃ G,w0.heap.size=G:=⟨_,rfl⟩
 have hGW:W.heap.size≤G:=by rw[← hG];exact HW0.out.size
 have hbk:(w0.alloc (pObj ⟨#[]⟩ ⟨#[]⟩)).heap[G]?=some (pObj ⟨#[]⟩ ⟨#[]⟩):=by rw[← hG];exact World.alloc_heap_new w0 _
 rw[hG]
 obtain⟨w20,hw20⟩:∃ z,w0.alloc (pObj ⟨#[]⟩ ⟨#[]⟩)=z:=⟨_,rfl⟩
 rw[hw20] at HW20 hbk ⊢
 have HG:Hid (w20.heap[G]?=some (pObj ⟨#[]⟩ ⟨#[]⟩)∧G<w20.heap.size):=⟨hbk,(Array.getElem?_eq_some_iff.1 hbk).1⟩
 have HV20:Hid (Below w20.heap.size w20 w20):=Below.refl _ _
 clear hw20 hG hbk
 refine Ze rfl rfl fun K hK=>?_
 go_simp
 go_at_call 104
 refine(Zbw HV.out HU.out H1.out rfl _ (HTW.out.below HW20.out (Nat.le_refl _))).mono ?_
 rintro e w21 ⟨rfl,hb⟩
 have HV21:Hid (Below w20.heap.size w20 w21):=HV20.out.trans (hb.mono HV20.out.size)
 have HW21:Hid (Below W.heap.size W w21):=HW20.out.trans (HV21.out.mono HW20.out.size)
 have hS9:=HS.out w21 HW21.out
 refine hK _ _ (.inr hS9) ?_
 clear hK K hb hS9
 iterate 2
  refine Zi _ rfl rfl (fun w' hS=>by go_simp;rfl) ?_
  simp only[Act.put,List.setIfInBounds_toArray,List.set_cons_zero,List.set_cons_succ]
 refine Ze rfl rfl fun K hK=>?_
 go_simp
 go_at_call 180
 refine(ZR p1 q1 _).mono ?_
 rintro e w22 ⟨rfl,hb⟩
 have HV22:Hid (Below w20.heap.size w20 w22):=HV21.out.trans (hb.mono HV21.out.size)
 have HW22:Hid (Below W.heap.size W w22):=HW20.out.trans (HV22.out.mono HW20.out.size)
 have hS9:=HS.out w22 HW22.out
 refine hK _ _ (.inr hS9) ?_
 clear hK K hb hS9
 refine Ze rfl rfl fun K hK=>?_
 go_simp
 go_at_call 104
 refine(Zbw HY.out HX.out H2.out rfl _ (HTW.out.below HW22.out (Nat.le_refl _))).mono ?_
 rintro e w23 ⟨rfl,hb⟩
 have HV23:Hid (Below w20.heap.size w20 w23):=HV22.out.trans (hb.mono HV22.out.size)
 have HW23:Hid (Below W.heap.size W w23):=HW20.out.trans (HV23.out.mono HW20.out.size)
 have hS9:=HS.out w23 HW23.out
 refine hK _ _ (.inr hS9) ?_
 clear hK K hb hS9
 iterate 2
  refine Zi _ rfl rfl (fun w' hS=>by go_simp;rfl) ?_
  simp only[Act.put,List.setIfInBounds_toArray,List.set_cons_zero,List.set_cons_succ]
 refine Ze rfl rfl fun K hK=>?_
 go_simp
 go_at_call 180
 refine(ZR p2 q2 _).mono ?_
 rintro e w24 ⟨rfl,hb⟩
 have HV24:Hid (Below w20.heap.size w20 w24):=HV23.out.trans (hb.mono HV23.out.size)
 have HW24:Hid (Below W.heap.size W w24):=HW20.out.trans (HV24.out.mono HW20.out.size)
 have hS9:=HS.out w24 HW24.out
 refine hK _ _ (.inr hS9) ?_
 clear hK K hb hS9
 refine Ze rfl rfl fun K hK=>?_
 go_simp
 go_at_call 169
 refine(ZcU H1.out H2.out H3.out HP.out rfl _ (HTW.out.below HW24.out (Nat.le_refl _))).mono ?_
 rintro e w25 ⟨rfl,hb⟩
 have HV25:Hid (Below w20.heap.size w20 w25):=HV24.out.trans (hb.mono HV24.out.size)
 have HW25:Hid (Below W.heap.size W w25):=HW20.out.trans (HV25.out.mono HW20.out.size)
 have hS9:=HS.out w25 HW25.out
 refine hK _ _ (.inr hS9) ?_
 clear hK K hb hS9
 iterate 2
  refine Zi _ rfl rfl (fun w' hS=>by go_simp;rfl) ?_
  simp only[Act.put,List.setIfInBounds_toArray,List.set_cons_zero,List.set_cons_succ]
 refine Ze rfl rfl fun K hK=>?_
 go_simp
 go_at_call 180
 refine(ZR p3 q3 _).mono ?_
 rintro e w26 ⟨rfl,hb⟩
 have HV26:Hid (Below w20.heap.size w20 w26):=HV25.out.trans (hb.mono HV25.out.size)
 have HW26:Hid (Below W.heap.size W w26):=HW20.out.trans (HV26.out.mono HW20.out.size)
 have hS9:=HS.out w26 HW26.out
 refine hK _ _ (.inr hS9) ?_
 clear hK K hb hS9
 have hbk:w26.heap[G]?=some (pObj ⟨#[]⟩ ⟨#[]⟩):=(HV26.out.block G HG.out.2).trans HG.out.1
 have r0:=Za hbk 0 rfl
 have r1:=Za hbk 1 rfl
 have f0:=Zb hbk 0
 have f1:=Zb hbk 1
 refine Ze rfl rfl fun K hK=>?_
 go_simp
 have q:=Zh hbk (.string p3) (.string q3)
 have HW8:Hid (Below W.heap.size W ((w26.setCell ⟨G,0,none⟩ (.string p3)).setCell ⟨G,1,none⟩ (.string q3))):=Zf HW26.out hGW (.string p3) (.string q3)
 have hS9:=HS.out _ HW8.out
 refine hK _ _ (.inr hS9) ?_
 clear hK K hS9
 refine Zt ?_
 obtain⟨Z,hZ⟩:∃ Z,(w26.setCell ⟨G,0,none⟩ (.string p3)).setCell ⟨G,1,none⟩ (.string q3)=Z:=⟨_,rfl⟩
 rw[hZ] at q HW8 ⊢
 clear hZ r0 r1 f0 f1 hbk
 rotate_left
 go_simp
 go_at_call 104
 refine(Zbw HV.out HU.out H1.out rfl _ (HTW.out.below HW0.out (Nat.le_refl _))).mono ?_
 rintro e w1 ⟨rfl,hb⟩
 have HW1:Hid (Below W.heap.size W w1):=HW0.out.trans (hb.mono HW0.out.size)
 have hS9:=HS.out w1 HW1.out
 refine hK _ _ hS9 ?_
 clear hK K hb hS9
 iterate 2
  refine Zda _ rfl rfl (fun w' hS=>by go_simp;rfl) ?_
  simp only[Act.put,List.setIfInBounds_toArray,List.set_cons_zero,List.set_cons_succ]
 refine Zbq rfl rfl rfl rfl (fun K hK=>?_) (fun K hK=>?_)
 go_simp
 have HW20:Hid (Below W.heap.size W (w1.alloc (pObj ⟨#[]⟩ ⟨#[]⟩))):=HW1.out.alloc HW1.out.size _
 refine hK _ _ (HS.out _ HW20.out) ?_
 clear hK K
 obtain⟨G,hG⟩:∃ G,w1.heap.size=G:=⟨_,rfl⟩
 have hGW:W.heap.size≤G:=by rw[← hG];exact HW1.out.size
 have hbk:(w1.alloc (pObj ⟨#[]⟩ ⟨#[]⟩)).heap[G]?=some (pObj ⟨#[]⟩ ⟨#[]⟩):=by rw[← hG];exact World.alloc_heap_new w1 _
 rw[hG]
 obtain⟨w20,hw20⟩:∃ z,w1.alloc (pObj ⟨#[]⟩ ⟨#[]⟩)=z:=⟨_,rfl⟩
 rw[hw20] at HW20 hbk ⊢
 have HG:Hid (w20.heap[G]?=some (pObj ⟨#[]⟩ ⟨#[]⟩)∧G<w20.heap.size):=⟨hbk,(Array.getElem?_eq_some_iff.1 hbk).1⟩
 have HV20:Hid (Below w20.heap.size w20 w20):=Below.refl _ _
 clear hw20 hG hbk
 refine Ze rfl rfl fun K hK=>?_
 go_simp
 go_at_call 180
 refine(ZR p1 q1 _).mono ?_
 rintro e w21 ⟨rfl,hb⟩
 have HV21:Hid (Below w20.heap.size w20 w21):=HV20.out.trans (hb.mono HV20.out.size)
 have HW21:Hid (Below W.heap.size W w21):=HW20.out.trans (HV21.out.mono HW20.out.size)
 have hS9:=HS.out w21 HW21.out
 refine hK _ _ (.inr hS9) ?_
 clear hK K hb hS9
 refine Ze rfl rfl fun K hK=>?_
 go_simp
 go_at_call 104
 refine(Zbw HY.out HX.out H2.out rfl _ (HTW.out.below HW21.out (Nat.le_refl _))).mono ?_
 rintro e w22 ⟨rfl,hb⟩
 have HV22:Hid (Below w20.heap.size w20 w22):=HV21.out.trans (hb.mono HV21.out.size)
 have HW22:Hid (Below W.heap.size W w22):=HW20.out.trans (HV22.out.mono HW20.out.size)
 have hS9:=HS.out w22 HW22.out
 refine hK _ _ (.inr hS9) ?_
 clear hK K hb hS9
 iterate 2
  refine Zi _ rfl rfl (fun w' hS=>by go_simp;rfl) ?_
  simp only[Act.put,List.setIfInBounds_toArray,List.set_cons_zero,List.set_cons_succ]
 refine Ze rfl rfl fun K hK=>?_
 go_simp
 go_at_call 180
 refine(ZR p2 q2 _).mono ?_
 rintro e w23 ⟨rfl,hb⟩
 have HV23:Hid (Below w20.heap.size w20 w23):=HV22.out.trans (hb.mono HV22.out.size)
 have HW23:Hid (Below W.heap.size W w23):=HW20.out.trans (HV23.out.mono HW20.out.size)
 have hS9:=HS.out w23 HW23.out
 refine hK _ _ (.inr hS9) ?_
 clear hK K hb hS9
 refine Ze rfl rfl fun K hK=>?_
 go_simp
 go_at_call 169
 refine(ZcU H1.out H2.out H3.out HP.out rfl _ (HTW.out.below HW23.out (Nat.le_refl _))).mono ?_
 rintro e w24 ⟨rfl,hb⟩
 have HV24:Hid (Below w20.heap.size w20 w24):=HV23.out.trans (hb.mono HV23.out.size)
 have HW24:Hid (Below W.heap.size W w24):=HW20.out.trans (HV24.out.mono HW20.out.size)
 have hS9:=HS.out w24 HW24.out
 refine hK _ _ (.inr hS9) ?_
 clear hK K hb hS9
 iterate 2
  refine Zi _ rfl rfl (fun w' hS=>by go_simp;rfl) ?_
  simp only[Act.put,List.setIfInBounds_toArray,List.set_cons_zero,List.set_cons_succ]
 refine Ze rfl rfl fun K hK=>?_
 go_simp
 go_at_call 180
 refine(ZR p3 q3 _).mono ?_
 rintro e w25 ⟨rfl,hb⟩
 have HV25:Hid (Below w20.heap.size w20 w25):=HV24.out.trans (hb.mono HV24.out.size)
 have HW25:Hid (Below W.heap.size W w25):=HW20.out.trans (HV25.out.mono HW20.out.size)
 have hS9:=HS.out w25 HW25.out
 refine hK _ _ (.inr hS9) ?_
 clear hK K hb hS9
 have hbk:w25.heap[G]?=some (pObj ⟨#[]⟩ ⟨#[]⟩):=(HV25.out.block G HG.out.2).trans HG.out.1
 have r0:=Za hbk 0 rfl
 have r1:=Za hbk 1 rfl
 have f0:=Zb hbk 0
 have f1:=Zb hbk 1
 refine Ze rfl rfl fun K hK=>?_
 go_simp
 have q:=Zh hbk (.string p3) (.string q3)
 have HW8:Hid (Below W.heap.size W ((w25.setCell ⟨G,0,none⟩ (.string p3)).setCell ⟨G,1,none⟩ (.string q3))):=Zf HW25.out hGW (.string p3) (.string q3)
 have hS9:=HS.out _ HW8.out
 refine hK _ _ (.inr hS9) ?_
 clear hK K hS9
 refine Zt ?_
 obtain⟨Z,hZ⟩:∃ Z,(w25.setCell ⟨G,0,none⟩ (.string p3)).setCell ⟨G,1,none⟩ (.string q3)=Z:=⟨_,rfl⟩
 rw[hZ] at q HW8 ⊢
 clear hZ r0 r1 f0 f1 hbk
 rotate_left
 go_simp
 go_at_call 180
 refine(ZR p1 q1 _).mono ?_
 rintro e w2 ⟨rfl,hb⟩
 have HW2:Hid (Below W.heap.size W w2):=HW1.out.trans (hb.mono HW1.out.size)
 have hS9:=HS.out w2 HW2.out
 refine hK _ _ hS9 ?_
 clear hK K hb hS9
 refine Zbq rfl rfl rfl rfl (fun K hK=>?_) (fun K hK=>?_)
 go_simp
 have HW20:Hid (Below W.heap.size W (w2.alloc (pObj ⟨#[]⟩ ⟨#[]⟩))):=HW2.out.alloc HW2.out.size _
 refine hK _ _ (HS.out _ HW20.out) ?_
 clear hK K
 obtain⟨G,hG⟩:∃ G,w2.heap.size=G:=⟨_,rfl⟩
 have hGW:W.heap.size≤G:=by rw[← hG];exact HW2.out.size
 have hbk:(w2.alloc (pObj ⟨#[]⟩ ⟨#[]⟩)).heap[G]?=some (pObj ⟨#[]⟩ ⟨#[]⟩):=by rw[← hG];exact World.alloc_heap_new w2 _
 rw[hG]
 obtain⟨w20,hw20⟩:∃ z,w2.alloc (pObj ⟨#[]⟩ ⟨#[]⟩)=z:=⟨_,rfl⟩
 rw[hw20] at HW20 hbk ⊢
 have HG:Hid (w20.heap[G]?=some (pObj ⟨#[]⟩ ⟨#[]⟩)∧G<w20.heap.size):=⟨hbk,(Array.getElem?_eq_some_iff.1 hbk).1⟩
 have HV20:Hid (Below w20.heap.size w20 w20):=Below.refl _ _
 clear hw20 hG hbk
 refine Ze rfl rfl fun K hK=>?_
 go_simp
 go_at_call 104
 refine(Zbw HY.out HX.out H2.out rfl _ (HTW.out.below HW20.out (Nat.le_refl _))).mono ?_
 rintro e w21 ⟨rfl,hb⟩
 have HV21:Hid (Below w20.heap.size w20 w21):=HV20.out.trans (hb.mono HV20.out.size)
 have HW21:Hid (Below W.heap.size W w21):=HW20.out.trans (HV21.out.mono HW20.out.size)
 have hS9:=HS.out w21 HW21.out
 refine hK _ _ (.inr hS9) ?_
 clear hK K hb hS9
 iterate 2
  refine Zi _ rfl rfl (fun w' hS=>by go_simp;rfl) ?_
  simp only[Act.put,List.setIfInBounds_toArray,List.set_cons_zero,List.set_cons_succ]
 refine Ze rfl rfl fun K hK=>?_
 go_simp
 go_at_call 180
 refine(ZR p2 q2 _).mono ?_
 rintro e w22 ⟨rfl,hb⟩
 have HV22:Hid (Below w20.heap.size w20 w22):=HV21.out.trans (hb.mono HV21.out.size)
 have HW22:Hid (Below W.heap.size W w22):=HW20.out.trans (HV22.out.mono HW20.out.size)
 have hS9:=HS.out w22 HW22.out
 refine hK _ _ (.inr hS9) ?_
 clear hK K hb hS9
 refine Ze rfl rfl fun K hK=>?_
 go_simp
 go_at_call 169
 refine(ZcU H1.out H2.out H3.out HP.out rfl _ (HTW.out.below HW22.out (Nat.le_refl _))).mono ?_
 rintro e w23 ⟨rfl,hb⟩
 have HV23:Hid (Below w20.heap.size w20 w23):=HV22.out.trans (hb.mono HV22.out.size)
 have HW23:Hid (Below W.heap.size W w23):=HW20.out.trans (HV23.out.mono HW20.out.size)
 have hS9:=HS.out w23 HW23.out
 refine hK _ _ (.inr hS9) ?_
 clear hK K hb hS9
 iterate 2
  refine Zi _ rfl rfl (fun w' hS=>by go_simp;rfl) ?_
  simp only[Act.put,List.setIfInBounds_toArray,List.set_cons_zero,List.set_cons_succ]
 refine Ze rfl rfl fun K hK=>?_
 go_simp
 go_at_call 180
 refine(ZR p3 q3 _).mono ?_
 rintro e w24 ⟨rfl,hb⟩
 have HV24:Hid (Below w20.heap.size w20 w24):=HV23.out.trans (hb.mono HV23.out.size)
 have HW24:Hid (Below W.heap.size W w24):=HW20.out.trans (HV24.out.mono HW20.out.size)
 have hS9:=HS.out w24 HW24.out
 refine hK _ _ (.inr hS9) ?_
 clear hK K hb hS9
 have hbk:w24.heap[G]?=some (pObj ⟨#[]⟩ ⟨#[]⟩):=(HV24.out.block G HG.out.2).trans HG.out.1
 have r0:=Za hbk 0 rfl
 have r1:=Za hbk 1 rfl
 have f0:=Zb hbk 0
 have f1:=Zb hbk 1
 refine Ze rfl rfl fun K hK=>?_
 go_simp
 have q:=Zh hbk (.string p3) (.string q3)
 have HW8:Hid (Below W.heap.size W ((w24.setCell ⟨G,0,none⟩ (.string p3)).setCell ⟨G,1,none⟩ (.string q3))):=Zf HW24.out hGW (.string p3) (.string q3)
 have hS9:=HS.out _ HW8.out
 refine hK _ _ (.inr hS9) ?_
 clear hK K hS9
 refine Zt ?_
 obtain⟨Z,hZ⟩:∃ Z,(w24.setCell ⟨G,0,none⟩ (.string p3)).setCell ⟨G,1,none⟩ (.string q3)=Z:=⟨_,rfl⟩
 rw[hZ] at q HW8 ⊢
 clear hZ r0 r1 f0 f1 hbk
 rotate_left
 go_simp
 go_at_call 104
 refine(Zbw HY.out HX.out H2.out rfl _ (HTW.out.below HW2.out (Nat.le_refl _))).mono ?_
 rintro e w3 ⟨rfl,hb⟩
 have HW3:Hid (Below W.heap.size W w3):=HW2.out.trans (hb.mono HW2.out.size)
 have hS9:=HS.out w3 HW3.out
 refine hK _ _ hS9 ?_
 clear hK K hb hS9
 iterate 2
  refine Zda _ rfl rfl (fun w' hS=>by go_simp;rfl) ?_
  simp only[Act.put,List.setIfInBounds_toArray,List.set_cons_zero,List.set_cons_succ]
 refine Zbq rfl rfl rfl rfl (fun K hK=>?_) (fun K hK=>?_)
 go_simp
 have HW20:Hid (Below W.heap.size W (w3.alloc (pObj ⟨#[]⟩ ⟨#[]⟩))):=HW3.out.alloc HW3.out.size _
 refine hK _ _ (HS.out _ HW20.out) ?_
 clear hK K
 obtain⟨G,hG⟩:∃ G,w3.heap.size=G:=⟨_,rfl⟩
 have hGW:W.heap.size≤G:=by rw[← hG];exact HW3.out.size
 have hbk:(w3.alloc (pObj ⟨#[]⟩ ⟨#[]⟩)).heap[G]?=some (pObj ⟨#[]⟩ ⟨#[]⟩):=by rw[← hG];exact World.alloc_heap_new w3 _
 rw[hG]
 obtain⟨w20,hw20⟩:∃ z,w3.alloc (pObj ⟨#[]⟩ ⟨#[]⟩)=z:=⟨_,rfl⟩
 rw[hw20] at HW20 hbk ⊢
 have HG:Hid (w20.heap[G]?=some (pObj ⟨#[]⟩ ⟨#[]⟩)∧G<w20.heap.size):=⟨hbk,(Array.getElem?_eq_some_iff.1 hbk).1⟩
 have HV20:Hid (Below w20.heap.size w20 w20):=Below.refl _ _
 clear hw20 hG hbk
 refine Ze rfl rfl fun K hK=>?_
 go_simp
 go_at_call 180
 refine(ZR p2 q2 _).mono ?_
 rintro e w21 ⟨rfl,hb⟩
 have HV21:Hid (Below w20.heap.size w20 w21):=HV20.out.trans (hb.mono HV20.out.size)
 have HW21:Hid (Below W.heap.size W w21):=HW20.out.trans (HV21.out.mono HW20.out.size)
 have hS9:=HS.out w21 HW21.out
 refine hK _ _ (.inr hS9) ?_
 clear hK K hb hS9
 refine Ze rfl rfl fun K hK=>?_
 go_simp
 go_at_call 169
 refine(ZcU H1.out H2.out H3.out HP.out rfl _ (HTW.out.below HW21.out (Nat.le_refl _))).mono ?_
 rintro e w22 ⟨rfl,hb⟩
 have HV22:Hid (Below w20.heap.size w20 w22):=HV21.out.trans (hb.mono HV21.out.size)
 have HW22:Hid (Below W.heap.size W w22):=HW20.out.trans (HV22.out.mono HW20.out.size)
 have hS9:=HS.out w22 HW22.out
 refine hK _ _ (.inr hS9) ?_
 clear hK K hb hS9
 iterate 2
  refine Zi _ rfl rfl (fun w' hS=>by go_simp;rfl) ?_
  simp only[Act.put,List.setIfInBounds_toArray,List.set_cons_zero,List.set_cons_succ]
 refine Ze rfl rfl fun K hK=>?_
 go_simp
 go_at_call 180
 refine(ZR p3 q3 _).mono ?_
 rintro e w23 ⟨rfl,hb⟩
 have HV23:Hid (Below w20.heap.size w20 w23):=HV22.out.trans (hb.mono HV22.out.size)
 have HW23:Hid (Below W.heap.size W w23):=HW20.out.trans (HV23.out.mono HW20.out.size)
 have hS9:=HS.out w23 HW23.out
 refine hK _ _ (.inr hS9) ?_
 clear hK K hb hS9
 have hbk:w23.heap[G]?=some (pObj ⟨#[]⟩ ⟨#[]⟩):=(HV23.out.block G HG.out.2).trans HG.out.1
 have r0:=Za hbk 0 rfl
 have r1:=Za hbk 1 rfl
 have f0:=Zb hbk 0
 have f1:=Zb hbk 1
 refine Ze rfl rfl fun K hK=>?_
 go_simp
 have q:=Zh hbk (.string p3) (.string q3)
 have HW8:Hid (Below W.heap.size W ((w23.setCell ⟨G,0,none⟩ (.string p3)).setCell ⟨G,1,none⟩ (.string q3))):=Zf HW23.out hGW (.string p3) (.string q3)
 have hS9:=HS.out _ HW8.out
 refine hK _ _ (.inr hS9) ?_
 clear hK K hS9
 refine Zt ?_
 obtain⟨Z,hZ⟩:∃ Z,(w23.setCell ⟨G,0,none⟩ (.string p3)).setCell ⟨G,1,none⟩ (.string q3)=Z:=⟨_,rfl⟩
 rw[hZ] at q HW8 ⊢
 clear hZ r0 r1 f0 f1 hbk
 rotate_left
 go_simp
 go_at_call 180
 refine(ZR p2 q2 _).mono ?_
 rintro e w4 ⟨rfl,hb⟩
 have HW4:Hid (Below W.heap.size W w4):=HW3.out.trans (hb.mono HW3.out.size)
 have hS9:=HS.out w4 HW4.out
 refine hK _ _ hS9 ?_
 clear hK K hb hS9
 refine Zbq rfl rfl rfl rfl (fun K hK=>?_) (fun K hK=>?_)
 go_simp
 have HW20:Hid (Below W.heap.size W (w4.alloc (pObj ⟨#[]⟩ ⟨#[]⟩))):=HW4.out.alloc HW4.out.size _
 refine hK _ _ (HS.out _ HW20.out) ?_
 clear hK K
 obtain⟨G,hG⟩:∃ G,w4.heap.size=G:=⟨_,rfl⟩
 have hGW:W.heap.size≤G:=by rw[← hG];exact HW4.out.size
 have hbk:(w4.alloc (pObj ⟨#[]⟩ ⟨#[]⟩)).heap[G]?=some (pObj ⟨#[]⟩ ⟨#[]⟩):=by rw[← hG];exact World.alloc_heap_new w4 _
 rw[hG]
 obtain⟨w20,hw20⟩:∃ z,w4.alloc (pObj ⟨#[]⟩ ⟨#[]⟩)=z:=⟨_,rfl⟩
 rw[hw20] at HW20 hbk ⊢
 have HG:Hid (w20.heap[G]?=some (pObj ⟨#[]⟩ ⟨#[]⟩)∧G<w20.heap.size):=⟨hbk,(Array.getElem?_eq_some_iff.1 hbk).1⟩
 have HV20:Hid (Below w20.heap.size w20 w20):=Below.refl _ _
 clear hw20 hG hbk
 refine Ze rfl rfl fun K hK=>?_
 go_simp
 go_at_call 169
 refine(ZcU H1.out H2.out H3.out HP.out rfl _ (HTW.out.below HW20.out (Nat.le_refl _))).mono ?_
 rintro e w21 ⟨rfl,hb⟩
 have HV21:Hid (Below w20.heap.size w20 w21):=HV20.out.trans (hb.mono HV20.out.size)
 have HW21:Hid (Below W.heap.size W w21):=HW20.out.trans (HV21.out.mono HW20.out.size)
 have hS9:=HS.out w21 HW21.out
 refine hK _ _ (.inr hS9) ?_
 clear hK K hb hS9
 iterate 2
  refine Zi _ rfl rfl (fun w' hS=>by go_simp;rfl) ?_
  simp only[Act.put,List.setIfInBounds_toArray,List.set_cons_zero,List.set_cons_succ]
 refine Ze rfl rfl fun K hK=>?_
 go_simp
 go_at_call 180
 refine(ZR p3 q3 _).mono ?_
 rintro e w22 ⟨rfl,hb⟩
 have HV22:Hid (Below w20.heap.size w20 w22):=HV21.out.trans (hb.mono HV21.out.size)
 have HW22:Hid (Below W.heap.size W w22):=HW20.out.trans (HV22.out.mono HW20.out.size)
 have hS9:=HS.out w22 HW22.out
 refine hK _ _ (.inr hS9) ?_
 clear hK K hb hS9
 have hbk:w22.heap[G]?=some (pObj ⟨#[]⟩ ⟨#[]⟩):=(HV22.out.block G HG.out.2).trans HG.out.1
 have r0:=Za hbk 0 rfl
 have r1:=Za hbk 1 rfl
 have f0:=Zb hbk 0
 have f1:=Zb hbk 1
 refine Ze rfl rfl fun K hK=>?_
 go_simp
 have q:=Zh hbk (.string p3) (.string q3)
 have HW8:Hid (Below W.heap.size W ((w22.setCell ⟨G,0,none⟩ (.string p3)).setCell ⟨G,1,none⟩ (.string q3))):=Zf HW22.out hGW (.string p3) (.string q3)
 have hS9:=HS.out _ HW8.out
 refine hK _ _ (.inr hS9) ?_
 clear hK K hS9
 refine Zt ?_
 obtain⟨Z,hZ⟩:∃ Z,(w22.setCell ⟨G,0,none⟩ (.string p3)).setCell ⟨G,1,none⟩ (.string q3)=Z:=⟨_,rfl⟩
 rw[hZ] at q HW8 ⊢
 clear hZ r0 r1 f0 f1 hbk
 rotate_left
 go_simp
 go_at_call 169
 refine(ZcU H1.out H2.out H3.out HP.out rfl _ (HTW.out.below HW4.out (Nat.le_refl _))).mono ?_
 rintro e w5 ⟨rfl,hb⟩
 have HW5:Hid (Below W.heap.size W w5):=HW4.out.trans (hb.mono HW4.out.size)
 have hS9:=HS.out w5 HW5.out
 refine hK _ _ hS9 ?_
 clear hK K hb hS9
 iterate 2
  refine Zda _ rfl rfl (fun w' hS=>by go_simp;rfl) ?_
  simp only[Act.put,List.setIfInBounds_toArray,List.set_cons_zero,List.set_cons_succ]
 refine Zbq rfl rfl rfl rfl (fun K hK=>?_) (fun K hK=>?_)
 go_simp
 have HW20:Hid (Below W.heap.size W (w5.alloc (pObj ⟨#[]⟩ ⟨#[]⟩))):=HW5.out.alloc HW5.out.size _
 refine hK _ _ (HS.out _ HW20.out) ?_
 clear hK K
 obtain⟨G,hG⟩:∃ G,w5.heap.size=G:=⟨_,rfl⟩
 have hGW:W.heap.size≤G:=by rw[← hG];exact HW5.out.size
 have hbk:(w5.alloc (pObj ⟨#[]⟩ ⟨#[]⟩)).heap[G]?=some (pObj ⟨#[]⟩ ⟨#[]⟩):=by rw[← hG];exact World.alloc_heap_new w5 _
 rw[hG]
 obtain⟨w20,hw20⟩:∃ z,w5.alloc (pObj ⟨#[]⟩ ⟨#[]⟩)=z:=⟨_,rfl⟩
 rw[hw20] at HW20 hbk ⊢
 have HG:Hid (w20.heap[G]?=some (pObj ⟨#[]⟩ ⟨#[]⟩)∧G<w20.heap.size):=⟨hbk,(Array.getElem?_eq_some_iff.1 hbk).1⟩
 have HV20:Hid (Below w20.heap.size w20 w20):=Below.refl _ _
 clear hw20 hG hbk
 refine Ze rfl rfl fun K hK=>?_
 go_simp
 go_at_call 180
 refine(ZR p3 q3 _).mono ?_
 rintro e w21 ⟨rfl,hb⟩
 have HV21:Hid (Below w20.heap.size w20 w21):=HV20.out.trans (hb.mono HV20.out.size)
 have HW21:Hid (Below W.heap.size W w21):=HW20.out.trans (HV21.out.mono HW20.out.size)
 have hS9:=HS.out w21 HW21.out
 refine hK _ _ (.inr hS9) ?_
 clear hK K hb hS9
 have hbk:w21.heap[G]?=some (pObj ⟨#[]⟩ ⟨#[]⟩):=(HV21.out.block G HG.out.2).trans HG.out.1
 have r0:=Za hbk 0 rfl
 have r1:=Za hbk 1 rfl
 have f0:=Zb hbk 0
 have f1:=Zb hbk 1
 refine Ze rfl rfl fun K hK=>?_
 go_simp
 have q:=Zh hbk (.string p3) (.string q3)
 have HW8:Hid (Below W.heap.size W ((w21.setCell ⟨G,0,none⟩ (.string p3)).setCell ⟨G,1,none⟩ (.string q3))):=Zf HW21.out hGW (.string p3) (.string q3)
 have hS9:=HS.out _ HW8.out
 refine hK _ _ (.inr hS9) ?_
 clear hK K hS9
 refine Zt ?_
 obtain⟨Z,hZ⟩:∃ Z,(w21.setCell ⟨G,0,none⟩ (.string p3)).setCell ⟨G,1,none⟩ (.string q3)=Z:=⟨_,rfl⟩
 rw[hZ] at q HW8 ⊢
 clear hZ r0 r1 f0 f1 hbk
 rotate_left
 go_simp
 go_at_call 180
 refine(ZR p3 q3 _).mono ?_
 rintro e w6 ⟨rfl,hb⟩
 have HW6:Hid (Below W.heap.size W w6):=HW5.out.trans (hb.mono HW5.out.size)
 have hS9:=HS.out w6 HW6.out
 refine hK _ _ hS9 ?_
 clear hK K hb hS9
 refine Zkx rfl rfl fun K hK=>?_
 go_simp
 have HW20:Hid (Below W.heap.size W (w6.alloc (pObj ⟨#[]⟩ ⟨#[]⟩))):=HW6.out.alloc HW6.out.size _
 refine hK _ _ (HS.out _ HW20.out) ?_
 clear hK K
 obtain⟨G,hG⟩:∃ G,w6.heap.size=G:=⟨_,rfl⟩
 have hGW:W.heap.size≤G:=by rw[← hG];exact HW6.out.size
 have hbk:(w6.alloc (pObj ⟨#[]⟩ ⟨#[]⟩)).heap[G]?=some (pObj ⟨#[]⟩ ⟨#[]⟩):=by rw[← hG];exact World.alloc_heap_new w6 _
 rw[hG]
 obtain⟨w20,hw20⟩:∃ z,w6.alloc (pObj ⟨#[]⟩ ⟨#[]⟩)=z:=⟨_,rfl⟩
 rw[hw20] at HW20 hbk ⊢
 have HG:Hid (w20.heap[G]?=some (pObj ⟨#[]⟩ ⟨#[]⟩)∧G<w20.heap.size):=⟨hbk,(Array.getElem?_eq_some_iff.1 hbk).1⟩
 have HV20:Hid (Below w20.heap.size w20 w20):=Below.refl _ _
 clear hw20 hG hbk
 have hbk:w20.heap[G]?=some (pObj ⟨#[]⟩ ⟨#[]⟩):=(HV20.out.block G HG.out.2).trans HG.out.1
 have r0:=Za hbk 0 rfl
 have r1:=Za hbk 1 rfl
 have f0:=Zb hbk 0
 have f1:=Zb hbk 1
 refine Ze rfl rfl fun K hK=>?_
 go_simp
 have q:=Zh hbk (.string p3) (.string q3)
 have HW8:Hid (Below W.heap.size W ((w20.setCell ⟨G,0,none⟩ (.string p3)).setCell ⟨G,1,none⟩ (.string q3))):=Zf HW20.out hGW (.string p3) (.string q3)
 have hS9:=HS.out _ HW8.out
 refine hK _ _ (.inr hS9) ?_
 clear hK K hS9
 refine Zt ?_
 obtain⟨Z,hZ⟩:∃ Z,(w20.setCell ⟨G,0,none⟩ (.string p3)).setCell ⟨G,1,none⟩ (.string q3)=Z:=⟨_,rfl⟩
 rw[hZ] at q HW8 ⊢
 clear hZ r0 r1 f0 f1 hbk
 all_goals
  have hGZ:G<Z.heap.size:=World.block_lt_of_cell? _ _ q.1
  have hXW:=HXB.out.lt
  have hS:∀ w',Below Z.heap.size Z w'→SA (w.heap.size+1+1) G (w.heap.size+1+1+1+1) w.heap.size us ut p3 q3 ao ap xs xt w':=fun w' h=>by
   have hx:=HXB.out.below (HW8.out.trans (h.mono HW8.out.size)) HXB.out.lt
   exact⟨hx.cell 2 0 (b:=w.heap.size+1+1) rfl rfl rfl,hx.cell 2 1 (b:=w.heap.size+1+1) rfl rfl rfl,(h.cell (p:=⟨G,0,none⟩) hGZ).trans q.1,(h.cell (p:=⟨G,1,none⟩) hGZ).trans q.2,
    hx.cell 4 0 (b:=w.heap.size+1+1+1+1) rfl rfl rfl,hx.cell 4 1 (b:=w.heap.size+1+1+1+1) rfl rfl rfl,hx.cell 0 0 (b:=w.heap.size) rfl rfl rfl,hx.cell 0 1 (b:=w.heap.size) rfl rfl rfl⟩
  have HS2:Hid (∀ w',Below Z.heap.size Z w'→∀ x y,SA (w.heap.size+1+1) G (w.heap.size+1+1+1+1) w.heap.size us ut p3 q3 ao ap xs xt ((w'.setCell ⟨w.heap.size+1+1+1+1+1,0,none⟩ (.string x)).setCell ⟨w.heap.size+1+1+1+1+1,1,none⟩ (.string y))):=fun w' h x y=>by
   obtain⟨a0,a1,b0,b1,c0,c1,d0,d1⟩:=hS w' h
   have hlt:w.heap.size+6≤W.heap.size:=hXW
   refine⟨?_,?_,?_,?_,?_,?_,?_,?_⟩<;>(rw[World.cell?_setCell_other _ _ _ _ (by simp<;>omega),World.cell?_setCell_other _ _ _ _ (by simp<;>omega)];assumption)
  have HRB2:Hid (Z.heap[w.heap.size+1+1+1+1+1]?=some (pObj ⟨#[]⟩ ⟨#[]⟩)∧w.heap.size+1+1+1+1+1<Z.heap.size):=by
   have hlt:w.heap.size+6≤W.heap.size:=hXW
   have hs:=HW8.out.size
   exact⟨(HXB.out.below HW8.out HXB.out.lt).block 5 rfl rfl,by omega⟩
  have HBZ:Hid (Below w.heap.size w Z):=HBW.out.trans (HW8.out.mono HBW.out.size)
  have HSZ:=Lib.hid hS
  clear hGW q HW8 hGZ hXW hS HS HTW HBW HXB
  obtain⟨W,rfl⟩:∃ W,W=Z:=⟨_,rfl⟩
  have HS:=HSZ
  have HBW:=HBZ
  have HRB:=HRB2
  have HRL:Hid (w.heap.size≤w.heap.size+1+1+1+1+1):=by show _≤_;omega
  have HTW:Hid (Tabs W):=HT.out.below HBW.out (Nat.le_refl _)
  have HW0:Hid (Below W.heap.size W W.drew):=(Below.refl _ W).drew
  clear HSZ HBZ HRB2
  go_wp2_with fail
  refine ZQ [(true,0),(true,1),(true,2),(true,3),(false,4),(true,5),(true,6),(false,7),(false,8),(true,9),(true,10),(false,11),(false,12),(true,13),(true,14),(false,15),(false,16)] (SA (w.heap.size+1+1) G (w.heap.size+1+1+1+1) w.heap.size us ut p3 q3 ao ap xs xt) (fun _=>false)
   (by kernel_rfl) (by kernel_rfl) (fun _ _=>rfl) (fun _ _ o _ _ h=>by cases o<;>exact h) (HS.out _ HW0.out) ?_
  iterate 4
   refine Zi _ rfl rfl (fun w' hS=>by obtain⟨a0,a1,b0,b1,c0,c1,d0,d1⟩:=hS;go_simp;rfl) ?_
   simp only[Act.put,List.setIfInBounds_toArray,List.set_cons_zero,List.set_cons_succ]
  refine Ze rfl rfl fun K hK=>?_
  go_simp
  go_at_call 104
  refine(Zbw HA.out HX.out H4.out rfl _ (HTW.out.below HW0.out (Nat.le_refl _))).mono ?_
  rintro e w1 ⟨rfl,hb⟩
  have HW1:Hid (Below W.heap.size W w1):=HW0.out.trans (hb.mono HW0.out.size)
  have hS9:=HS.out w1 HW1.out
  refine hK _ _ (.inr hS9) ?_
  clear hK K hb hS9
  iterate 2
   refine Zi _ rfl rfl (fun w' hS=>by go_simp;rfl) ?_
   simp only[Act.put,List.setIfInBounds_toArray,List.set_cons_zero,List.set_cons_succ]
  refine Ze rfl rfl fun K hK=>?_
  go_simp
  go_at_call 180
  refine(ZR p4 q4 _).mono ?_
  rintro e w2 ⟨rfl,hb⟩
  have HW2:Hid (Below W.heap.size W w2):=HW1.out.trans (hb.mono HW1.out.size)
  have hS9:=HS.out w2 HW2.out
  refine hK _ _ (.inr hS9) ?_
  clear hK K hb hS9
  refine Ze rfl rfl fun K hK=>?_
  go_simp
  go_at_call 119
  refine(Zcb H3.out H4.out H5.out rfl _ (HTW.out.below HW2.out (Nat.le_refl _))).mono ?_
  rintro e w3 ⟨rfl,hb⟩
  have HW3:Hid (Below W.heap.size W w3):=HW2.out.trans (hb.mono HW2.out.size)
  have hS9:=HS.out w3 HW3.out
  refine hK _ _ (.inr hS9) ?_
  clear hK K hb hS9
  iterate 2
   refine Zi _ rfl rfl (fun w' hS=>by go_simp;rfl) ?_
   simp only[Act.put,List.setIfInBounds_toArray,List.set_cons_zero,List.set_cons_succ]
  refine Ze rfl rfl fun K hK=>?_
  go_simp
  go_at_call 180
  refine(ZR p5 q5 _).mono ?_
  rintro e w4 ⟨rfl,hb⟩
  have HW4:Hid (Below W.heap.size W w4):=HW3.out.trans (hb.mono HW3.out.size)
  have hS9:=HS.out w4 HW4.out
  refine hK _ _ (.inr hS9) ?_
  clear hK K hb hS9
  refine Ze rfl rfl fun K hK=>?_
  go_simp
  go_at_call 42
  refine(Zib HU.out H5.out H6.out rfl _ (HTW.out.below HW4.out (Nat.le_refl _))).mono ?_
  rintro e w5 ⟨rfl,hb⟩
  have HW5:Hid (Below W.heap.size W w5):=HW4.out.trans (hb.mono HW4.out.size)
  have hS9:=HS.out w5 HW5.out
  refine hK _ _ (.inr hS9) ?_
  clear hK K hb hS9
  iterate 2
   refine Zi _ rfl rfl (fun w' hS=>by go_simp;rfl) ?_
   simp only[Act.put,List.setIfInBounds_toArray,List.set_cons_zero,List.set_cons_succ]
  refine Ze rfl rfl fun K hK=>?_
  go_simp
  go_at_call 180
  refine(ZR x y _).mono ?_
  rintro e w6 ⟨rfl,hb⟩
  have HW6:Hid (Below W.heap.size W w6):=HW5.out.trans (hb.mono HW5.out.size)
  have hS9:=HS.out w6 HW6.out
  refine hK _ _ (.inr hS9) ?_
  clear hK K hb hS9
  have hbk:w6.heap[w.heap.size+1+1+1+1+1]?=some (pObj ⟨#[]⟩ ⟨#[]⟩):=(HW6.out.block _ HRB.out.2).trans HRB.out.1
  have r0:=Za hbk 0 rfl
  have r1:=Za hbk 1 rfl
  have f0:=Zb hbk 0
  have f1:=Zb hbk 1
  refine Ze rfl rfl fun K hK=>?_
  go_simp
  have q:=Zh hbk (.string x) (.string y)
  have HBQ:Hid (Below w.heap.size w ((w6.setCell ⟨w.heap.size+1+1+1+1+1,0,none⟩ (.string x)).setCell ⟨w.heap.size+1+1+1+1+1,1,none⟩ (.string y))):=Zf (HBW.out.trans (HW6.out.mono HBW.out.size)) (b:=w.heap.size+1+1+1+1+1) HRL.out (.string x) (.string y)
  have hS9:=HS2.out w6 HW6.out x y
  refine hK _ _ (.inr hS9) ?_
  clear hK K hS9
  refine Zt ?_
  obtain⟨w9,hw9⟩:∃ w9,(w6.setCell ⟨w.heap.size+1+1+1+1+1,0,none⟩ (.string x)).setCell ⟨w.heap.size+1+1+1+1+1,1,none⟩ (.string y)=w9:=⟨_,rfl⟩
  rw[hw9] at q HBQ ⊢
  obtain⟨q0,q1⟩:=q
  clear r0 r1 f0 f1 hw9 hbk
  go_wp2
  refine bodyPost_ret (v:=pV x y) (by simp[results,Tryz.f227,go_sem,q0,q1]) rfl ⟨rfl,HBQ.out⟩
def Zmo (bs:List BB) (q:Rat) (w:World) (e:Ending) (w':World):Prop:=
 ∃ x y r,e=.returned (.agg #[.string x,.string y])∧Zv bs.length (cR bs) (hR bs) q r∧IsP r x y∧Below w.heap.size w w'
theorem Zkh {v:Value} {bs:List BB} {w:World} {q:Rat} {s t:ByteArray} (hv:BL w v bs) (hC:CurveP bs) (hq:IsP q s t) (hz:Sz 300 q) (hT:Tabs w) :
  Calls Tryz.prog 204 #[v,.agg #[.string s,.string t]] w (Zmo bs q w):=by
 have HQ:=Lib.hid hq
 have HZ:=Lib.hid hz
 have HC:=Lib.hid hC
 have HT:=Lib.hid hT
 have HV:=Lib.hid hv
 clear hq hz hC hT hv
 go_enter Tryz.func204,Tryz.ntmps204
 go_wp2_with fail
 have hb0:Below w.heap.size w ((w.alloc (pObj s t)).alloc (pObj ⟨#[]⟩ ⟨#[]⟩)):=((Below.refl _ w).alloc (Nat.le_refl _) _).alloc (by simp) _
 refine(Zhp (HV.out.after hb0 (Nat.le_refl _)) HC.out HQ.out).mono ?_
 rintro e w2 ⟨i,j,inn,he,hA,hb⟩
 have HX:Zk w.heap.size [pObj s t,pObj ⟨#[]⟩ ⟨#[]⟩] w2:=(Zk.two w _ _).below hb (by simp)
 have HB2:Hid (Below w.heap.size w w2):=hb0.trans (hb.mono hb0.size)
 obtain⟨q0,hq0⟩:∃ q,bAt bs i=q:=⟨_,rfl⟩
 obtain⟨q1,hq1⟩:∃ q,bAt bs j=q:=⟨_,rfl⟩
 have HQ0:=Lib.hid hq0
 have HQ1:=Lib.hid hq1
 rw[hq0,hq1] at he
 obtain⟨⟨s0,t0⟩,u0,v0⟩:=q0
 obtain⟨⟨s1,t1⟩,u1,v1⟩:=q1
 subst he
 obtain⟨P,hP⟩:∃ P,w.heap.size=P:=⟨_,rfl⟩
 obtain⟨G,hG⟩:∃ G,w2.heap.size=G:=⟨_,rfl⟩
 have h0:w2.heap[P]?=some (pObj s t):=HX.block 0 (by omega) rfl
 have h1:w2.heap[P+1]?=some (pObj ⟨#[]⟩ ⟨#[]⟩):=HX.block 1 (by omega) rfl
 have HPP:=Lib.hid hP
 have hPG:P+1<G:=by rw[← hG];exact(Array.getElem?_eq_some_iff.1 h1).1
 clear hb hb0 HX hq0 hq1
 have hV0:((w2.alloc (bO s0 t0 u0 v0)).alloc (bO s1 t1 u1 v1)).heap[P]?=some (pObj s t):=((Below.heap_alloc _ _ _ (by simp;omega)).trans (Below.heap_alloc _ _ _ (by omega))).trans h0
 have hV1:((w2.alloc (bO s0 t0 u0 v0)).alloc (bO s1 t1 u1 v1)).heap[P+1]?=some (pObj ⟨#[]⟩ ⟨#[]⟩):=((Below.heap_alloc _ _ _ (by simp;omega)).trans (Below.heap_alloc _ _ _ (by omega))).trans h1
 have HBV:Hid (Below w.heap.size w ((w2.alloc (bO s0 t0 u0 v0)).alloc (bO s1 t1 u1 v1))):=(HB2.out.alloc HB2.out.size _).alloc (by have:=HB2.out.size;simp;omega) _
 have c0:((w2.alloc (bO s0 t0 u0 v0)).alloc (bO s1 t1 u1 v1)).cell? ⟨P+1,0,none⟩=some (.string ⟨#[]⟩):=Za hV1 0 rfl
 have c1:((w2.alloc (bO s0 t0 u0 v0)).alloc (bO s1 t1 u1 v1)).cell? ⟨P+1,1,none⟩=some (.string ⟨#[]⟩):=Za hV1 1 rfl
 have f0:((w2.alloc (bO s0 t0 u0 v0)).alloc (bO s1 t1 u1 v1)).frozen? ⟨P+1,0,none⟩=false:=Zb hV1 0
 have f1:((w2.alloc (bO s0 t0 u0 v0)).alloc (bO s1 t1 u1 v1)).frozen? ⟨P+1,1,none⟩=false:=Zb hV1 1
 have d0:((w2.alloc (bO s0 t0 u0 v0)).alloc (bO s1 t1 u1 v1)).cell? ⟨P,0,none⟩=some (.string s):=Za hV0 0 rfl
 have d1:((w2.alloc (bO s0 t0 u0 v0)).alloc (bO s1 t1 u1 v1)).cell? ⟨P,1,none⟩=some (.string t):=Za hV0 1 rfl
 have HV1:=Lib.hid hV1
 clear h0 h1 hV0 hV1
 rcases hA with ⟨hp,⟨hi,rfl,rfl⟩ | ⟨hi,rfl,rfl⟩⟩
 ·have HPc:=Lib.hid hp
  have HI:=Lib.hid hi
  obtain⟨⟨x1,y1,j1⟩,⟨x2,y2,j2⟩,⟨x3,y3,j3⟩,⟨x4,y4,j4⟩,⟨x5,y5,j5⟩,⟨x,y,j6⟩,j7,j8⟩:=Zh7 HC.out HQ.out.nn HZ.out hp hi
  have hC0:=(HC.out.isC (i:=i) (by omega)).1
  have hH0:=(HC.out.isH (i:=i) (by omega)).1
  have hC1:=(HC.out.isC (i:=i+1) hi).1
  have hH1:=(HC.out.isH (i:=i+1) hi).1
  rw[HQ0.out] at hC0 hH0
  rw[HQ1.out] at hC1 hH1
  have j6':=j6
  rw[j7] at j6'
  have HR:=Lib.hid (ZlE hC0 hC1 hH0 hH1 HQ.out j1 j2 j3 j8 j4 j5 j6' _ (HT.out.below HBV.out (Nat.le_refl _)))
  have HA:Hid (Zv bs.length (cR bs) (hR bs) q (lin bs.length (cR bs) (hR bs) i q)):=⟨i,hp,rfl⟩
  have HJ:=Lib.hid j6
  clear hp hi j1 j2 j3 j4 j5 j6 j6' j7 j8 hC0 hH0 hC1 hH1
  rw[hP]
  go_wp2_with fail
  refine HR.out.mono ?_
  rintro e w5 ⟨rfl,hb⟩
  have hV5:w5.heap[P+1]?=some (pObj ⟨#[]⟩ ⟨#[]⟩):=(hb.block _ (by simp;omega)).trans HV1.out
  have HB5:Hid (Below w.heap.size w w5):=HBV.out.trans (hb.mono HBV.out.size)
  have HV5:=Lib.hid hV5
  clear c0 c1 f0 f1 d0 d1 hb HR
  have c0:w5.cell? ⟨P+1,0,none⟩=some (.string ⟨#[]⟩):=Za hV5 0 rfl
  have c1:w5.cell? ⟨P+1,1,none⟩=some (.string ⟨#[]⟩):=Za hV5 1 rfl
  have f0:w5.frozen? ⟨P+1,0,none⟩=false:=Zb hV5 0
  have f1:w5.frozen? ⟨P+1,1,none⟩=false:=Zb hV5 1
  clear hV5
  go_wp2
  obtain⟨q0,q1⟩:=Zh HV5.out (.string x) (.string y)
  refine bodyPost_ret (v:=.agg #[.string x,.string y]) (by simp[results,Tryz.f204,go_sem,q0,q1]) rfl ⟨x,y,_,rfl,HA.out,HJ.out,?_⟩
  have:=Zf HB5.out (b:=P+1) (by rw[HPP.out];omega) (.string x) (.string y)
  exact this
 ·have HA:Hid (Zv bs.length (cR bs) (hR bs) q (hR bs j)):=by
   refine⟨j,hp,?_⟩
   unfold lin slo
   rw[if_neg (by omega)]
   grind
  have hH0:=(HC.out.isH (i:=j) (by omega)).1
  rw[HQ0.out] at hH0
  have HH:=Lib.hid hH0
  clear hp hi hH0
  rw[hP]
  go_wp2
  obtain⟨q0,q1⟩:=Zh HV1.out (.string u0) (.string v0)
  refine bodyPost_ret (v:=.agg #[.string u0,.string v0]) (by simp[results,Tryz.f204,go_sem,q0,q1]) rfl ⟨u0,v0,_,rfl,HA.out,HH.out,?_⟩
  have:=Zf HBV.out (b:=P+1) (by rw[HPP.out];omega) (.string u0) (.string v0)
  exact this
theorem Zhk (w:World) (s t:ByteArray):PL (w.alloc (.cells #[.string s,.string t] 41)) (.slice (some ⟨w.heap.size,0,none⟩) 1 1) [(s,t)]:=by
 refine⟨_,1,rfl,Nat.le_refl _,by simp[maxLen],fun _=>⟨_,0,rfl,by simp,fun j hj=>?_⟩⟩
 obtain rfl:j=0:=by simpa using hj
 exact⟨ZC _ _ _ 0 rfl,ZC _ _ _ 1 rfl⟩
def ZgW (bs:List BB) (q:Rat) (x y:ByteArray) (n:Int):Prop:=n=0∧∃ r,Zv bs.length (cR bs) (hR bs) q r∧IsP r x y
theorem Zi7 {v:Value} {bs:List BB} {w:World} {q:Rat} {s t:ByteArray} (Bl Bc:Nat) (hl:w.heap[Bl]?=some (.cells #[v] 72)) (hc:w.heap[Bc]?=some (pObj s t)) (hv:BL w v bs) (hC:CurveP bs) (hq:IsP q s t) (hz:Sz 300 q) (hT:Tabs w) :
  Calls Tryz.prog 203 #[.pointer (some ⟨Bl,0,none⟩),.pointer (some ⟨Bc,0,none⟩)] w (Zkn (ZgW bs q) w):=by
 have hb0:Below w.heap.size w (w.alloc (pObj ⟨#[]⟩ ⟨#[]⟩)):=(Below.refl _ w).alloc (Nat.le_refl _) _
 have HB0:=Lib.hid hb0
 have HR:=Lib.hid (Zkh (hv.after hb0 (Nat.le_refl _)) hC hq hz (hT.below hb0 (Nat.le_refl _)))
 have l0:(w.alloc (pObj ⟨#[]⟩ ⟨#[]⟩)).cell? ⟨Bl,0,none⟩=some v:=(ZH _ _ _ (Array.getElem?_eq_some_iff.1 hl).1).trans (Za hl 0 rfl)
 have c0:(w.alloc (pObj ⟨#[]⟩ ⟨#[]⟩)).cell? ⟨Bc,0,none⟩=some (.string s):=(ZH _ _ _ (Array.getElem?_eq_some_iff.1 hc).1).trans (Za hc 0 rfl)
 have c1:(w.alloc (pObj ⟨#[]⟩ ⟨#[]⟩)).cell? ⟨Bc,1,none⟩=some (.string t):=(ZH _ _ _ (Array.getElem?_eq_some_iff.1 hc).1).trans (Za hc 1 rfl)
 have HP:Hid ((w.alloc (pObj ⟨#[]⟩ ⟨#[]⟩)).heap[w.heap.size]?=some (pObj ⟨#[]⟩ ⟨#[]⟩)):=World.alloc_heap_new w _
 clear hb0 hl hc hv hC hq hz hT
 go_enter Tryz.func203,Tryz.ntmps203
 go_wp2_with fail
 refine HR.out.mono ?_
 rintro e w2 ⟨x,y,r,rfl,hr,hx,hb⟩
 have h2:w2.heap[w.heap.size]?=some (pObj ⟨#[]⟩ ⟨#[]⟩):=(hb.block _ (by simp)).trans HP.out
 have HB2:Hid (Below w.heap.size w w2):=HB0.out.trans (hb.mono HB0.out.size)
 have HA:Hid (ZgW bs q x y 0):=⟨rfl,r,hr,hx⟩
 have H2:=Lib.hid h2
 clear l0 c0 c1 hb hr hx HR HP
 have c0:w2.cell? ⟨w.heap.size,0,none⟩=some (.string ⟨#[]⟩):=Za h2 0 rfl
 have c1:w2.cell? ⟨w.heap.size,1,none⟩=some (.string ⟨#[]⟩):=Za h2 1 rfl
 have f0:w2.frozen? ⟨w.heap.size,0,none⟩=false:=Zb h2 0
 have f1:w2.frozen? ⟨w.heap.size,1,none⟩=false:=Zb h2 1
 clear h2
 go_wp2
 obtain⟨q0,q1⟩:=Zh H2.out (.string x) (.string y)
 exact bodyPost_ret (v:=.agg #[.string x,.string y]) (by simp[results,Tryz.f203,go_sem,q0,q1]) rfl ⟨x,y,0,.inl ⟨rfl,rfl⟩,HA.out,Zf HB2.out (Nat.le_refl _) (.string x) (.string y)⟩
theorem ZbI {bs:List BB} {s t:ByteArray} : Zgb bs [(s,t)]↔(CurveP bs∧Zm 300 (s,t)=true):=by
 unfold Zgb
 simp
theorem ZiI {v:Value} {bs:List BB} {w:World} {s t:ByteArray} (hv:BL w v bs) (hz:LimB bs) (hs:s.size≤1000000) (ht:t.size≤1000000) (hD:DetV w) (hT:Tabs w) :
  Calls Tryz.prog 168 #[v,.agg #[.string s,.string t]] w (Zx (Zdf bs s t) w):=by
 obtain⟨n,hn⟩:∃ n,bs.length=n:=⟨_,rfl⟩
 obtain⟨p,c,rfl⟩:∃ p c,v=.slice p n c:=by obtain⟨p,c,h,_⟩:=id hv;exact⟨_,_,by rw[← hn];exact h⟩
 clear hn
 obtain⟨w3,hw3⟩:∃ z,((w.alloc (.cells #[.slice p n c] 72)).alloc (pObj s t)).alloc (pObj ⟨#[]⟩ ⟨#[]⟩)=z:=⟨_,rfl⟩
 have hs3:w3.heap.size=w.heap.size+3:=by rw[← hw3];simp
 have HX:Hid (Zk w.heap.size [.cells #[.slice p n c] 72,pObj s t,pObj ⟨#[]⟩ ⟨#[]⟩] w3):=by rw[← hw3];exact Zk.three w _ _ _
 have HB3:Hid (Below w.heap.size w w3):=by rw[← hw3];exact(((Below.refl _ w).alloc (Nat.le_refl _) _).alloc (by simp) _).alloc (by simp<;>omega) _
 have hb4:Below w3.heap.size w3 (w3.alloc (.cells #[.string s,.string t] 41)):=(Below.refl _ w3).alloc (Nat.le_refl _) _
 have HB4:Hid (Below w.heap.size w (w3.alloc (.cells #[.string s,.string t] 41))):=HB3.out.trans (hb4.mono HB3.out.size)
 have hlim:LimP [(s,t)]:=fun p hp=>by
  rw[List.mem_singleton] at hp
  subst hp
  exact⟨hs,ht⟩
 have HR:=Lib.hid (Zf2 (hv.after HB4.out (Nat.le_refl _)) hz (Zhk w3 s t) hlim (hD.below HB4.out (Nat.le_refl _)) (hT.below HB4.out (Nat.le_refl _)))
 rw[hs3] at HR
 have HX4:=Lib.hid (HX.out.below hb4 (by rw[hs3];exact Nat.le_refl _))
 have HV:=Lib.hid hv
 have HT:=Lib.hid hT
 have l0:w3.cell? ⟨w.heap.size,0,none⟩=some (.slice p n c):=HX.out.cell 0 0 rfl rfl rfl
 have d0:w3.cell? ⟨w.heap.size+1,0,none⟩=some (.string s):=HX.out.cell 1 0 rfl rfl rfl
 have d1:w3.cell? ⟨w.heap.size+1,1,none⟩=some (.string t):=HX.out.cell 1 1 rfl rfl rfl
 have hs3':=hs3
 rw[← hw3] at l0 d0 d1 HR HX4 HB4 hs3'
 clear hv hz hD hT hb4 hw3 hs hs3 HB3 HX hlim ht
 go_enter Tryz.func168,Tryz.ntmps168
 go_wp2_with fail
 refine HR.out.mono ?_
 rintro e w5 ⟨hE,hb⟩
 have HX5:=Lib.hid (HX4.out.below hb (by simp))
 have HB5:=Lib.hid (HB4.out.trans (hb.mono HB4.out.size))
 clear l0 d0 d1 hb HR HX4 HB4
 have c0:w5.cell? ⟨w.heap.size+1+1,0,none⟩=some (.string ⟨#[]⟩):=HX5.out.cell 2 0 rfl rfl rfl
 have c1:w5.cell? ⟨w.heap.size+1+1,1,none⟩=some (.string ⟨#[]⟩):=HX5.out.cell 2 1 rfl rfl rfl
 have f0:w5.frozen? ⟨w.heap.size+1+1,0,none⟩=false:=HX5.out.free 2 0 rfl rfl
 have f1:w5.frozen? ⟨w.heap.size+1+1,1,none⟩=false:=HX5.out.free 2 1 rfl rfl
 have hl5:=HX5.out.lt
 rcases hE with ⟨hr,rfl⟩ | ⟨hr,rfl⟩
 ·have HRP:=Lib.hid (ZbI.1 hr)
  have hsm:=Za9 (ZbI.1 hr).2
  have HTR:Hid (Calls Tryz.prog 183 #[.func (.func 203) #[] #[.pointer (some ⟨w.heap.size,0,none⟩),.pointer (some ⟨w.heap.size+1,0,none⟩)]] w5 (Zx (ZgW bs (ratP s t)) w5)):=
   Zgm (enters_of Tryz.func203 (by kernel_rfl) rfl) fun W hW=>by
    have hx:=HX5.out.below hW (by simpa using hl5)
    have hbw:=HB5.out.trans (hW.mono HB5.out.size)
    exact Zi7 w.heap.size (w.heap.size+1) (hx.block 0 rfl rfl) (hx.block 1 rfl rfl) (HV.out.after hbw (Nat.le_refl _)) HRP.out.1 hsm.1 hsm.2 (HT.out.below hbw (Nat.le_refl _))
  clear hr hsm HV HT
  go_wp2_with fail
  refine HTR.out.mono ?_
  rintro e w7 ⟨x,y,m,rfl,⟨rfl,hA⟩,hb⟩
  have HA:Hid (Zdf bs s t x y 0):=.inr ⟨HRP.out,rfl,hA⟩
  have HX7:=Lib.hid (HX5.out.below hb (by simpa using hl5))
  have HB7:=Lib.hid (HB5.out.trans (hb.mono HB5.out.size))
  clear c0 c1 f0 f1 hb hA hl5 HTR
  have c0:w7.cell? ⟨w.heap.size+1+1,0,none⟩=some (.string ⟨#[]⟩):=HX7.out.cell 2 0 rfl rfl rfl
  have c1:w7.cell? ⟨w.heap.size+1+1,1,none⟩=some (.string ⟨#[]⟩):=HX7.out.cell 2 1 rfl rfl rfl
  have f0:w7.frozen? ⟨w.heap.size+1+1,0,none⟩=false:=HX7.out.free 2 0 rfl rfl
  have f1:w7.frozen? ⟨w.heap.size+1+1,1,none⟩=false:=HX7.out.free 2 1 rfl rfl
  go_wp2
  obtain⟨q0,q1⟩:=Zh (HX7.out.block 2 (b:=w.heap.size+1+1) rfl rfl) (.string x) (.string y)
  exact bodyPost_ret (v:=.tuple #[.agg #[.string x,.string y],.int .i64 0]) (by simp[results,Tryz.f168,go_sem,q0,q1]) rfl ⟨x,y,0,rfl,HA.out,Zf HB7.out (by show _≤_;omega) (.string x) (.string y)⟩
 ·have HA:Hid (Zdf bs s t ⟨#[]⟩ ⟨#[]⟩ 2):=.inl ⟨fun h=>hr (ZbI.2 h),rfl,rfl,rfl⟩
  clear hr HV HT hl5
  go_wp2
  obtain⟨q0,q1⟩:=Zh (HX5.out.block 2 (b:=w.heap.size+1+1) rfl rfl) (.string ⟨#[]⟩) (.string ⟨#[]⟩)
  exact bodyPost_ret (v:=.tuple #[.agg #[.string ⟨#[]⟩,.string ⟨#[]⟩],.int .i64 2]) (by simp[results,Tryz.f168,go_sem,q0,q1]) rfl ⟨⟨#[]⟩,⟨#[]⟩,2,rfl,HA.out,Zf HB5.out (by show _≤_;omega) (.string ⟨#[]⟩) (.string ⟨#[]⟩)⟩
end Go.Proofs.YtmpaflidennnoaaGreatDoor
