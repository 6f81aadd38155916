/- The parts EGain, EGreat0, EGreatS, ECheck. -/
import Derived.Test.YtmpaflidennnoaaGreatDoorH22
set_option maxRecDepth 100000
set_option maxHeartbeats 8000000
set_option linter.unusedVariables false
set_option linter.unusedSimpArgs false
namespace Go.Proofs.YtmpaflidennnoaaGreatDoor
open Go.RowKit Go.Shelf
attribute [local go_sem ↓] Go.wp_at_zero Go.wp_at_succ
theorem ZmS {bs:List BB} (h:CurveP bs) {a b:Rat} (hab:a<=b):chF bs a<=chF bs b:=ZY.mono h.conc' hab (Zgq h a) (Zgq h b)
theorem Zhu {t:TaskP} {p:List (List Int)} (ok:TaskOk t) (inn:Zbu t p) {u i:Nat} (hu:u<t.rates.length) (hi:i<t.sites.length) :
  (∃ x y,IsP (covR t p i+rR t u i) x y)/\Sz 300 (covR t p i+rR t u i)/\Sz 300 (covR t p i)/\(∃ x y,IsP (chF (eS t i).curve (covR t p i+rR t u i)-chF (eS t i).curve (covR t p i)) x y)/\(∃ x y,IsP (Zay t p u i) x y)/\0<=Zay t p u i:=by
 obtain⟨c1,c2,c3⟩:=ZcW ok inn hi (Nat.le_refl p.length)
 obtain⟨r1,r2⟩:=Zd6 ok hu hi
 obtain⟨w1,w2⟩:=Zfz ok hi
 have n0:0<=covR t p i+rR t u i:=by
  have:=r1.nn
  have h:covR t p i=ZaW t p i p.length:=rfl
  rw[h]
  grind
 have z0:Sz 107 (covR t p i+rR t u i):=(Sz.add c3 r1.nn c2 r2).mono Zd
 obtain⟨d1,d2,d3,d4⟩:=Zcv ok hi n0 z0 Zd
 obtain⟨e1,e2,e3,e4⟩:=Zcv ok hi c3 c2 Zd
 have hle:chF (eS t i).curve (covR t p i)<=chF (eS t i).curve (covR t p i+rR t u i):=ZmS (ok.site i hi).2 (by have:=r1.nn;grind)
 have n1:0<=chF (eS t i).curve (covR t p i+rR t u i)-chF (eS t i).curve (covR t p i):=Zk
 have z1:=Sz.sub d3 e3 hle d2 e2
 have n2:=Rat.mul_nonneg w1.nn n1
 exact⟨Zaa n0 z0 Zd Zd,z0.mono Zd,(show Sz 97 (covR t p i) from c2).mono Zd,Zaa n1 z1 Zd Zd,Zaa n2 (Sz.mul w1.nn n1 w2 z1) Zd Zd,n2⟩
theorem ZhH {t:TaskP} {p:List (List Int)} {b m n:Nat} {sv hv rv pv:Value} {pb po pc:Nat} {gq gp gc:Nat->Nat} {w:World} (h:WorkW t b m sv hv rv pv w) (hP:PlanW p t.sites.length m pv pb po pc gq gp gc w) (hm:Memo w m t n) (hn:n<=900000000000) (ok:TaskOk t) (inn:Zbu t p)
  {u i:Nat} (hu:u<t.rates.length) (hi:i<t.sites.length) :
  Calls Tryz.prog 78 #[.pointer (some ⟨b,0,none⟩),.int .i64 u,.int .i64 i] w (Zd9 (Zay t p u i) m t (n+4) w):=by
 obtain⟨sb,so,sc,hb,ho,hc,rb,ro,rk,cv,rq,rp,rc,k1,k2,k3,hA⟩:=h.open ok
 obtain⟨N,hN⟩:=Zpg t.sites.length
 obtain⟨T,hT⟩:=Zpg t.rates.length
 have HS:Hid (∀ V,Keeps (NotM m) w V->(V.cell? ⟨b,0,none⟩=some (.slice (some ⟨sb,so,none⟩) N sc)/\V.cell? ⟨sb,so+i*3,none⟩=some (.string (eS t i).weight.1)/\V.cell? ⟨sb,so+i*3+1,none⟩=some (.string (eS t i).weight.2))/\
   (V.cell? ⟨b,2,none⟩=some (.slice (some ⟨rb,ro,none⟩) T rk)/\V.cell? ⟨rb,ro+u,none⟩=some (.slice (some ⟨rq u,rp u,none⟩) N (rc u))/\V.cell? ⟨rq u,rp u+i*2,none⟩=some (.string (eR t u i).1)/\V.cell? ⟨rq u,rp u+i*2+1,none⟩=some (.string (eR t u i).2))/\Tabs V):=fun V hV=>by
  have A:=hA V hV
  obtain⟨a0,a1,a2,_⟩:=A.at'.site i hi
  obtain⟨b0,_,_,b1⟩:=A.at'.rate u hu
  rw[hN] at b0
  exact⟨⟨by rw[<- hN];exact A.w0,a0,a1⟩,⟨by rw[<- hT];exact A.w2,b0,b1 i hi⟩,A.at'.tabs⟩
 have HCV:Hid (∀ V,Keeps (NotM m) w V->Calls Tryz.prog 71 #[.pointer (some ⟨b,0,none⟩),.int .i64 i] V (fun e w'=>∃ x y,e=.returned (pV x y)/\IsP (covR t p i) x y/\Below V.heap.size V w')):=fun V hV=>
  Zfp (h.keep hV) (hP.keep hV) ok inn hi
 have HCH:Hid (∀ V k q x y,Keeps (NotM m) w V->Memo V m t k->k<=1000000000000->IsP q x y->Sz 300 q->Calls Tryz.prog 120 #[.pointer (some ⟨b,0,none⟩),.int .i64 i,pV x y] V (Zd9 (chF (eS t i).curve q) m t (k+1) V)):=fun V k q x y hV hk hk2 hx hz=>
  ZfL (h.keep hV) hk hk2 ok hi hx hz
 have HF:=Zpe (Zhu ok inn hu hi)
 have HWR:Hid (IsP (wR t i) (eS t i).weight.1 (eS t i).weight.2):=(Zfz ok hi).1
 have HRR:Hid (IsP (rR t u i) (eR t u i).1 (eR t u i).2):=(Zd6 ok hu hi).1
 have HM:=Zpe hm
 have HN:=Zpe hn
 have hsc:N<=sc/\sc<=9223372036854775807:=by rw[<- hN];exact k1
 have hrk:T<=rk/\rk<=9223372036854775807:=by rw[<- hT];exact k3
 obtain⟨_,hrc1,hrc2,_⟩:=(hA w (Keeps.refl _ _)).at'.rate u hu
 rw[hN] at hi hrc1
 rw[hT] at hu
 obtain⟨q1,hq1⟩:=Zpg (rq u)
 obtain⟨o1,ho1⟩:=Zpg (rp u)
 obtain⟨c1,hc1⟩:=Zpg (rc u)
 obtain⟨⟨s1,t1⟩,hs1⟩:∃ z,eR t u i=z:=⟨_,rfl⟩
 obtain⟨⟨s2,t2⟩,hs2⟩:∃ z,(eS t i).weight=z:=⟨_,rfl⟩
 rw[hq1,ho1,hc1,hs1,hs2] at HS
 rw[hc1] at hrc1 hrc2
 rw[hs1] at HRR
 rw[hs2] at HWR
 dsimp only at HS HRR HWR
 clear h hP hm hn ok inn hA k1 k2 k3 hN hT hq1 ho1 hc1 hs1 hs2
 have HE0:Hid (Wk m t n w [(w.heap.size,pObj Zpa Zpa)] (w.alloc (pObj Zpa Zpa))):=(Wk.start HM.out).push _ rfl
 clear HM
 have i0':(0:Int)<=(i:Int):=Za
 have i1':(i:Int)<(N:Int):=Za
 have u0':(0:Int)<=(u:Int):=Za
 have u1':(u:Int)<(T:Int):=Za
 go_enter Tryz.func78,Tryz.ntmps78
 go_wp2_with fail
 refine(HCV.out _ HE0.out.base).mono ?_
 rintro e w1 ⟨xc,yc,rfl,hxc,hb1⟩
 have HXC:=Zpe hxc
 obtain⟨G,hG⟩:=Zpg w.heap.size
 obtain⟨g7,hg7⟩:=Zpg w1.heap.size
 obtain⟨w2,hw2⟩:=Zpg (w1.alloc (pObj xc yc))
 have HE2:Hid (Wk m t n w [(g7,pObj xc yc),(G,pObj Zpa Zpa)] w2):=by rw[<- hw2,<- hG];exact(HE0.out.step hb1).push _ hg7.symm
 clear hxc hb1 HE0
 go_wp2_with fail
 try rw[hg7]
 try rw[hw2]
 try rw[hG]
 clear hg7 hw2 hG
 obtain⟨⟨xm,ym,hxm⟩,hzm,hzc,⟨xd,yd,hxd⟩,⟨xg,yg,hxg⟩,_⟩:=HF.out
 have HXM:=Zpe hxm
 have HXD:=Zpe hxd
 have HXG:=Zpe hxg
 have HZ:=Zpe (Zo5 hzm hzc)
 clear hxm hxd hxg hzm hzc HF
 refine Zaw 16 8 [(0,17)] [(1,0),(1,1),(1,2),(1,3),(1,4),(1,5),(1,6),(1,7),(1,8),(1,9),(1,10),(1,11),(0,12),(1,13),(1,14),(0,15)] (fun _ g V=>Wk m t n w (Zca (pObj Zpa Zpa) [(g7,pObj xc yc),(G,pObj Zpa Zpa)] g) V) (fun i=>i==17)
  Zb Zb (fun j hj=>by have h:18<=j:=hj;simp;omega) Zi rfl rfl (fun _=>rfl) (fun a V K hK=>by go_simp;exact hK) (fun j V h=>h.push _ rfl) HE2.out.drew ?_
 iterate 12
  refine ZS _ rfl (fun z=>rfl) (fun z j g w' hS=>by have hE:=hS.bare;have c0:=hE.cell 0 0 (v:=.string xc) rfl rfl;have c1:=hE.cell 0 1 (v:=.string yc) rfl rfl;obtain⟨_,⟨e0,e1,e2,e3⟩,_⟩:=HS.out _ hE.base;exact Zg) ?_
  simp only[Act.put,Zl]
 refine ZU 42 _ rfl (fun z=>rfl) (fun z w'=>Zh) (fun g V hS=>?_)
 refine(Zi1 HXC.out HRR.out HXM.out rfl _ (HS.out _ hS.bare.base).2.2).mono ?_
 rintro e V' ⟨rfl,hb⟩
 refine .inl ⟨_,rfl,hS.step hb,?_⟩
 clear hb hS
 simp only[Act.put,Zl]
 iterate 2
  refine ZS _ rfl (fun z=>rfl) (fun z j g w' hS=>Zg) ?_
  simp only[Act.put,Zl]
 refine ZU 103 _ rfl (fun z=>rfl) (fun z w'=>Zh) (fun g V hS=>?_)
 refine(ZaE xm ym _).mono ?_
 rintro e V' ⟨rfl,hb⟩
 refine .inl ⟨_,rfl,hS.step hb,?_⟩
 clear hb hS
 simp only[Act.put,Zl]
 refine ZaP fun g8 V hS=>?_
 simp only[Act.put,Zl]
 have HE8:Hid (Wk m t n w [(g8,pObj Zpa Zpa),(g7,pObj xc yc),(G,pObj Zpa Zpa)] V):=hS
 have r0:=HE8.out.cell 0 0 rfl rfl
 have r1:=HE8.out.cell 0 1 rfl rfl
 have f0:=HE8.out.free 0 0 rfl
 have f1:=HE8.out.free 0 1 rfl
 refine ZB rfl rfl fun K hK=>?_
 go_simp
 have HE9:=Zpe (HE8.out.fill (.string xm) (.string ym))
 refine hK _ _ (.inl rfl) ?_
 clear hK K r0 r1 f0 f1 HE8 HE2 hS
 refine ZD ?_
 obtain⟨Z,hZ⟩:=Zpg ((V.setCell ⟨g8,0,none⟩ (.string xm)).setCell ⟨g8,1,none⟩ (.string ym))
 rw[hZ] at HE9 ⊢
 clear hZ
 go_wp2_with fail
 refine Zaw 12 9 [(0,13)] [(1,0),(1,1),(1,2),(1,4),(1,5),(1,6),(0,3),(0,7),(0,8),(1,9),(1,10),(0,11)] (fun j g V=>Wk m t (n+j) w (Zca (pObj Zpa Zpa) [(g8,pObj xm ym),(g7,pObj xc yc),(G,pObj Zpa Zpa)] g) V) (fun i=>i==13)
  Zb Zb (fun j hj=>by have h:14<=j:=hj;simp;omega) Zi rfl rfl (fun _=>rfl) (fun a V K hK=>by go_simp;exact hK) (fun j V h=>h.push _ rfl) HE9.out.drew ?_
 iterate 6
  refine ZS _ rfl (fun z=>rfl) (fun z j g w' hS=>by have hE:=hS.bare;have c0:=hE.cell 0 0 (v:=.string xm) rfl rfl;have c1:=hE.cell 0 1 (v:=.string ym) rfl rfl;have d0:=hE.cell 1 0 (v:=.string xc) rfl rfl;have d1:=hE.cell 1 1 (v:=.string yc) rfl rfl;exact Zg) ?_
  simp only[Act.put,Zl]
 refine ZU 120 _ rfl (fun z=>rfl) (fun z w'=>Zh) (fun g V hS=>?_)
 refine(HCH.out _ _ _ _ _ hS.bare.base hS.memo (by have:=HN.out;omega) HXM.out HZ.out.1).mono ?_
 rintro e V' ⟨x1,y1,rfl,hx1,hb,hmm⟩
 have HX1:=Zpe hx1
 refine .inl ⟨_,rfl,hS.call hb hmm,?_⟩
 clear hb hS hmm hx1
 simp only[Act.put,Zl]
 refine ZU 120 _ rfl (fun z=>rfl) (fun z w'=>Zh) (fun g V hS=>?_)
 refine(HCH.out _ _ _ _ _ hS.bare.base hS.memo (by have:=HN.out;omega) HXC.out HZ.out.2).mono ?_
 rintro e V' ⟨x2,y2,rfl,hx2,hb,hmm⟩
 have HX2:=Zpe hx2
 refine .inl ⟨_,rfl,hS.call hb hmm,?_⟩
 clear hb hS hmm hx2
 simp only[Act.put,Zl]
 refine ZU 104 _ rfl (fun z=>rfl) (fun z w'=>Zh) (fun g V hS=>?_)
 refine(ZdT HX1.out HX2.out HXD.out rfl _ (HS.out _ hS.bare.base).2.2).mono ?_
 rintro e V' ⟨rfl,hb⟩
 refine .inl ⟨_,rfl,(hS.step hb).mono Za,?_⟩
 clear hb hS
 simp only[Act.put,Zl]
 iterate 2
  refine ZS _ rfl (fun z=>rfl) (fun z j g w' hS=>Zg) ?_
  simp only[Act.put,Zl]
 refine ZU 103 _ rfl (fun z=>rfl) (fun z w'=>Zh) (fun g V hS=>?_)
 refine(ZaE xd yd _).mono ?_
 rintro e V' ⟨rfl,hb⟩
 refine .inl ⟨_,rfl,(hS.step hb).mono Za,?_⟩
 clear hb hS
 simp only[Act.put,Zl]
 refine ZaP fun g9 V hS=>?_
 simp only[Act.put,Zl]
 have HE8:Hid (Wk m t (n+4) w [(g9,pObj Zpa Zpa),(g8,pObj xm ym),(g7,pObj xc yc),(G,pObj Zpa Zpa)] V):=hS
 have r0:=HE8.out.cell 0 0 rfl rfl
 have r1:=HE8.out.cell 0 1 rfl rfl
 have f0:=HE8.out.free 0 0 rfl
 have f1:=HE8.out.free 0 1 rfl
 refine ZB rfl rfl fun K hK=>?_
 go_simp
 have HE10:=Zpe ((HE8.out.fill (.string xd) (.string yd)).only [0,3] _ rfl Zd)
 refine hK _ _ (.inl rfl) ?_
 clear hK K r0 r1 f0 f1 HE8 hS HE9
 refine ZD ?_
 obtain⟨Z2,hZ⟩:=Zpg ((V.setCell ⟨g9,0,none⟩ (.string xd)).setCell ⟨g9,1,none⟩ (.string yd))
 rw[hZ] at HE10 ⊢
 clear hZ
 go_wp2_with fail
 refine ZP [(1,0),(1,1),(1,2),(1,3),(1,4),(1,5),(1,6),(1,7),(1,8),(1,9),(0,10),(1,11),(1,12),(0,13),(0,14)] (Wk m t (n+4) w [(g9,pObj xd yd),(G,pObj Zpa Zpa)]) (fun i=>i==14)
  Zb Zb (fun j hj=>by have h:15<=j:=hj;simp;omega) Zi HE10.out.drew ?_
 obtain⟨w4,hw4⟩:=Zpg Z2.drew
 have HE4:Hid (Wk m t (n+4) w [(g9,pObj xd yd),(G,pObj Zpa Zpa)] w4):=by rw[<- hw4];exact HE10.out.drew
 rw[hw4]
 clear hw4 HE10
 iterate 10
  refine Zx _ rfl rfl (fun w' hS=>by have c0:=hS.cell 0 0 (v:=.string xd) rfl rfl;have c1:=hS.cell 0 1 (v:=.string yd) rfl rfl;obtain⟨⟨e0,e1,e2⟩,_,_⟩:=HS.out _ hS.base;exact Ze) ?_
  simp only[Act.put,Zl]
 refine Zy 119 _ rfl rfl Zf ?_
 have HEC:=HE4
 refine(ZdL HWR.out HXD.out HXG.out rfl _ (HS.out _ HEC.out.base).2.2).mono ?_
 rintro e w5 ⟨rfl,hb⟩
 have HE5:=Zpe (HEC.out.step hb)
 refine .inl ⟨_,rfl,HE5.out,?_⟩
 clear hb HEC
 simp only[Act.put,Zl]
 iterate 2
  refine Zx _ rfl rfl (fun w' hS=>Ze) ?_
  simp only[Act.put,Zl]
 refine Zy 103 _ rfl rfl Zf ?_
 have HEC:=HE5
 refine(ZaE xg yg _).mono ?_
 rintro e w6 ⟨rfl,hb⟩
 have HE6:=Zpe (HEC.out.step hb)
 refine .inl ⟨_,rfl,HE6.out,?_⟩
 clear hb HEC
 simp only[Act.put,Zl]
 have HE7:=Zpe (HE6.out.only [1] _ rfl Zd)
 have r0:=HE7.out.cell 0 0 rfl rfl
 have r1:=HE7.out.cell 0 1 rfl rfl
 have f0:=HE7.out.free 0 0 rfl
 have f1:=HE7.out.free 0 1 rfl
 refine ZB rfl rfl fun K hK=>?_
 go_simp
 have HE9:=Zpe (HE7.out.fill (.string xg) (.string yg))
 refine hK _ _ (.inl rfl) ?_
 clear hK K r0 r1 f0 f1 HE4 HE5 HE6 HE7
 refine ZD ?_
 go_wp2
 have q0:=HE9.out.cell 0 0 (v:=.string xg) rfl rfl
 have q1:=HE9.out.cell 0 1 (v:=.string yg) rfl rfl
 exact Zor (v:=Zpb xg yg) (by simp[results,Tryz.f78,go_sem,q0,q1]) rfl ⟨xg,yg,rfl,HXG.out,HE9.out.base,HE9.out.memo⟩
theorem Keeps.via {S S':Nat->Prop} {a w w':World} (h:Keeps S a w) (k:Keeps S' w w') (hs:∀ b,b<a.heap.size->S b->S' b):Keeps S a w':=
 ⟨k.os.trans h.os,k.tape.trans h.tape,k.output.trans h.output,Zoz h.size k.size,fun i hi hS=>(k.block i (Zox hi h.size) (hs i hi hS)).trans (h.block i hi hS)⟩
theorem Keeps.at {S:Nat->Prop} {w w':World} (h:Keeps S w w') {g:Nat} {o:Obj} (hg:w.heap[g]?=some o) (hs:S g):w'.heap[g]?=some o:=(h.block g (Zo9 hg) hs).trans hg
abbrev flO (b:Bool):Obj:=.cells #[.bool b] 4
structure GreatI (Sx:Nat->Prop) (w:World) (P:Nat) (fO bO:Obj) (x y:ByteArray) (ok:Bool) (W:World):Prop where
 base:Keeps Sx w W
 b0:W.heap[P]?=some fO
 b1:W.heap[P+1]?=some bO
 b2:W.heap[P+1+1]?=some (pObj x y)
 b3:W.heap[P+1+1+1]?=some (flO ok)
theorem GreatI.keep {Sx S:Nat->Prop} {w W W':World} {P:Nat} {fO bO:Obj} {x y:ByteArray} {ok:Bool} (h:GreatI Sx w P fO bO x y ok W) (hP:P=w.heap.size) (hk:Keeps S W W') (h1:∀ b,b<P->Sx b->S b) (h2:S P/\S (P+1)/\S (P+1+1)/\S (P+1+1+1)):GreatI Sx w P fO bO x y ok W':=
 ⟨h.base.via hk fun b hb hs=>h1 b Za hs,hk.at h.b0 h2.1,hk.at h.b1 h2.2.1,hk.at h.b2 h2.2.2.1,hk.at h.b3 h2.2.2.2⟩
def ZlG (Sx:Nat->Prop) (w:World) (P:Nat) (fO:Obj) (bO:Option Nat->Obj) (g:Nat->Rat) (J:Nat->World->Prop) (k:Nat) (W:World):Prop:=
 ∃ r m x y,Best g k r m/\IsP m x y/\GreatI Sx w P fO (bO r) x y r.isSome W/\J k W
def Zfd (Sx:Nat->Prop) (enc:Option Nat->Value) (g:Nat->Rat) (N:Nat) (J:Nat->World->Prop) (w:World) (e:Ending) (w':World):Prop:=
 ∃ r m x y,e=.returned (.tuple #[enc r,pV x y,.bool r.isSome])/\Best g N r m/\IsP m x y/\Keeps Sx w w'/\J N w'
end Go.Proofs.YtmpaflidennnoaaGreatDoor
namespace Go.Proofs.YtmpaflidennnoaaGreatDoor
open Go.RowKit Go.Shelf
attribute [local go_sem ↓] Go.wp_at_zero Go.wp_at_succ
attribute [local go_sem] Oper.semAt_some
abbrev spV (a b:Int):Value:=.agg #[.int .i64 a,.int .i64 b]
abbrev spO (a b:Int):Obj:=.cells #[.int .i64 a,.int .i64 b] 144
def Zib (e:Nat->Int×Int):Option Nat->Value
 | none=>spV 0 0
 | some k=>spV (e k).1 (e k).2
def ZgS (e:Nat->Int×Int):Option Nat->Obj
 | none=>spO 0 0
 | some k=>spO (e k).1 (e k).2
def BoxS (e:Nat->Int×Int) (B:Nat) (a1:Nat->Nat->Act) (k:Nat) (a':Act) (W:World):Prop:=
 ∃ A,B<=A/\a'=a1 k A/\W.heap[A]?=some (spO (e k).1 (e k).2)
theorem ZhM {e:Nat->Int×Int} {g:Nat->Rat} {N:Nat} {Sx:Nat->Prop} {J:Nat->World->Prop} {gf of:Nat} {lb caps:Array Value} {w:World}
  (hgf:∀ args w,(callFunc gf args).run Tryz.prog w=.ok (.enter gf args) w) (hof:∀ args w,(callFunc of args).run Tryz.prog w=.ok (.enter of args) w)
  (hup:∀ b,w.heap.size<=b->Sx b) (hJ:∀ k W1 W2,J k W1->Keeps (fun b=>b<w.heap.size) W1 W2->J k W2) (h0:J 0 w) (hz:∀ V,Keeps Sx w V->EffZ V)
  (hit:∀ V,Keeps Sx w V->Iter Tryz.prog gf lb (fun k=>#[spV (e k).1 (e k).2]) N (fun b=>b<w.heap.size/\Sx b) (fun _=>True) V)
  (hc:∀ k,k<N->∀ V,Keeps Sx w V->J k V->Calls Tryz.prog of (#[spV (e k).1 (e k).2]++caps) V (fun e' V'=>∃ x y,e'=.returned (pV x y)/\IsP (g k) x y/\Keeps Sx V V'/\J (k+1) V')) :
  Calls Tryz.prog 110 #[.func (.func gf) #[] lb,.func (.func of) #[] caps] w (Zfd Sx (Zib e) g N J w):=by
 have HUP:=Zpe hup
 have HJ:=Zpe hJ
 have HIT:=Zpe hit
 have HC:=Zpe hc
 have HZ:=Zpe hz
 have HJ0:=Zpe h0
 have HGF:=Zpe hgf
 clear hup hJ hit hc hz h0 hgf
 obtain⟨w4,hw4⟩:=Zpg ((((w.alloc (.cells #[.func (.func of) #[] caps] 150)).alloc (spO 0 0)).alloc (pObj Zpa Zpa)).alloc (flO false))
 obtain⟨P,hP⟩:=Zpg w.heap.size
 have HX:Zv P [.cells #[.func (.func of) #[] caps] 150,spO 0 0,pObj Zpa Zpa,flO false] w4:=by rw[<- hw4,<- hP];exact Zv.four w _ _ _ _
 have hk4:Keeps Sx w w4:=by rw[<- hw4];exact((((Keeps.refl Sx w).alloc _).alloc _).alloc _).alloc _
 have HK5:Hid (∀ V:World,Keeps (fun b=>b<w.heap.size) w V->J 0 V):=fun V hV=>HJ.out _ _ _ HJ0.out hV
 have hs4:w4.heap.size=P+4:=by rw[<- hw4,<- hP];simp
 have z:=HZ.out _ hk4
 have z0:=z.z0
 have z1:=z.z1
 have c0:=HX.cell 2 0 (b:=P+1+1) (v:=.string Zpa) rfl rfl rfl
 have c1:=HX.cell 2 1 (b:=P+1+1) (v:=.string Zpa) rfl rfl rfl
 have f0:=HX.free 2 0 (b:=P+1+1) rfl rfl
 have f1:=HX.free 2 1 (b:=P+1+1) rfl rfl
 have HPP:=Zpe hP
 clear z
 refine Zdq Tryz.func110 rfl ?_
 simp only[Tryz.ntmps110,Nat.reduceAdd,Nat.reduceSub,Zpd]
 go_wp2_with fail
 obtain⟨w5,hw5⟩:=Zpg ((w4.setCell ⟨P+1+1,0,none⟩ (.string ⟨#[48]⟩)).setCell ⟨P+1+1,1,none⟩ (.string ⟨#[49]⟩))
 have o5:∀ k,k≠P+1+1->w5.heap[k]?=w4.heap[k]?:=fun k hk=>by rw[<- hw5];exact(Zos _ _ _ _ hk).trans (Zos _ _ _ _ hk)
 have hk5:Keeps Sx w w5:=by
  refine hk4.via (S':=fun b=>b≠P+1+1) ?_ fun b hb _=>by show b≠P+1+1;omega
  rw[<- hw5]
  exact((Keeps.refl _ w4).setCell Zc _).setCell Zc _
 have HG5:Hid (GreatI Sx w P (.cells #[.func (.func of) #[] caps] 150) (spO 0 0) ⟨#[48]⟩ ⟨#[49]⟩ false w5):=
  ⟨hk5,(o5 P Za).trans (HX.block 0 rfl rfl),(o5 _ Za).trans (HX.block 1 rfl rfl),by rw[<- hw5];exact Zah (HX.block 2 (b:=P+1+1) rfl rfl) _ _,(o5 _ Za).trans (HX.block 3 (b:=P+1+1+1) rfl rfl)⟩
 have hkB:Keeps (fun b=>b<w.heap.size) w w5:=by
  rw[<- hw5,<- hw4]
  exact((((((Keeps.refl _ w).alloc _).alloc _).alloc _).alloc _).setCell (by show ¬ P+1+1<w.heap.size;omega) _).setCell (by show ¬ P+1+1<w.heap.size;omega) _
 have hD:w5.heap.size=P+4:=by rw[<- hw5];simp[hs4]
 rw[hw5]
 clear hw5 o5 z0 z1 c0 c1 f0 f1 HX hk4 hs4 hw4
 refine(wpIn_wide (n:=9)).1 ?_
 refine ZdY (P+4) hD (gf:=gf) (lb:=lb) (f:=fun k=>#[spV (e k).1 (e k).2]) (N:=N) (S:=fun x=>x<P/\Sx x) (T:=fun _=>True)
  rfl HGF.out (fun _=>rfl) ?iter (fun _ h=>Za) ⟨trivial,trivial⟩
  (ZlG Sx w P (.cells #[.func (.func of) #[] caps] 150) (ZgS e) g J) (fun _ _ _=>False) ?ci ?cx ?start
  (BoxS e (P+6) ?a1) ?cb ?assign ?body ?done ?stop
 case iter=>
  have:=HIT.out _ hk5
  rwa [hP] at this
 case ci=>
  rintro k W1 W2 ⟨r,m,x,y,h1,h2,h3,h4⟩ hk
  exact⟨r,m,x,y,h1,h2,h3.keep hP.symm hk (fun b hb _=>⟨trivial,Za,Za⟩) ⟨⟨trivial,Za,Za⟩,⟨trivial,Za,Za⟩,⟨trivial,Za,Za⟩,⟨trivial,Za,Za⟩⟩,
   HJ.out _ _ _ h4 (hk.mono fun b _ hb=>⟨trivial,Za,Za⟩)⟩
 case cx=>exact fun _ _ _ _ h _=>h
 case start=>
  exact⟨none,0,_,_,Best.zero g,Zad,HG5.out,HK5.out _ hkB⟩
 case cb=>
  rintro k a' W1 W2 ⟨A,h1,h2,h3⟩ hk
  exact⟨A,h1,h2,hk.at h3 ⟨Za,Za⟩⟩
 case assign=>
  intro l k W hk hW
  gi_wp2
  have h1:(W.alloc (spO (e k).1 (e k).2)).heap[W.heap.size]?=some (spO (e k).1 (e k).2):=Zot W _
  have hkk:Keeps (fun _=>True) W (W.alloc (spO (e k).1 (e k).2)):=(Keeps.refl _ W).alloc _
  obtain⟨V,hV⟩:=Zpg (W.alloc (spO (e k).1 (e k).2))
  rw[hV] at h1 hkk
  obtain⟨A,hA⟩:=Zpg W.heap.size
  rw[hA] at h1
  simp only[hV,hA]
  refine⟨hkk,A,Za,?_,h1⟩
  clear hkk h1 hV hA hW
  exact rfl
 case body=>
  have hfn:∀ k,Fence.wide.fn k:=fun _=>trivial
  rintro l k a' W hk ⟨r,m,x,y,hB,hI,hG,hJk⟩ ⟨A,hA,rfl,hA0⟩ hW
  have hcall:=HC.out k hk W hG.base hJk
  obtain⟨⟨s,t⟩,hst⟩:∃ z,e k=z:=⟨_,rfl⟩
  have HST:=Zpe hst
  rw[hst] at hA0 hcall
  dsimp only at hA0 hcall
  try rw[hst]
  try dsimp only
  have HB:=Zpe hB
  have HI:=Zpe hI
  have HG:=Zpe hG
  have HCL:=Zpe hcall
  have HA0:=Zpe hA0
  have a0:W.cell? ⟨A,0,none⟩=some (.int .i64 s):=Zn hA0 0 rfl
  have a1:W.cell? ⟨A,1,none⟩=some (.int .i64 t):=Zn hA0 1 rfl
  have p0:W.cell? ⟨P,0,none⟩=some (.func (.func of) #[] caps):=Zn hG.b0 0 rfl
  clear hB hI hG hJk hcall hA0 hst
  gi_wp2_with fail
  refine(CallsIn.inRound l (ZoU.2 HCL.out)).mono ?_
  rintro e' V ⟨x2,y2,rfl,hx2,hkV,hJV⟩
  have HX2:=Zpe hx2
  have HJV:=Zpe hJV
  have HKV:=Zpe hkV
  have HGV:=Zpe (HG.out.keep hP.symm hkV (fun b _ hs=>hs) ⟨HUP.out _ Za,HUP.out _ Za,HUP.out _ Za,HUP.out _ Za⟩)
  have HAV:=Zpe (hkV.at HA0.out (HUP.out _ Za))
  clear hx2 hJV hkV a0 a1 p0
  have c0:(V.alloc (pObj x2 y2)).cell? ⟨V.heap.size,0,none⟩=some (.string x2):=ZK _ _ _ 0 rfl
  have c1:(V.alloc (pObj x2 y2)).cell? ⟨V.heap.size,1,none⟩=some (.string y2):=ZK _ _ _ 1 rfl
  have HG1:Hid (GreatI Sx w P (.cells #[.func (.func of) #[] caps] 150) (ZgS e r) x y r.isSome (V.alloc (pObj x2 y2))):=HGV.out.keep (S:=fun _=>True) hP.symm ((Keeps.refl _ V).alloc _) (fun _ _ _=>trivial) ⟨trivial,trivial,trivial,trivial⟩
  have d0:=Zn HG1.out.b2 0 (v:=.string x) rfl
  have d1:=Zn HG1.out.b2 1 (v:=.string y) rfl
  obtain⟨n,hn⟩:=Zpg (sgnR (g k) m)
  gi_wp2_with fail
  refine(CallsIn.inRound l (ZoU.2 (ZbH HX2.out HI.out hn _))).mono ?_
  rintro e' V2 ⟨rfl,hb⟩
  obtain⟨g8,hg8⟩:=Zpg V.heap.size
  have h8:V2.heap[g8]?=some (pObj x2 y2):=by
   rw[<- hg8]
   exact(hb.block _ Zc).trans (Zot V _)
  have hkA:Keeps Sx V (V.alloc (pObj x2 y2)):=(Keeps.refl _ V).alloc _
  have hkJ:Keeps (fun b=>b<w.heap.size) V V2:=((Keeps.refl _ V).alloc _).trans (hb.keepsS _)
  have HK2:=Zpe (HKV.out.trans (hkA.trans (hb.keepsS Sx)))
  have HA2:=Zpe ((hkA.trans (hb.keepsS Sx)).at HAV.out (HUP.out _ Za))
  have HG2:=Zpe (HG1.out.keep hP.symm (hb.keepsS (fun _=>True)) (fun _ _ _=>trivial) ⟨trivial,trivial,trivial,trivial⟩)
  have HJ2:=Zpe (HJ.out _ _ _ HJV.out hkJ)
  have H8:=Zpe h8
  have HRE:Hid (∀ b,((b<P/\Sx b)\/b=P+4\/b=P+4+1)->Sx b):=fun b hs=>by
   rcases hs with ⟨_,h⟩ | h | h
   ·exact h
   ·exact HUP.out _ Za
   ·exact HUP.out _ Za
  have hPg:P+6<=g8:=by
   rw[<- hg8]
   exact Zoz hW HKV.out.size
  clear c0 c1 d0 d1 hb hkA hkJ h8 HG1 HGV HAV HJV
  by_cases hlt:m<g k
  ·have hge:(0:Int)<n:=by rw[<- hn];exact Zb2 (Rat.not_le.2 hlt)
   have HBU:=Zpe (HB.out.up hlt)
   clear hn hlt
   gi_wp2
   obtain⟨sa,sb,hab⟩:∃ a b,ZgS e r=spO a b:=by cases r<;>exact⟨_,_,rfl⟩
   refine Zbt [(true,0),(true,1),(false,2),(false,3),(false,4)] (fun W'=>W'.heap[A]?=some (spO s t)/\W'.heap[g8]?=some (pObj x2 y2)) (fun _=>false)
    Zb Zb (fun _ _=>rfl) Zi (fun _ _ h=>h) ⟨HA2.out,H8.out⟩ ?_
   have b1:V2.drew.heap[P+1]?=some (spO sa sb):=by rw[<- hab];exact HG2.out.b1
   have b2:V2.drew.heap[P+1+1]?=some (pObj x y):=HG2.out.b2
   have b3:V2.drew.heap[P+1+1+1]?=some (flO r.isSome):=HG2.out.b3
   have b0:V2.drew.heap[P]?=some (.cells #[.func (.func of) #[] caps] 150):=HG2.out.b0
   have bA:V2.drew.heap[A]?=some (spO s t):=HA2.out
   have b8:V2.drew.heap[g8]?=some (pObj x2 y2):=H8.out
   have HKD:Hid (Keeps Sx W V2.drew):=HK2.out.drew
   have HKW:Hid (Keeps Sx w V2.drew):=HG2.out.base.drew
   have HJD:Hid (J (k+1) V2.drew):=HJ.out _ _ _ HJ2.out (Keeps.refl _ V2).drew
   obtain⟨V3,hV3⟩:=Zpg V2.drew
   rw[hV3] at b0 b1 b2 b3 bA b8 HKD HKW HJD ⊢
   clear hV3 HK2 HG2 HJ2 hab
   iterate 2
    refine Zr _ rfl rfl (fun w' hS=>by obtain⟨h1,h2⟩:=hS;have a0:=Zn h1 0 (v:=.int .i64 s) rfl;have a1:=Zn h1 1 (v:=.int .i64 t) rfl;have e0:=Zn h2 0 (v:=.string x2) rfl;have e1:=Zn h2 1 (v:=.string y2) rfl;exact Zf) ?_
    simp only[Act.put,Zl]
   have c0:=Zn b1 0 (v:=.int .i64 sa) rfl
   have c1:=Zn b1 1 (v:=.int .i64 sb) rfl
   have f0:=Zo b1 0
   have f1:=Zo b1 1
   refine Zt rfl rfl fun K hK=>?_
   go_simp
   obtain⟨V4,hV4⟩:=Zpg ((V3.setCell ⟨P+1,0,none⟩ (.int .i64 s)).setCell ⟨P+1,1,none⟩ (.int .i64 t))
   have o4:∀ j,j≠P+1->V4.heap[j]?=V3.heap[j]?:=fun j hj=>by rw[<- hV4];exact(Zos _ _ _ _ hj).trans (Zos _ _ _ _ hj)
   have d1:V4.heap[P+1]?=some (spO s t):=by rw[<- hV4];exact Zah b1 _ _
   have k4:Keeps (fun b=>b≠P+1) V3 V4:=by rw[<- hV4];exact((Keeps.refl _ V3).setCell Zc _).setCell Zc _
   rw[hV4]
   refine hK _ _ (.inr ⟨(o4 _ Za).trans bA,(o4 _ Za).trans b8⟩) ?_
   clear hK K hV4 c0 c1 f0 f1 b1
   have b0:=(o4 _ Za).trans b0
   have b2:=(o4 _ Za).trans b2
   have b3:=(o4 _ Za).trans b3
   have bA:=(o4 _ Za).trans bA
   have b8:=(o4 _ Za).trans b8
   have c0:=Zn b2 0 (v:=.string x) rfl
   have c1:=Zn b2 1 (v:=.string y) rfl
   have f0:=Zo b2 0
   have f1:=Zo b2 1
   refine Zt rfl rfl fun K hK=>?_
   go_simp
   obtain⟨V5,hV5⟩:=Zpg ((V4.setCell ⟨P+1+1,0,none⟩ (.string x2)).setCell ⟨P+1+1,1,none⟩ (.string y2))
   have o5:∀ j,j≠P+1+1->V5.heap[j]?=V4.heap[j]?:=fun j hj=>by rw[<- hV5];exact(Zos _ _ _ _ hj).trans (Zos _ _ _ _ hj)
   have d2:V5.heap[P+1+1]?=some (pObj x2 y2):=by rw[<- hV5];exact Zah b2 _ _
   have k5:Keeps (fun b=>b≠P+1+1) V4 V5:=by rw[<- hV5];exact((Keeps.refl _ V4).setCell Zc _).setCell Zc _
   rw[hV5]
   refine hK _ _ (.inr ⟨(o5 _ Za).trans bA,(o5 _ Za).trans b8⟩) ?_
   clear hK K hV5 c0 c1 f0 f1 b2
   have b0:=(o5 _ Za).trans b0
   have d1:=(o5 _ Za).trans d1
   have b3:=(o5 _ Za).trans b3
   have bA:=(o5 _ Za).trans bA
   have b8:=(o5 _ Za).trans b8
   have c0:=Zn b3 0 (v:=.bool r.isSome) rfl
   have f0:=Zo b3 0
   refine Zt rfl rfl fun K hK=>?_
   go_simp
   obtain⟨V6,hV6⟩:=Zpg (V5.setCell ⟨P+1+1+1,0,none⟩ (.bool true))
   have o6:∀ j,j≠P+1+1+1->V6.heap[j]?=V5.heap[j]?:=fun j hj=>by rw[<- hV6];exact Zos _ _ _ _ hj
   have d3:V6.heap[P+1+1+1]?=some (flO true):=by rw[<- hV6];exact Zov b3 _
   have k6:Keeps (fun b=>b≠P+1+1+1) V5 V6:=by rw[<- hV6];exact(Keeps.refl _ V5).setCell Zc _
   rw[hV6]
   refine hK _ _ (.inr ⟨(o6 _ Za).trans bA,(o6 _ Za).trans b8⟩) ?_
   clear hK K hV6 c0 f0 b3
   have HKK:Hid (∀ (S:Nat->Prop),¬ S (P+1)->¬ S (P+1+1)->¬ S (P+1+1+1)->Keeps S V3 V6):=fun S h1 h2 h3=>
    (((k4.mono fun b _ hb e=>h1 (e ▸ hb)).trans (k5.mono fun b _ hb e=>h2 (e ▸ hb))).trans (k6.mono fun b _ hb e=>h3 (e ▸ hb)))
   have HG6:Hid (GreatI Sx w P (.cells #[.func (.func of) #[] caps] 150) (ZgS e (some k)) x2 y2 true V6):=
    ⟨HKW.out.via (HKK.out (fun b=>b<P) Za Za Za) (fun b hb _=>Za),(o6 _ Za).trans b0,by show V6.heap[P+1]?=some (spO (e k).1 (e k).2);rw[HST.out];exact(o6 _ Za).trans d1,(o6 _ Za).trans d2,d3⟩
   have HJ6:Hid (J (k+1) V6):=HJ.out _ _ _ HJD.out (HKK.out _ Za Za Za)
   have HKE:Hid (Keeps (fun b=>(b<P/\Sx b)\/b=P+4\/b=P+4+1) W V6):=(HKD.out.mono fun b _ hs=>HRE.out b hs).trans (HKK.out _ Za Za Za)
   clear o4 o5 o6 k4 k5 k6 d1 d2 d3 b0 bA b8
   refine ZJ ?_
   gi_wp2
   exact⟨HKE.out,some k,g k,x2,y2,HBU.out,HX2.out,HG6.out,HJ6.out⟩
  ·have hge:¬ (0:Int)<n:=by rw[<- hn];exact ZbZ (Rat.not_lt.1 hlt)
   have HBU:=Zpe (HB.out.keep (Rat.not_lt.1 hlt))
   clear hn hlt
   gi_wp2
   exact⟨HK2.out.mono fun b _ hs=>HRE.out b hs,r,m,x,y,HBU.out,HI.out,HG2.out,HJ2.out⟩
 case done=>
  rintro W ⟨r,m,x,y,hB,hI,hG,hJk⟩ hdef
  obtain⟨sa,sb,hab,hae⟩:∃ a b,ZgS e r=spO a b/\Zib e r=spV a b:=by cases r<;>exact⟨_,_,rfl,rfl⟩
  obtain⟨ok,hok⟩:=Zpg r.isSome
  rw[hab,hok] at hG
  have HB:=Zpe hB
  have HI:=Zpe hI
  have HJN:=Zpe hJk
  have HAE:=Zpe hae
  have HOK:=Zpe hok
  clear hB hI hJk hab hae hok
  go_wp2
  refine Zaf [(true,0),(true,1),(true,2),(false,3),(false,4),(false,5)] (fun W'=>W'.heap[P+1]?=some (spO sa sb)/\W'.heap[P+1+1]?=some (pObj x y)/\W'.heap[P+1+1+1]?=some (flO ok)) (fun _=>false)
   Zb Zb (fun _ _=>rfl) Zi ⟨hG.b1,hG.b2,hG.b3⟩ ?_
  have b1:W.drew.heap[P+1]?=some (spO sa sb):=hG.b1
  have b2:W.drew.heap[P+1+1]?=some (pObj x y):=hG.b2
  have b3:W.drew.heap[P+1+1+1]?=some (flO ok):=hG.b3
  have bd:W.drew.heap[P+4]?=some (.deferred (some [])):=hdef
  have HKW:Hid (Keeps Sx w W.drew):=hG.base.drew
  have HJD:Hid (J N W.drew):=HJ.out _ _ _ HJN.out (Keeps.refl _ W).drew
  obtain⟨V3,hV3⟩:=Zpg W.drew
  rw[hV3] at b1 b2 b3 bd HKW HJD ⊢
  clear hV3 hG hdef HJN
  iterate 3
   refine Zr _ rfl rfl (fun w' hS=>by obtain⟨h1,h2,h3⟩:=hS;have a0:=Zn h1 0 (v:=.int .i64 sa) rfl;have a1:=Zn h1 1 (v:=.int .i64 sb) rfl;have e0:=Zn h2 0 (v:=.string x) rfl;have e1:=Zn h2 1 (v:=.string y) rfl;have e2:=Zn h3 0 (v:=.bool ok) rfl;exact Zf) ?_
   simp only[Act.put,Zl]
  have c0:=Zn b1 0 (v:=.int .i64 sa) rfl
  have c1:=Zn b1 1 (v:=.int .i64 sb) rfl
  have f0:=Zo b1 0
  have f1:=Zo b1 1
  refine Zt rfl rfl fun K hK=>?_
  go_simp
  obtain⟨V4,hV4⟩:=Zpg ((V3.setCell ⟨P+1,0,none⟩ (.int .i64 sa)).setCell ⟨P+1,1,none⟩ (.int .i64 sb))
  have o4:∀ j,j≠P+1->V4.heap[j]?=V3.heap[j]?:=fun j hj=>by rw[<- hV4];exact(Zos _ _ _ _ hj).trans (Zos _ _ _ _ hj)
  have d1:V4.heap[P+1]?=some (spO sa sb):=by rw[<- hV4];exact Zah b1 _ _
  have k4:Keeps (fun b=>b≠P+1) V3 V4:=by rw[<- hV4];exact((Keeps.refl _ V3).setCell Zc _).setCell Zc _
  rw[hV4]
  have b2:=(o4 _ Za).trans b2
  have b3:=(o4 _ Za).trans b3
  refine hK _ _ (.inr ⟨d1,b2,b3⟩) ?_
  clear hK K hV4 c0 c1 f0 f1 b1
  have bd:=(o4 _ Za).trans bd
  have c0:=Zn b2 0 (v:=.string x) rfl
  have c1:=Zn b2 1 (v:=.string y) rfl
  have f0:=Zo b2 0
  have f1:=Zo b2 1
  refine Zt rfl rfl fun K hK=>?_
  go_simp
  obtain⟨V5,hV5⟩:=Zpg ((V4.setCell ⟨P+1+1,0,none⟩ (.string x)).setCell ⟨P+1+1,1,none⟩ (.string y))
  have o5:∀ j,j≠P+1+1->V5.heap[j]?=V4.heap[j]?:=fun j hj=>by rw[<- hV5];exact(Zos _ _ _ _ hj).trans (Zos _ _ _ _ hj)
  have d2:V5.heap[P+1+1]?=some (pObj x y):=by rw[<- hV5];exact Zah b2 _ _
  have k5:Keeps (fun b=>b≠P+1+1) V4 V5:=by rw[<- hV5];exact((Keeps.refl _ V4).setCell Zc _).setCell Zc _
  rw[hV5]
  have d1:=(o5 _ Za).trans d1
  have b3:=(o5 _ Za).trans b3
  refine hK _ _ (.inr ⟨d1,d2,b3⟩) ?_
  clear hK K hV5 c0 c1 f0 f1 b2
  have bd:=(o5 _ Za).trans bd
  have c0:=Zn b3 0 (v:=.bool ok) rfl
  have f0:=Zo b3 0
  refine Zt rfl rfl fun K hK=>?_
  go_simp
  obtain⟨V6,hV6⟩:=Zpg (V5.setCell ⟨P+1+1+1,0,none⟩ (.bool ok))
  have o6:∀ j,j≠P+1+1+1->V6.heap[j]?=V5.heap[j]?:=fun j hj=>by rw[<- hV6];exact Zos _ _ _ _ hj
  have d3:V6.heap[P+1+1+1]?=some (flO ok):=by rw[<- hV6];exact Zov b3 _
  have k6:Keeps (fun b=>b≠P+1+1+1) V5 V6:=by rw[<- hV6];exact(Keeps.refl _ V5).setCell Zc _
  rw[hV6]
  have d1:=(o6 _ Za).trans d1
  have d2:=(o6 _ Za).trans d2
  refine hK _ _ (.inr ⟨d1,d2,d3⟩) ?_
  clear hK K hV6 c0 f0 b3
  have bd:=(o6 _ Za).trans bd
  have k9:Keeps (fun b=>b<P) V3 (V6.putObj (P+4) (.deferred none)):=
   (((k4.mono fun b _ (hb:b<P)=>Za).trans (k5.mono fun b _ (hb:b<P)=>Za)).trans (k6.mono fun b _ (hb:b<P)=>Za)).putObj (by show ¬ P+4<P;omega) _
  have HKE:Hid (Keeps Sx w (V6.putObj (P+4) (.deferred none))):=HKW.out.via k9 fun b hb _=>Za
  have HJE:Hid (J N (V6.putObj (P+4) (.deferred none))):=HJ.out _ _ _ HJD.out (by rw[HPP.out];exact k9)
  have k4':∀ {g:Nat} {o:Obj},g≠P+4->V6.heap[g]?=some o->(V6.putObj (P+4) (.deferred none)).heap[g]?=some o:=fun hg h=>(ZoJ hg).trans h
  have g1:=k4' Za d1
  have g2:=k4' Za d2
  have g3:=k4' Za d3
  clear o4 o5 o6 k4 k5 k6 k9 d1 d2 d3 k4'
  refine ZJ ?_
  go_wp2
  unfold Calm bodyPostM
  refine⟨Zc,.inl ⟨_,_,rfl,run_takeDeferred bd,?_⟩⟩
  have c0:=Zn g1 0 (v:=.int .i64 sa) rfl
  have c1:=Zn g1 1 (v:=.int .i64 sb) rfl
  have d0:=Zn g2 0 (v:=.string x) rfl
  have d1:=Zn g2 1 (v:=.string y) rfl
  have f0:=Zn g3 0 (v:=.bool ok) rfl
  refine⟨.tuple #[spV sa sb,pV x y,.bool ok],?_,r,m,x,y,by rw[HAE.out,HOK.out],HB.out,HI.out,HKE.out,HJE.out⟩
  simp[results,Tryz.f110,go_sem,c0,c1,d0,d1,f0]
 case stop=>exact fun _ _ _ _ h _=>h.elim
end Go.Proofs.YtmpaflidennnoaaGreatDoor
namespace Go.Proofs.YtmpaflidennnoaaGreatDoor
open Go.RowKit Go.Shelf
attribute [local go_sem ↓] Go.wp_at_zero Go.wp_at_succ
theorem Zex {p:List (List Int)} {u N:Nat} (h:∀ i,i<N->0<=pN p u i/\pN p u i<=48):∀ k,k<=N->0<=ZZ p u k/\ZZ p u k<=48*k
 | 0,_=>⟨Int.le_refl _,Int.le_refl _⟩
 | k+1,hk=>by
  have h1:=Zex h k Za
  have h2:=h k Za
  unfold ZZ
  omega
def LimT (t:TaskP):Prop:=(∀ s ∈ t.sites,(s.weight.1.size<=1000000/\s.weight.2.size<=1000000)/\LimB s.curve)/\∀ l ∈ t.rates,LimP l
def Zdx (P:Prop) (w:World) (e:Ending) (w':World):Prop:=((P/\e=.returned (.int .i64 0))\/(¬ P/\e=.returned (.int .i64 2)))/\Below w.heap.size w w'
theorem Zl0 {ps:List PP} {k n:Nat} (hn:ps.length=n):(∀ j,j<n->Zw k (ps.getD j (Zpa,Zpa))=true)<->∀ p ∈ ps,Zw k p=true:=by
 constructor
 ·intro h p hp
  obtain⟨j,hj,rfl⟩:=List.getElem_of_mem hp
  have:=h j Za
  rwa [show ps.getD j (Zpa,Zpa)=ps[j] by simp[List.getD,hj]] at this
 ·intro h j hj
  have hj':j<ps.length:=Za
  rw[show ps.getD j (Zpa,Zpa)=ps[j] by simp[List.getD,hj']]
  exact h _ (ZoR hj')
theorem ZjV (s t:ByteArray) (hs:s.size<=1000000) (ht:t.size<=1000000) (w:World) :
  Calls Tryz.prog 81 #[pV s t] w (Z3 w (!Zw 9 (s,t))):=by
 have HAL:=Zpe ((Zoq w.heap.size w).alloc Zpf (pObj s t))
 have HR:=Zpe (ZeC 9 s t hs ht (w.alloc (pObj s t)))
 obtain⟨r,hr⟩:=Zpg (Zw 9 (s,t))
 rw[hr] at HR ⊢
 clear hr
 go_enter Tryz.func81,Tryz.ntmps81
 go_wp2_with fail
 refine HR.out.mono ?_
 rintro e w2 ⟨rfl,hb⟩
 have HB2:=Zpe (HAL.out.trans (hb.mono HAL.out.size))
 clear hb HR HAL
 go_wp2
 go_ret
 exact⟨rfl,HB2.out⟩
abbrev ckO (v:Value) (s t:ByteArray):Obj:=.cells #[.string s,.string t,v] 74
theorem Zdr {t:TaskP} {sv hv rv:Value} {w:World} (h:TaskIn t sv hv rv w) (hz:LimT t) :
  Calls Tryz.prog 29 #[.agg #[sv,hv,rv]] w (Zdx (TaskOk t) w):=by
 obtain⟨N,hN⟩:=Zpg t.sites.length
 obtain⟨T,hT⟩:=Zpg t.hours.length
 obtain⟨R,hR⟩:=Zpg t.rates.length
 obtain⟨ps,cs,rfl,hs1,hs2⟩:=h.sites.shape hN
 obtain⟨ph,ch,rfl,hh1,hh2⟩:=h.hours.shape hT
 obtain⟨pr,cr,rfl,hr1,hr2⟩:=h.rates.shape hR
 have HT:=Zpe h
 have HZ:=Zpe hz
 have HN:=Zpe hN
 have HTT:=Zpe hT
 have HR:=Zpe hR
 have HE0:Hid (Env w.heap.size w [(w.heap.size,.cells #[.slice ps N cs,.slice ph T ch,.slice pr R cr] 26)] [] (w.alloc (.cells #[.slice ps N cs,.slice ph T ch,.slice pr R cr] 26))):=(Env.start w).push _ rfl
 have hN9:N<=9223372036854775807:=Za
 clear h hz hN hT hR
 go_enter Tryz.func29,Tryz.ntmps29
 go_wp2_with fail
 refine(ZbK N 1 24 _).mono ?_
 rintro e w1 ⟨rfl,hb⟩
 have HE1:=Zpe (HE0.out.step hb)
 clear hb HE0
 by_cases hA:1<=N/\N<=24
 rotate_left
 ·have HNO:Hid (¬ TaskOk t):=fun k=>hA (by have:=k.sites;rw[HN.out] at this;exact this)
  have hw:(decide ((1:Int)<=(N:Int)) && decide ((N:Int)<=24))=false:=by
   rw[<- Bool.not_eq_true]
   simp only[ZoY,ZoZ]
   omega
  rw[hw]
  clear hA hw
  go_wp2
  exact Zor (v:=.int .i64 2) (by simp[results,Tryz.f29,go_sem]) rfl ⟨.inr ⟨HNO.out,rfl⟩,HE1.out.base⟩
 have hw:(decide ((1:Int)<=(N:Int)) && decide ((N:Int)<=24))=true:=by simp;omega
 rw[hw]
 clear hw
 have b0:=HE1.out.cell 0 0 (v:=.slice ps N cs) rfl rfl
 have b1:=HE1.out.cell 0 1 (v:=.slice ph T ch) rfl rfl
 have b2:=HE1.out.cell 0 2 (v:=.slice pr R cr) rfl rfl
 go_wp2_with fail
 refine(ZbK T 1 8 _).mono ?_
 rintro e w2 ⟨rfl,hb⟩
 have HE2:=Zpe (HE1.out.step hb)
 clear hb HE1 b0 b1 b2
 by_cases hB:1<=T/\T<=8
 rotate_left
 ·have HNO:Hid (¬ TaskOk t):=fun k=>hB (by have:=k.teams;rw[HTT.out] at this;exact this)
  have hw:(decide ((1:Int)<=(T:Int)) && decide ((T:Int)<=8))=false:=by
   rw[<- Bool.not_eq_true]
   simp only[ZoY,ZoZ]
   omega
  rw[hw]
  clear hB hw
  go_wp2
  exact Zor (v:=.int .i64 2) (by simp[results,Tryz.f29,go_sem]) rfl ⟨.inr ⟨HNO.out,rfl⟩,HE2.out.base⟩
 have hw:(decide ((1:Int)<=(T:Int)) && decide ((T:Int)<=8))=true:=by simp;omega
 rw[hw]
 clear hw
 have b0:=HE2.out.cell 0 0 (v:=.slice ps N cs) rfl rfl
 have b1:=HE2.out.cell 0 1 (v:=.slice ph T ch) rfl rfl
 have b2:=HE2.out.cell 0 2 (v:=.slice pr R cr) rfl rfl
 by_cases hC:R=T
 rotate_left
 ·have HNO:Hid (¬ TaskOk t):=fun k=>hC (by have:=k.rates;rw[HR.out,HTT.out] at this;exact this)
  have hc:((R:Int) !=(T:Int))=true:=by rw[bne_iff_ne];omega
  clear hC
  go_wp2
  exact Zor (v:=.int .i64 2) (by simp[results,Tryz.f29,go_sem]) rfl ⟨.inr ⟨HNO.out,rfl⟩,HE2.out.base⟩
 subst hC
 have hc:((R:Int) !=(R:Int))=false:=Zc
 go_wp2_with fail
 clear b0 b1 b2 hc
 go_loopw [32] (fun iv wr=>∃ k:Nat,iv=.int .i64 k/\k<=N/\Hid (∀ i,i<k->Zw 9 (eS t i).weight=true/\CurveP (eS t i).curve)/\Hid (Env w.heap.size w [(w.heap.size,.cells #[.slice ps N cs,.slice ph R ch,.slice pr R cr] 26)] [] wr)) (fun iv _=>N-(intOf iv).toNat)
 case atStart=>exact⟨0,rfl,ZoD _,fun i h=>Zo4 h (ZoQ _),HE2⟩
 case round=>
  obtain⟨k,rfl,hk,HK,HE⟩:=hrel
  clear HE2
  by_cases hlt:k<N
  ·obtain⟨sb,so,rfl,hsb,hat⟩:=HT.out.sites.at Zc0.stays HN.out Za
   have hkl:k<t.sites.length:=by rw[HN.out];exact hlt
   obtain⟨e0,e1,v,e2,hbl⟩:=hat wr HE.out.base k hkl
   obtain⟨⟨hz1,hz2⟩,hzb⟩:=HZ.out.1 _ (ZoR hkl)
   rw[Zfh hkl] at e0 e1 hbl hz1 hz2 hzb
   obtain⟨⟨s1,t1⟩,hs1'⟩:∃ z,(eS t k).weight=z:=⟨_,rfl⟩
   rw[hs1'] at e0 e1 hz1 hz2
   have HSW:=Zpe hs1'
   obtain⟨pq,cq,rfl,_⟩:=id hbl
   obtain⟨nq,hnq⟩:=Zpg ((eS t k).curve.length)
   rw[hnq] at e2 hbl
   have HBL:=Zpe hbl
   have HZB:=Zpe hzb
   dsimp only at e0 e1 hz1 hz2
   have HE3:=Zpe (HE.out.push (ckO (.slice pq nq cq) s1 t1) rfl)
   have HAL:Hid (Below wr.heap.size wr (wr.alloc (ckO (.slice pq nq cq) s1 t1))):=(Zoq _ wr).alloc Zpf _
   have i0':(0:Int)<=(k:Int):=Za
   have i1':(k:Int)<(N:Int):=Za
   clear hat hbl hzb hs1' hnq
   go_wp2_with fail
   refine(ZeC 9 s1 t1 hz1 hz2 _).mono ?_
   rintro e w4 ⟨rfl,hb⟩
   have HE4:=Zpe ((HE3.out.step hb).only [1,0] _ rfl Zd)
   have HB4:Zo8 wr w4:=HAL.out.trans (hb.mono HAL.out.size)
   clear hb e0 e1 e2 HE3 HAL
   cases hsm:Zw 9 (s1,t1)
   ·have HNO:Hid (¬ TaskOk t):=fun h=>by
     have:=(h.site k (by rw[HN.out];exact hlt)).1
     rw[HSW.out,hsm] at this
     cases this
    clear hsm
    go_wp2
    exact Zor (v:=.int .i64 2) (by simp[results,Tryz.f29,go_sem]) rfl ⟨.inr ⟨HNO.out,rfl⟩,HE4.out.base⟩
   ·have HSM:=Zpe hsm
    have c2:=HE4.out.cell 1 2 (v:=.slice pq nq cq) rfl rfl
    clear hsm
    go_wp2_with fail
    refine(Zea (HBL.out.after HB4.out Zpf) HZB.out ((HT.out.below HE4.out.base Zpf).det) ((HT.out.below HE4.out.base Zpf).tabs)).mono ?_
    rintro e w5 ⟨n,rfl,hE,hb⟩
    have HE5:=Zpe ((HE4.out.step hb).only [0] _ rfl Zd)
    clear hb c2 HE4
    rcases hE with ⟨hc,rfl⟩ | ⟨hc,rfl⟩
    ·have HK2:Hid (∀ i,i<k+1->Zw 9 (eS t i).weight=true/\CurveP (eS t i).curve):=fun i hi=>by
      rcases Zow i k with h | h
      ·exact HK.out i h
      ·obtain rfl:i=k:=Za
       exact⟨by rw[HSW.out];exact HSM.out,hc⟩
     clear hc
     go_wp2
     go_roundw
     case rel=>exact⟨k+1,by go_num,Za,HK2,HE5⟩
     case measure=>exact Zj
    ·have HNO:Hid (¬ TaskOk t):=fun h=>hc (h.site k (by rw[HN.out];exact hlt)).2
     clear hc
     go_wp2
     exact Zor (v:=.int .i64 2) (by simp[results,Tryz.f29,go_sem]) rfl ⟨.inr ⟨HNO.out,rfl⟩,HE5.out.base⟩
  ·have hkN:k=N:=Za
   have HSI:Hid (∀ i,i<N->Zw 9 (eS t i).weight=true/\CurveP (eS t i).curve):=by rw[<- hkN];exact HK.out
   clear HK hkN
   have b0:=HE.out.cell 0 0 (v:=.slice ps N cs) rfl rfl
   have b1:=HE.out.cell 0 1 (v:=.slice ph R ch) rfl rfl
   have b2:=HE.out.cell 0 2 (v:=.slice pr R cr) rfl rfl
   go_wp2_with fail
   clear b0 b1 b2
   go_loopw [50] (fun iv wr=>∃ u:Nat,iv=.int .i64 u/\u<=R/\Hid (∀ v (h:v<t.rates.length),v<u->(0<=eH t v/\eH t v<=48)/\t.rates[v].length=N/\∀ p ∈ t.rates[v],Zw 9 p=true)/\Hid (Env w.heap.size w [(w.heap.size,.cells #[.slice ps N cs,.slice ph R ch,.slice pr R cr] 26)] [] wr)) (fun iv _=>R-(intOf iv).toNat)
   case atStart=>exact⟨0,rfl,ZoD _,fun v _ h=>Zo4 h (ZoQ _),HE⟩
   case round=>
    clear HE
    obtain⟨u,rfl,hu,HU,HE⟩:=hrel
    by_cases hlt2:u<R
    ·obtain⟨rb,ro,rfl,hrb,hrat⟩:=HT.out.rates.at PPL.stays HR.out Za
     obtain⟨hb',ho,rfl,hhb,hhat⟩:=HT.out.hours.at IntR.stays HTT.out Za
     have hul:u<t.rates.length:=by rw[HR.out];exact hlt2
     have hul2:u<t.hours.length:=by rw[HTT.out];exact hlt2
     obtain⟨v,e0,hpl⟩:=hrat _ HE.out.base u hul
     have e1:=hhat _ HE.out.base u hul2
     unfold IntR at e1
     rw[Zo2] at e0 e1
     rw[ZiB hul2] at e1
     have hzl:=HZ.out.2 _ (ZoR hul)
     obtain⟨l,hl⟩:=Zpg (t.rates[u])
     rw[hl] at hpl hzl
     have HL:=Zpe hl
     obtain⟨nl,hnl⟩:=Zpg l.length
     obtain⟨pl,cl,rfl⟩:∃ p c,v=.slice p nl c:=by obtain⟨p,c,h,_⟩:=id hpl;exact⟨_,_,by rw[<- hnl];exact h⟩
     obtain⟨hh,hhh⟩:=Zpg (eH t u)
     rw[hhh] at e1
     have HNL:=Zpe hnl
     have HHH:=Zpe hhh
     have HPL:Hid (∀ V,Below wr.heap.size wr V->PL V (.slice pl nl cl) l):=fun V hV=>hpl.after hV Zpf
     have HZL:=Zpe hzl
     have i0':(0:Int)<=(u:Int):=Za
     have i1':(u:Int)<(R:Int):=Za
     clear hrat hhat hl hnl hhh hpl hzl
     have b0:=HE.out.cell 0 0 (v:=.slice ps N cs) rfl rfl
     have b1:=HE.out.cell 0 1 (v:=.slice (some ⟨hb',ho,none⟩) R ch) rfl rfl
     have b2:=HE.out.cell 0 2 (v:=.slice (some ⟨rb,ro,none⟩) R cr) rfl rfl
     go_wp2_with fail
     refine(ZbK hh 0 48 _).mono ?_
     rintro e w6 ⟨rfl,hb⟩
     have HE6:=Zpe (HE.out.step hb)
     have HB6:=Zpe hb
     clear hb b0 b1 b2 e0 e1 HE
     by_cases hw:0<=hh/\hh<=48
     rotate_left
     ·have HNO:Hid (¬ TaskOk t):=fun h=>hw (by have:=(h.team u hul).1;rw[HHH.out] at this;exact this)
      have hwd:(decide ((0:Int)<=hh) && decide (hh<=48))=false:=by
       rw[<- Bool.not_eq_true]
       simp only[ZoY,ZoZ]
       omega
      rw[hwd]
      clear hw hwd
      go_wp2
      exact Zor (v:=.int .i64 2) (by simp[results,Tryz.f29,go_sem]) rfl ⟨.inr ⟨HNO.out,rfl⟩,HE6.out.base⟩
     have hwd:(decide ((0:Int)<=hh) && decide (hh<=48))=true:=by simp;omega
     rw[hwd]
     clear hwd
     have b0:=HE6.out.cell 0 0 (v:=.slice ps N cs) rfl rfl
     have b1:=HE6.out.cell 0 1 (v:=.slice (some ⟨hb',ho,none⟩) R ch) rfl rfl
     have b2:=HE6.out.cell 0 2 (v:=.slice (some ⟨rb,ro,none⟩) R cr) rfl rfl
     by_cases hD:nl=N
     rotate_left
     ·have HNO:Hid (¬ TaskOk t):=fun h=>hD (by have:=(h.team u hul).2.1;rw[HL.out,HNL.out,HN.out] at this;exact this)
      have hc:((nl:Int) !=(N:Int))=true:=by rw[bne_iff_ne];omega
      clear hD
      go_wp2
      exact Zor (v:=.int .i64 2) (by simp[results,Tryz.f29,go_sem]) rfl ⟨.inr ⟨HNO.out,rfl⟩,HE6.out.base⟩
     subst hD
     have hc:((nl:Int) !=(nl:Int))=false:=Zc
     go_wp2_with fail
     refine(Zdg (enters_of Tryz.func81 Zb rfl) (f:=fun j=>!Zw 9 (l.getD j (Zpa,Zpa))) (caps:=#[]) (HPL.out _ HB6.out) HNL.out fun j hj W hW=>?_).mono ?_
     ·have hj2:j<l.length:=by first | exact hj | (rw[HNL.out];exact hj)
      have hzz:=HZL.out _ (ZoR hj2)
      have e:l.getD j (Zpa,Zpa)=l[j]:=by simp[List.getD,hj2]
      rw[e]
      have:=ZjV l[j].1 l[j].2 hzz.1 hzz.2 W
      simpa using this
     rintro e w7 ⟨bb,rfl,hE,hb⟩
     have HE7:=Zpe (HE6.out.step hb)
     clear hb b0 b1 b2 hc HE6 HB6
     rcases hE with ⟨rfl,j,hj,hj2⟩ | ⟨rfl,hall⟩
     ·have HNO:Hid (¬ TaskOk t):=fun h=>by
       have h3:=(h.team u hul).2.2 j (by rw[HN.out];exact hj)
       have h4:j<t.rates[u].length:=by rw[HL.out,HNL.out];exact hj
       rw[<- Zgv hul h4] at h3
       have h5:j<l.length:=by rw[HNL.out];exact hj
       dsimp only at hj2
       rw[show l.getD j (Zpa,Zpa)=t.rates[u][j] by simp[List.getD,h5,HL.out],h3] at hj2
       cases hj2
      clear hj hj2
      go_wp2
      exact Zor (v:=.int .i64 2) (by simp[results,Tryz.f29,go_sem]) rfl ⟨.inr ⟨HNO.out,rfl⟩,HE7.out.base⟩
     ·have HU2:Hid (∀ v (h:v<t.rates.length),v<u+1->(0<=eH t v/\eH t v<=48)/\t.rates[v].length=nl/\∀ p ∈ t.rates[v],Zw 9 p=true):=fun v hv hvu=>by
       rcases Zow v u with h | h
       ·exact HU.out v hv h
       ·obtain rfl:v=u:=Za
        refine⟨by rw[HHH.out];exact hw,by rw[HL.out,HNL.out],?_⟩
        rw[HL.out]
        exact(Zl0 HNL.out).1 fun j hj=>by have:=hall j hj;simpa using this
      clear hall hw
      go_wp2
      go_roundw
      case rel=>exact⟨u+1,by go_num,Za,HU2,HE7⟩
      case measure=>exact Zj
    ·have HYES:Hid (TaskOk t):=by
      have huR:u=R:=Za
      refine⟨by rw[HN.out];exact hA,by rw[HTT.out];exact hB,by rw[HR.out,HTT.out],fun i hi=>HSI.out i (by rw[<- HN.out];exact hi),fun v hv=>?_⟩
      obtain⟨h1,h2,h3⟩:=HU.out v hv (by rw[huR,<- HR.out];exact hv)
      refine⟨h1,by rw[HN.out];exact h2,fun i hi=>?_⟩
      have hi2:i<t.rates[v].length:=by rw[h2,<- HN.out];exact hi
      rw[<- Zgv hv hi2]
      exact h3 _ (ZoR hi2)
     go_wp2
     exact Zor (v:=.int .i64 0) (by simp[results,Tryz.f29,go_sem]) rfl ⟨.inl ⟨HYES.out,rfl⟩,HE.out.base⟩
end Go.Proofs.YtmpaflidennnoaaGreatDoor
