/- The parts EGain, EGreat0, EGreatS, ECheck, ESpots, EPlan, EBegin. -/
import Derived.Test.YtmpaflidennnoaaGreatDoorH12
set_option maxRecDepth 100000
set_option maxHeartbeats 8000000
set_option linter.unusedVariables false
set_option linter.unusedSimpArgs false
namespace Go.Proofs.YtmpaflidennnoaaGreatDoor
open Go.RowKit Go.Shelf
attribute [local go_sem ↓] Go.wp_at_zero Go.wp_at_succ
theorem Zm8 {bs:List BB} (h:CurveP bs) {a b:Rat} (hab:a<=b):chF bs a<=chF bs b:=ZW.mono h.conc' hab (ZdJ h a) (ZdJ h b)
theorem Zmg {t:TaskP} {p:List (List Int)} (ok:TaskOk t) (inn:Zbz t p) {u i:Nat} (hu:u<t.rates.length) (hi:i<t.sites.length) :
  (∃ x y,IsP (covR t p i+rR t u i) x y)/\Sz 300 (covR t p i+rR t u i)/\Sz 300 (covR t p i)/\(∃ x y,IsP (chF (eS t i).curve (covR t p i+rR t u i)-chF (eS t i).curve (covR t p i)) x y)/\(∃ x y,IsP (ZaQ t p u i) x y)/\0<=ZaQ t p u i:=by
 obtain⟨c1,c2,c3⟩:=Zc1 ok inn hi (Nat.le_refl p.length)
 obtain⟨r1,r2⟩:=Zd3 ok hu hi
 obtain⟨w1,w2⟩:=Zdr ok hi
 have n0:0<=covR t p i+rR t u i:=by
  have:=r1.nn
  have h:covR t p i=ZaL t p i p.length:=rfl
  rw[h]
  grind
 have z0:Sz 107 (covR t p i+rR t u i):=(Sz.add c3 r1.nn c2 r2).mono Zd
 obtain⟨d1,d2,d3,d4⟩:=ZdA ok hi n0 z0 Zd
 obtain⟨e1,e2,e3,e4⟩:=ZdA ok hi c3 c2 Zd
 have hle:chF (eS t i).curve (covR t p i)<=chF (eS t i).curve (covR t p i+rR t u i):=Zm8 (ok.site i hi).2 (by have:=r1.nn;grind)
 have n1:0<=chF (eS t i).curve (covR t p i+rR t u i)-chF (eS t i).curve (covR t p i):=Zk
 have z1:=Sz.sub d3 e3 hle d2 e2
 have n2:=Rat.mul_nonneg w1.nn n1
 exact⟨Zaa n0 z0 Zd Zd,z0.mono Zd,(show Sz 97 (covR t p i) from c2).mono Zd,Zaa n1 z1 Zd Zd,Zaa n2 (Sz.mul w1.nn n1 w2 z1) Zd Zd,n2⟩
theorem Zl3 {t:TaskP} {p:List (List Int)} {b m n:Nat} {sv hv rv pv:Value} {pb po pc:Nat} {gq gp gc:Nat->Nat} {w:World} (h:WorkW t b m sv hv rv pv w) (hP:PlanW p t.sites.length m pv pb po pc gq gp gc w) (hm:Memo w m t n) (hn:n<=900000000000) (ok:TaskOk t) (inn:Zbz t p)
  {u i:Nat} (hu:u<t.rates.length) (hi:i<t.sites.length) :
  Calls Tryz.prog 78 #[.pointer (some ⟨b,0,none⟩),.int .i64 u,.int .i64 i] w (Zel (ZaQ t p u i) m t (n+4) w):=by
 obtain⟨sb,so,sc,hb,ho,hc,rb,ro,rk,cv,rq,rp,rc,k1,k2,k3,hA⟩:=h.open ok
 obtain⟨N,hN⟩:=ZpB t.sites.length
 obtain⟨T,hT⟩:=ZpB t.rates.length
 have HS:Hid (∀ V,Keeps (NotM m) w V->(V.cell? ⟨b,0,none⟩=some (.slice (some ⟨sb,so,none⟩) N sc)/\V.cell? ⟨sb,so+i*3,none⟩=some (.string (eS t i).weight.1)/\V.cell? ⟨sb,so+i*3+1,none⟩=some (.string (eS t i).weight.2))/\
   (V.cell? ⟨b,2,none⟩=some (.slice (some ⟨rb,ro,none⟩) T rk)/\V.cell? ⟨rb,ro+u,none⟩=some (.slice (some ⟨rq u,rp u,none⟩) N (rc u))/\V.cell? ⟨rq u,rp u+i*2,none⟩=some (.string (eR t u i).1)/\V.cell? ⟨rq u,rp u+i*2+1,none⟩=some (.string (eR t u i).2))/\Tabs V):=fun V hV=>by
  have A:=hA V hV
  obtain⟨a0,a1,a2,_⟩:=A.at'.site i hi
  obtain⟨b0,_,_,b1⟩:=A.at'.rate u hu
  rw[hN] at b0
  exact⟨⟨by rw[<- hN];exact A.w0,a0,a1⟩,⟨by rw[<- hT];exact A.w2,b0,b1 i hi⟩,A.at'.tabs⟩
 have HCV:Hid (∀ V,Keeps (NotM m) w V->Calls Tryz.prog 71 #[.pointer (some ⟨b,0,none⟩),.int .i64 i] V (fun e w'=>∃ x y,e=.returned (pV x y)/\IsP (covR t p i) x y/\Below V.heap.size V w')):=fun V hV=>
  Zhx (h.keep hV) (hP.keep hV) ok inn hi
 have HCH:Hid (∀ V k q x y,Keeps (NotM m) w V->Memo V m t k->k<=1000000000000->IsP q x y->Sz 300 q->Calls Tryz.prog 120 #[.pointer (some ⟨b,0,none⟩),.int .i64 i,pV x y] V (Zel (chF (eS t i).curve q) m t (k+1) V)):=fun V k q x y hV hk hk2 hx hz=>
  ZfY (h.keep hV) hk hk2 ok hi hx hz
 have HF:=Zpz (Zmg ok inn hu hi)
 have HWR:Hid (IsP (wR t i) (eS t i).weight.1 (eS t i).weight.2):=(Zdr ok hi).1
 have HRR:Hid (IsP (rR t u i) (eR t u i).1 (eR t u i).2):=(Zd3 ok hu hi).1
 have HM:=Zpz hm
 have HN:=Zpz hn
 have hsc:N<=sc/\sc<=9223372036854775807:=by rw[<- hN];exact k1
 have hrk:T<=rk/\rk<=9223372036854775807:=by rw[<- hT];exact k3
 obtain⟨_,hrc1,hrc2,_⟩:=(hA w (Keeps.refl _ _)).at'.rate u hu
 rw[hN] at hi hrc1
 rw[hT] at hu
 obtain⟨q1,hq1⟩:=ZpB (rq u)
 obtain⟨o1,ho1⟩:=ZpB (rp u)
 obtain⟨c1,hc1⟩:=ZpB (rc u)
 obtain⟨⟨s1,t1⟩,hs1⟩:∃ z,eR t u i=z:=⟨_,rfl⟩
 obtain⟨⟨s2,t2⟩,hs2⟩:∃ z,(eS t i).weight=z:=⟨_,rfl⟩
 rw[hq1,ho1,hc1,hs1,hs2] at HS
 rw[hc1] at hrc1 hrc2
 rw[hs1] at HRR
 rw[hs2] at HWR
 dsimp only at HS HRR HWR
 clear h hP hm hn ok inn hA k1 k2 k3 hN hT hq1 ho1 hc1 hs1 hs2
 have HE0:Hid (Wk m t n w [(w.heap.size,pObj Zpv Zpv)] (w.alloc (pObj Zpv Zpv))):=(Wk.start HM.out).push _ rfl
 clear HM
 have i0':(0:Int)<=(i:Int):=Za
 have i1':(i:Int)<(N:Int):=Za
 have u0':(0:Int)<=(u:Int):=Za
 have u1':(u:Int)<(T:Int):=Za
 go_enter Tryz.func78,Tryz.ntmps78
 go_wp2_with fail
 refine(HCV.out _ HE0.out.base).mono ?_
 rintro e w1 ⟨xc,yc,rfl,hxc,hb1⟩
 have HXC:=Zpz hxc
 obtain⟨G,hG⟩:=ZpB w.heap.size
 obtain⟨g7,hg7⟩:=ZpB w1.heap.size
 obtain⟨w2,hw2⟩:=ZpB (w1.alloc (pObj xc yc))
 have HE2:Hid (Wk m t n w [(g7,pObj xc yc),(G,pObj Zpv Zpv)] w2):=by rw[<- hw2,<- hG];exact(HE0.out.step hb1).push _ hg7.symm
 clear hxc hb1 HE0
 go_wp2_with fail
 try rw[hg7]
 try rw[hw2]
 try rw[hG]
 clear hg7 hw2 hG
 obtain⟨⟨xm,ym,hxm⟩,hzm,hzc,⟨xd,yd,hxd⟩,⟨xg,yg,hxg⟩,_⟩:=HF.out
 have HXM:=Zpz hxm
 have HXD:=Zpz hxd
 have HXG:=Zpz hxg
 have HZ:=Zpz (Zpq hzm hzc)
 clear hxm hxd hxg hzm hzc HF
 refine Za5 16 8 [(0,17)] [(1,0),(1,1),(1,2),(1,3),(1,4),(1,5),(1,6),(1,7),(1,8),(1,9),(1,10),(1,11),(0,12),(1,13),(1,14),(0,15)] (fun _ g V=>Wk m t n w (Zc5 (pObj Zpv Zpv) [(g7,pObj xc yc),(G,pObj Zpv Zpv)] g) V) (fun i=>i==17)
  Zb Zb (fun j hj=>by have h:18<=j:=hj;simp;omega) Zi rfl rfl (fun _=>rfl) (fun a V K hK=>by go_simp;exact hK) (fun j V h=>h.push _ rfl) HE2.out.drew ?_
 iterate 12
  refine Z4 _ rfl (fun z=>rfl) (fun z j g w' hS=>by have hE:=hS.bare;have c0:=hE.cell 0 0 (v:=.string xc) rfl rfl;have c1:=hE.cell 0 1 (v:=.string yc) rfl rfl;obtain⟨_,⟨e0,e1,e2,e3⟩,_⟩:=HS.out _ hE.base;exact Zg) ?_
  simp only[Act.put,Zl]
 refine Z6 42 _ rfl (fun z=>rfl) (fun z w'=>Zh) (fun g V hS=>?_)
 refine(Zit HXC.out HRR.out HXM.out rfl _ (HS.out _ hS.bare.base).2.2).mono ?_
 rintro e V' ⟨rfl,hb⟩
 refine .inl ⟨_,rfl,hS.step hb,?_⟩
 clear hb hS
 simp only[Act.put,Zl]
 iterate 2
  refine Z4 _ rfl (fun z=>rfl) (fun z j g w' hS=>Zg) ?_
  simp only[Act.put,Zl]
 refine Z6 103 _ rfl (fun z=>rfl) (fun z w'=>Zh) (fun g V hS=>?_)
 refine(ZaH xm ym _).mono ?_
 rintro e V' ⟨rfl,hb⟩
 refine .inl ⟨_,rfl,hS.step hb,?_⟩
 clear hb hS
 simp only[Act.put,Zl]
 refine ZbH fun g8 V hS=>?_
 simp only[Act.put,Zl]
 have HE8:Hid (Wk m t n w [(g8,pObj Zpv Zpv),(g7,pObj xc yc),(G,pObj Zpv Zpv)] V):=hS
 have r0:=HE8.out.cell 0 0 rfl rfl
 have r1:=HE8.out.cell 0 1 rfl rfl
 have f0:=HE8.out.free 0 0 rfl
 have f1:=HE8.out.free 0 1 rfl
 refine ZB rfl rfl fun K hK=>?_
 go_simp
 have HE9:=Zpz (HE8.out.fill (.string xm) (.string ym))
 refine hK _ _ (.inl rfl) ?_
 clear hK K r0 r1 f0 f1 HE8 HE2 hS
 refine ZF ?_
 obtain⟨Z,hZ⟩:=ZpB ((V.setCell ⟨g8,0,none⟩ (.string xm)).setCell ⟨g8,1,none⟩ (.string ym))
 rw[hZ] at HE9 ⊢
 clear hZ
 go_wp2_with fail
 refine Za5 12 9 [(0,13)] [(1,0),(1,1),(1,2),(1,4),(1,5),(1,6),(0,3),(0,7),(0,8),(1,9),(1,10),(0,11)] (fun j g V=>Wk m t (n+j) w (Zc5 (pObj Zpv Zpv) [(g8,pObj xm ym),(g7,pObj xc yc),(G,pObj Zpv Zpv)] g) V) (fun i=>i==13)
  Zb Zb (fun j hj=>by have h:14<=j:=hj;simp;omega) Zi rfl rfl (fun _=>rfl) (fun a V K hK=>by go_simp;exact hK) (fun j V h=>h.push _ rfl) HE9.out.drew ?_
 iterate 6
  refine Z4 _ rfl (fun z=>rfl) (fun z j g w' hS=>by have hE:=hS.bare;have c0:=hE.cell 0 0 (v:=.string xm) rfl rfl;have c1:=hE.cell 0 1 (v:=.string ym) rfl rfl;have d0:=hE.cell 1 0 (v:=.string xc) rfl rfl;have d1:=hE.cell 1 1 (v:=.string yc) rfl rfl;exact Zg) ?_
  simp only[Act.put,Zl]
 refine Z6 120 _ rfl (fun z=>rfl) (fun z w'=>Zh) (fun g V hS=>?_)
 refine(HCH.out _ _ _ _ _ hS.bare.base hS.memo (by have:=HN.out;omega) HXM.out HZ.out.1).mono ?_
 rintro e V' ⟨x1,y1,rfl,hx1,hb,hmm⟩
 have HX1:=Zpz hx1
 refine .inl ⟨_,rfl,hS.call hb hmm,?_⟩
 clear hb hS hmm hx1
 simp only[Act.put,Zl]
 refine Z6 120 _ rfl (fun z=>rfl) (fun z w'=>Zh) (fun g V hS=>?_)
 refine(HCH.out _ _ _ _ _ hS.bare.base hS.memo (by have:=HN.out;omega) HXC.out HZ.out.2).mono ?_
 rintro e V' ⟨x2,y2,rfl,hx2,hb,hmm⟩
 have HX2:=Zpz hx2
 refine .inl ⟨_,rfl,hS.call hb hmm,?_⟩
 clear hb hS hmm hx2
 simp only[Act.put,Zl]
 refine Z6 104 _ rfl (fun z=>rfl) (fun z w'=>Zh) (fun g V hS=>?_)
 refine(ZdR HX1.out HX2.out HXD.out rfl _ (HS.out _ hS.bare.base).2.2).mono ?_
 rintro e V' ⟨rfl,hb⟩
 refine .inl ⟨_,rfl,(hS.step hb).mono Za,?_⟩
 clear hb hS
 simp only[Act.put,Zl]
 iterate 2
  refine Z4 _ rfl (fun z=>rfl) (fun z j g w' hS=>Zg) ?_
  simp only[Act.put,Zl]
 refine Z6 103 _ rfl (fun z=>rfl) (fun z w'=>Zh) (fun g V hS=>?_)
 refine(ZaH xd yd _).mono ?_
 rintro e V' ⟨rfl,hb⟩
 refine .inl ⟨_,rfl,(hS.step hb).mono Za,?_⟩
 clear hb hS
 simp only[Act.put,Zl]
 refine ZbH fun g9 V hS=>?_
 simp only[Act.put,Zl]
 have HE8:Hid (Wk m t (n+4) w [(g9,pObj Zpv Zpv),(g8,pObj xm ym),(g7,pObj xc yc),(G,pObj Zpv Zpv)] V):=hS
 have r0:=HE8.out.cell 0 0 rfl rfl
 have r1:=HE8.out.cell 0 1 rfl rfl
 have f0:=HE8.out.free 0 0 rfl
 have f1:=HE8.out.free 0 1 rfl
 refine ZB rfl rfl fun K hK=>?_
 go_simp
 have HE10:=Zpz ((HE8.out.fill (.string xd) (.string yd)).only [0,3] _ rfl Zd)
 refine hK _ _ (.inl rfl) ?_
 clear hK K r0 r1 f0 f1 HE8 hS HE9
 refine ZF ?_
 obtain⟨Z2,hZ⟩:=ZpB ((V.setCell ⟨g9,0,none⟩ (.string xd)).setCell ⟨g9,1,none⟩ (.string yd))
 rw[hZ] at HE10 ⊢
 clear hZ
 go_wp2_with fail
 refine ZP [(1,0),(1,1),(1,2),(1,3),(1,4),(1,5),(1,6),(1,7),(1,8),(1,9),(0,10),(1,11),(1,12),(0,13),(0,14)] (Wk m t (n+4) w [(g9,pObj xd yd),(G,pObj Zpv Zpv)]) (fun i=>i==14)
  Zb Zb (fun j hj=>by have h:15<=j:=hj;simp;omega) Zi HE10.out.drew ?_
 obtain⟨w4,hw4⟩:=ZpB Z2.drew
 have HE4:Hid (Wk m t (n+4) w [(g9,pObj xd yd),(G,pObj Zpv Zpv)] w4):=by rw[<- hw4];exact HE10.out.drew
 rw[hw4]
 clear hw4 HE10
 iterate 10
  refine Zx _ rfl rfl (fun w' hS=>by have c0:=hS.cell 0 0 (v:=.string xd) rfl rfl;have c1:=hS.cell 0 1 (v:=.string yd) rfl rfl;obtain⟨⟨e0,e1,e2⟩,_,_⟩:=HS.out _ hS.base;exact Ze) ?_
  simp only[Act.put,Zl]
 refine Zz 119 _ rfl rfl Zf ?_
 have HEC:=HE4
 refine(ZdY HWR.out HXD.out HXG.out rfl _ (HS.out _ HEC.out.base).2.2).mono ?_
 rintro e w5 ⟨rfl,hb⟩
 have HE5:=Zpz (HEC.out.step hb)
 refine .inl ⟨_,rfl,HE5.out,?_⟩
 clear hb HEC
 simp only[Act.put,Zl]
 iterate 2
  refine Zx _ rfl rfl (fun w' hS=>Ze) ?_
  simp only[Act.put,Zl]
 refine Zz 103 _ rfl rfl Zf ?_
 have HEC:=HE5
 refine(ZaH xg yg _).mono ?_
 rintro e w6 ⟨rfl,hb⟩
 have HE6:=Zpz (HEC.out.step hb)
 refine .inl ⟨_,rfl,HE6.out,?_⟩
 clear hb HEC
 simp only[Act.put,Zl]
 have HE7:=Zpz (HE6.out.only [1] _ rfl Zd)
 have r0:=HE7.out.cell 0 0 rfl rfl
 have r1:=HE7.out.cell 0 1 rfl rfl
 have f0:=HE7.out.free 0 0 rfl
 have f1:=HE7.out.free 0 1 rfl
 refine ZB rfl rfl fun K hK=>?_
 go_simp
 have HE9:=Zpz (HE7.out.fill (.string xg) (.string yg))
 refine hK _ _ (.inl rfl) ?_
 clear hK K r0 r1 f0 f1 HE4 HE5 HE6 HE7
 refine ZF ?_
 go_wp2
 have q0:=HE9.out.cell 0 0 (v:=.string xg) rfl rfl
 have q1:=HE9.out.cell 0 1 (v:=.string yg) rfl rfl
 exact ZoM (v:=Zpw xg yg) (by simp[results,Tryz.f78,go_sem,q0,q1]) rfl ⟨xg,yg,rfl,HXG.out,HE9.out.base,HE9.out.memo⟩
theorem Keeps.via {S S':Nat->Prop} {a w w':World} (h:Keeps S a w) (k:Keeps S' w w') (hs:∀ b,b<a.heap.size->S b->S' b):Keeps S a w':=
 ⟨k.os.trans h.os,k.tape.trans h.tape,k.output.trans h.output,ZoU h.size k.size,fun i hi hS=>(k.block i (ZoS hi h.size) (hs i hi hS)).trans (h.block i hi hS)⟩
theorem Keeps.at {S:Nat->Prop} {w w':World} (h:Keeps S w w') {g:Nat} {o:Obj} (hg:w.heap[g]?=some o) (hs:S g):w'.heap[g]?=some o:=(h.block g (Zpu hg) hs).trans hg
abbrev flO (b:Bool):Obj:=.cells #[.bool b] 4
structure GreatI (Sx:Nat->Prop) (w:World) (P:Nat) (fO bO:Obj) (x y:ByteArray) (ok:Bool) (W:World):Prop where
 base:Keeps Sx w W
 b0:W.heap[P]?=some fO
 b1:W.heap[P+1]?=some bO
 b2:W.heap[P+1+1]?=some (pObj x y)
 b3:W.heap[P+1+1+1]?=some (flO ok)
theorem GreatI.keep {Sx S:Nat->Prop} {w W W':World} {P:Nat} {fO bO:Obj} {x y:ByteArray} {ok:Bool} (h:GreatI Sx w P fO bO x y ok W) (hP:P=w.heap.size) (hk:Keeps S W W') (h1:∀ b,b<P->Sx b->S b) (h2:S P/\S (P+1)/\S (P+1+1)/\S (P+1+1+1)):GreatI Sx w P fO bO x y ok W':=
 ⟨h.base.via hk fun b hb hs=>h1 b Za hs,hk.at h.b0 h2.1,hk.at h.b1 h2.2.1,hk.at h.b2 h2.2.2.1,hk.at h.b3 h2.2.2.2⟩
def ZmC (Sx:Nat->Prop) (w:World) (P:Nat) (fO:Obj) (bO:Option Nat->Obj) (g:Nat->Rat) (J:Nat->World->Prop) (k:Nat) (W:World):Prop:=
 ∃ r m x y,Best g k r m/\IsP m x y/\GreatI Sx w P fO (bO r) x y r.isSome W/\J k W
def Ze7 (Sx:Nat->Prop) (enc:Option Nat->Value) (g:Nat->Rat) (N:Nat) (J:Nat->World->Prop) (w:World) (e:Ending) (w':World):Prop:=
 ∃ r m x y,e=.returned (.tuple #[enc r,pV x y,.bool r.isSome])/\Best g N r m/\IsP m x y/\Keeps Sx w w'/\J N w'
end Go.Proofs.YtmpaflidennnoaaGreatDoor
namespace Go.Proofs.YtmpaflidennnoaaGreatDoor
open Go.RowKit Go.Shelf
attribute [local go_sem ↓] Go.wp_at_zero Go.wp_at_succ
attribute [local go_sem] Oper.semAt_some
abbrev spV (a b:Int):Value:=.agg #[.int .i64 a,.int .i64 b]
abbrev spO (a b:Int):Obj:=.cells #[.int .i64 a,.int .i64 b] 144
def Zih (e:Nat->Int×Int):Option Nat->Value
 | none=>spV 0 0
 | some k=>spV (e k).1 (e k).2
def Zg4 (e:Nat->Int×Int):Option Nat->Obj
 | none=>spO 0 0
 | some k=>spO (e k).1 (e k).2
def BoxS (e:Nat->Int×Int) (B:Nat) (a1:Nat->Nat->Act) (k:Nat) (a':Act) (W:World):Prop:=
 ∃ A,B<=A/\a'=a1 k A/\W.heap[A]?=some (spO (e k).1 (e k).2)
theorem Zh8 {e:Nat->Int×Int} {g:Nat->Rat} {N:Nat} {Sx:Nat->Prop} {J:Nat->World->Prop} {gf of:Nat} {lb caps:Array Value} {w:World}
  (hgf:∀ args w,(callFunc gf args).run Tryz.prog w=.ok (.enter gf args) w) (hof:∀ args w,(callFunc of args).run Tryz.prog w=.ok (.enter of args) w)
  (hup:∀ b,w.heap.size<=b->Sx b) (hJ:∀ k W1 W2,J k W1->Keeps (fun b=>b<w.heap.size) W1 W2->J k W2) (h0:J 0 w) (hz:∀ V,Keeps Sx w V->EffZ V)
  (hit:∀ V,Keeps Sx w V->Iter Tryz.prog gf lb (fun k=>#[spV (e k).1 (e k).2]) N (fun b=>b<w.heap.size/\Sx b) (fun _=>True) V)
  (hc:∀ k,k<N->∀ V,Keeps Sx w V->J k V->Calls Tryz.prog of (#[spV (e k).1 (e k).2]++caps) V (fun e' V'=>∃ x y,e'=.returned (pV x y)/\IsP (g k) x y/\Keeps Sx V V'/\J (k+1) V')) :
  Calls Tryz.prog 110 #[.func (.func gf) #[] lb,.func (.func of) #[] caps] w (Ze7 Sx (Zih e) g N J w):=by
 have HUP:=Zpz hup
 have HJ:=Zpz hJ
 have HIT:=Zpz hit
 have HC:=Zpz hc
 have HZ:=Zpz hz
 have HJ0:=Zpz h0
 have HGF:=Zpz hgf
 clear hup hJ hit hc hz h0 hgf
 obtain⟨w4,hw4⟩:=ZpB ((((w.alloc (.cells #[.func (.func of) #[] caps] 150)).alloc (spO 0 0)).alloc (pObj Zpv Zpv)).alloc (flO false))
 obtain⟨P,hP⟩:=ZpB w.heap.size
 have HX:Zv P [.cells #[.func (.func of) #[] caps] 150,spO 0 0,pObj Zpv Zpv,flO false] w4:=by rw[<- hw4,<- hP];exact Zv.four w _ _ _ _
 have hk4:Keeps Sx w w4:=by rw[<- hw4];exact((((Keeps.refl Sx w).alloc _).alloc _).alloc _).alloc _
 have HK5:Hid (∀ V:World,Keeps (fun b=>b<w.heap.size) w V->J 0 V):=fun V hV=>HJ.out _ _ _ HJ0.out hV
 have hs4:w4.heap.size=P+4:=by rw[<- hw4,<- hP];simp
 have z:=HZ.out _ hk4
 have z0:=z.z0
 have z1:=z.z1
 have c0:=HX.cell 2 0 (b:=P+1+1) (v:=.string Zpv) rfl rfl rfl
 have c1:=HX.cell 2 1 (b:=P+1+1) (v:=.string Zpv) rfl rfl rfl
 have f0:=HX.free 2 0 (b:=P+1+1) rfl rfl
 have f1:=HX.free 2 1 (b:=P+1+1) rfl rfl
 have HPP:=Zpz hP
 clear z
 refine ZcS Tryz.func110 rfl ?_
 simp only[Tryz.ntmps110,Nat.reduceAdd,Nat.reduceSub,Zpy]
 go_wp2_with fail
 obtain⟨w5,hw5⟩:=ZpB ((w4.setCell ⟨P+1+1,0,none⟩ (.string ⟨#[48]⟩)).setCell ⟨P+1+1,1,none⟩ (.string ⟨#[49]⟩))
 have o5:∀ k,k≠P+1+1->w5.heap[k]?=w4.heap[k]?:=fun k hk=>by rw[<- hw5];exact(ZoN _ _ _ _ hk).trans (ZoN _ _ _ _ hk)
 have hk5:Keeps Sx w w5:=by
  refine hk4.via (S':=fun b=>b≠P+1+1) ?_ fun b hb _=>by show b≠P+1+1;omega
  rw[<- hw5]
  exact((Keeps.refl _ w4).setCell Zc _).setCell Zc _
 have HG5:Hid (GreatI Sx w P (.cells #[.func (.func of) #[] caps] 150) (spO 0 0) ⟨#[48]⟩ ⟨#[49]⟩ false w5):=
  ⟨hk5,(o5 P Za).trans (HX.block 0 rfl rfl),(o5 _ Za).trans (HX.block 1 rfl rfl),by rw[<- hw5];exact Zan (HX.block 2 (b:=P+1+1) rfl rfl) _ _,(o5 _ Za).trans (HX.block 3 (b:=P+1+1+1) rfl rfl)⟩
 have hkB:Keeps (fun b=>b<w.heap.size) w w5:=by
  rw[<- hw5,<- hw4]
  exact((((((Keeps.refl _ w).alloc _).alloc _).alloc _).alloc _).setCell (by show ¬ P+1+1<w.heap.size;omega) _).setCell (by show ¬ P+1+1<w.heap.size;omega) _
 have hD:w5.heap.size=P+4:=by rw[<- hw5];simp[hs4]
 rw[hw5]
 clear hw5 o5 z0 z1 c0 c1 f0 f1 HX hk4 hs4 hw4
 refine(wpIn_wide (n:=9)).1 ?_
 refine Zec (P+4) hD (gf:=gf) (lb:=lb) (f:=fun k=>#[spV (e k).1 (e k).2]) (N:=N) (S:=fun x=>x<P/\Sx x) (T:=fun _=>True)
  rfl HGF.out (fun _=>rfl) ?iter (fun _ h=>Za) ⟨trivial,trivial⟩
  (ZmC Sx w P (.cells #[.func (.func of) #[] caps] 150) (Zg4 e) g J) (fun _ _ _=>False) ?ci ?cx ?start
  (BoxS e (P+6) ?a1) ?cb ?assign ?body ?done ?stop
 case iter=>
  have:=HIT.out _ hk5
  rwa [hP] at this
 case ci=>
  rintro k W1 W2 ⟨r,m,x,y,h1,h2,h3,h4⟩ hk
  exact⟨r,m,x,y,h1,h2,h3.keep hP.symm hk (fun b hb _=>⟨trivial,Za,Za⟩) ⟨⟨trivial,Za,Za⟩,⟨trivial,Za,Za⟩,⟨trivial,Za,Za⟩,⟨trivial,Za,Za⟩⟩,
   HJ.out _ _ _ h4 (hk.mono fun b _ hb=>⟨trivial,Za,Za⟩)⟩
 case cx=>exact fun _ _ _ _ h _=>h
 case start=>
  exact⟨none,0,_,_,Best.zero g,Zaf,HG5.out,HK5.out _ hkB⟩
 case cb=>
  rintro k a' W1 W2 ⟨A,h1,h2,h3⟩ hk
  exact⟨A,h1,h2,hk.at h3 ⟨Za,Za⟩⟩
 case assign=>
  intro l k W hk hW
  gi_wp2
  have h1:(W.alloc (spO (e k).1 (e k).2)).heap[W.heap.size]?=some (spO (e k).1 (e k).2):=ZoO W _
  have hkk:Keeps (fun _=>True) W (W.alloc (spO (e k).1 (e k).2)):=(Keeps.refl _ W).alloc _
  obtain⟨V,hV⟩:=ZpB (W.alloc (spO (e k).1 (e k).2))
  rw[hV] at h1 hkk
  obtain⟨A,hA⟩:=ZpB W.heap.size
  rw[hA] at h1
  simp only[hV,hA]
  refine⟨hkk,A,Za,?_,h1⟩
  clear hkk h1 hV hA hW
  exact rfl
 case body=>
  have hfn:∀ k,Fence.wide.fn k:=fun _=>trivial
  rintro l k a' W hk ⟨r,m,x,y,hB,hI,hG,hJk⟩ ⟨A,hA,rfl,hA0⟩ hW
  have hcall:=HC.out k hk W hG.base hJk
  obtain⟨⟨s,t⟩,hst⟩:∃ z,e k=z:=⟨_,rfl⟩
  have HST:=Zpz hst
  rw[hst] at hA0 hcall
  dsimp only at hA0 hcall
  try rw[hst]
  try dsimp only
  have HB:=Zpz hB
  have HI:=Zpz hI
  have HG:=Zpz hG
  have HCL:=Zpz hcall
  have HA0:=Zpz hA0
  have a0:W.cell? ⟨A,0,none⟩=some (.int .i64 s):=Zn hA0 0 rfl
  have a1:W.cell? ⟨A,1,none⟩=some (.int .i64 t):=Zn hA0 1 rfl
  have p0:W.cell? ⟨P,0,none⟩=some (.func (.func of) #[] caps):=Zn hG.b0 0 rfl
  clear hB hI hG hJk hcall hA0 hst
  gi_wp2_with fail
  refine(CallsIn.inRound l (Zpf.2 HCL.out)).mono ?_
  rintro e' V ⟨x2,y2,rfl,hx2,hkV,hJV⟩
  have HX2:=Zpz hx2
  have HJV:=Zpz hJV
  have HKV:=Zpz hkV
  have HGV:=Zpz (HG.out.keep hP.symm hkV (fun b _ hs=>hs) ⟨HUP.out _ Za,HUP.out _ Za,HUP.out _ Za,HUP.out _ Za⟩)
  have HAV:=Zpz (hkV.at HA0.out (HUP.out _ Za))
  clear hx2 hJV hkV a0 a1 p0
  have c0:(V.alloc (pObj x2 y2)).cell? ⟨V.heap.size,0,none⟩=some (.string x2):=ZK _ _ _ 0 rfl
  have c1:(V.alloc (pObj x2 y2)).cell? ⟨V.heap.size,1,none⟩=some (.string y2):=ZK _ _ _ 1 rfl
  have HG1:Hid (GreatI Sx w P (.cells #[.func (.func of) #[] caps] 150) (Zg4 e r) x y r.isSome (V.alloc (pObj x2 y2))):=HGV.out.keep (S:=fun _=>True) hP.symm ((Keeps.refl _ V).alloc _) (fun _ _ _=>trivial) ⟨trivial,trivial,trivial,trivial⟩
  have d0:=Zn HG1.out.b2 0 (v:=.string x) rfl
  have d1:=Zn HG1.out.b2 1 (v:=.string y) rfl
  obtain⟨n,hn⟩:=ZpB (sgnR (g k) m)
  gi_wp2_with fail
  refine(CallsIn.inRound l (Zpf.2 (ZbC HX2.out HI.out hn _))).mono ?_
  rintro e' V2 ⟨rfl,hb⟩
  obtain⟨g8,hg8⟩:=ZpB V.heap.size
  have h8:V2.heap[g8]?=some (pObj x2 y2):=by
   rw[<- hg8]
   exact(hb.block _ Zc).trans (ZoO V _)
  have hkA:Keeps Sx V (V.alloc (pObj x2 y2)):=(Keeps.refl _ V).alloc _
  have hkJ:Keeps (fun b=>b<w.heap.size) V V2:=((Keeps.refl _ V).alloc _).trans (hb.keepsS _)
  have HK2:=Zpz (HKV.out.trans (hkA.trans (hb.keepsS Sx)))
  have HA2:=Zpz ((hkA.trans (hb.keepsS Sx)).at HAV.out (HUP.out _ Za))
  have HG2:=Zpz (HG1.out.keep hP.symm (hb.keepsS (fun _=>True)) (fun _ _ _=>trivial) ⟨trivial,trivial,trivial,trivial⟩)
  have HJ2:=Zpz (HJ.out _ _ _ HJV.out hkJ)
  have H8:=Zpz h8
  have HRE:Hid (∀ b,((b<P/\Sx b)\/b=P+4\/b=P+4+1)->Sx b):=fun b hs=>by
   rcases hs with ⟨_,h⟩ | h | h
   ·exact h
   ·exact HUP.out _ Za
   ·exact HUP.out _ Za
  have hPg:P+6<=g8:=by
   rw[<- hg8]
   exact ZoU hW HKV.out.size
  clear c0 c1 d0 d1 hb hkA hkJ h8 HG1 HGV HAV HJV
  by_cases hlt:m<g k
  ·have hge:(0:Int)<n:=by rw[<- hn];exact Zby (Rat.not_le.2 hlt)
   have HBU:=Zpz (HB.out.up hlt)
   clear hn hlt
   gi_wp2
   obtain⟨sa,sb,hab⟩:∃ a b,Zg4 e r=spO a b:=by cases r<;>exact⟨_,_,rfl⟩
   refine ZaO [(true,0),(true,1),(false,2),(false,3),(false,4)] (fun W'=>W'.heap[A]?=some (spO s t)/\W'.heap[g8]?=some (pObj x2 y2)) (fun _=>false)
    Zb Zb (fun _ _=>rfl) Zi (fun _ _ h=>h) ⟨HA2.out,H8.out⟩ ?_
   have b1:V2.drew.heap[P+1]?=some (spO sa sb):=by rw[<- hab];exact HG2.out.b1
   have b2:V2.drew.heap[P+1+1]?=some (pObj x y):=HG2.out.b2
   have b3:V2.drew.heap[P+1+1+1]?=some (flO r.isSome):=HG2.out.b3
   have b0:V2.drew.heap[P]?=some (.cells #[.func (.func of) #[] caps] 150):=HG2.out.b0
   have bA:V2.drew.heap[A]?=some (spO s t):=HA2.out
   have b8:V2.drew.heap[g8]?=some (pObj x2 y2):=H8.out
   have HKD:Hid (Keeps Sx W V2.drew):=HK2.out.drew
   have HKW:Hid (Keeps Sx w V2.drew):=HG2.out.base.drew
   have HJD:Hid (J (k+1) V2.drew):=HJ.out _ _ _ HJ2.out (Keeps.refl _ V2).drew
   obtain⟨V3,hV3⟩:=ZpB V2.drew
   rw[hV3] at b0 b1 b2 b3 bA b8 HKD HKW HJD ⊢
   clear hV3 HK2 HG2 HJ2 hab
   iterate 2
    refine Zr _ rfl rfl (fun w' hS=>by obtain⟨h1,h2⟩:=hS;have a0:=Zn h1 0 (v:=.int .i64 s) rfl;have a1:=Zn h1 1 (v:=.int .i64 t) rfl;have e0:=Zn h2 0 (v:=.string x2) rfl;have e1:=Zn h2 1 (v:=.string y2) rfl;exact Zf) ?_
    simp only[Act.put,Zl]
   have c0:=Zn b1 0 (v:=.int .i64 sa) rfl
   have c1:=Zn b1 1 (v:=.int .i64 sb) rfl
   have f0:=Zo b1 0
   have f1:=Zo b1 1
   refine Zt rfl rfl fun K hK=>?_
   go_simp
   obtain⟨V4,hV4⟩:=ZpB ((V3.setCell ⟨P+1,0,none⟩ (.int .i64 s)).setCell ⟨P+1,1,none⟩ (.int .i64 t))
   have o4:∀ j,j≠P+1->V4.heap[j]?=V3.heap[j]?:=fun j hj=>by rw[<- hV4];exact(ZoN _ _ _ _ hj).trans (ZoN _ _ _ _ hj)
   have d1:V4.heap[P+1]?=some (spO s t):=by rw[<- hV4];exact Zan b1 _ _
   have k4:Keeps (fun b=>b≠P+1) V3 V4:=by rw[<- hV4];exact((Keeps.refl _ V3).setCell Zc _).setCell Zc _
   rw[hV4]
   refine hK _ _ (.inr ⟨(o4 _ Za).trans bA,(o4 _ Za).trans b8⟩) ?_
   clear hK K hV4 c0 c1 f0 f1 b1
   have b0:=(o4 _ Za).trans b0
   have b2:=(o4 _ Za).trans b2
   have b3:=(o4 _ Za).trans b3
   have bA:=(o4 _ Za).trans bA
   have b8:=(o4 _ Za).trans b8
   have c0:=Zn b2 0 (v:=.string x) rfl
   have c1:=Zn b2 1 (v:=.string y) rfl
   have f0:=Zo b2 0
   have f1:=Zo b2 1
   refine Zt rfl rfl fun K hK=>?_
   go_simp
   obtain⟨V5,hV5⟩:=ZpB ((V4.setCell ⟨P+1+1,0,none⟩ (.string x2)).setCell ⟨P+1+1,1,none⟩ (.string y2))
   have o5:∀ j,j≠P+1+1->V5.heap[j]?=V4.heap[j]?:=fun j hj=>by rw[<- hV5];exact(ZoN _ _ _ _ hj).trans (ZoN _ _ _ _ hj)
   have d2:V5.heap[P+1+1]?=some (pObj x2 y2):=by rw[<- hV5];exact Zan b2 _ _
   have k5:Keeps (fun b=>b≠P+1+1) V4 V5:=by rw[<- hV5];exact((Keeps.refl _ V4).setCell Zc _).setCell Zc _
   rw[hV5]
   refine hK _ _ (.inr ⟨(o5 _ Za).trans bA,(o5 _ Za).trans b8⟩) ?_
   clear hK K hV5 c0 c1 f0 f1 b2
   have b0:=(o5 _ Za).trans b0
   have d1:=(o5 _ Za).trans d1
   have b3:=(o5 _ Za).trans b3
   have bA:=(o5 _ Za).trans bA
   have b8:=(o5 _ Za).trans b8
   have c0:=Zn b3 0 (v:=.bool r.isSome) rfl
   have f0:=Zo b3 0
   refine Zt rfl rfl fun K hK=>?_
   go_simp
   obtain⟨V6,hV6⟩:=ZpB (V5.setCell ⟨P+1+1+1,0,none⟩ (.bool true))
   have o6:∀ j,j≠P+1+1+1->V6.heap[j]?=V5.heap[j]?:=fun j hj=>by rw[<- hV6];exact ZoN _ _ _ _ hj
   have d3:V6.heap[P+1+1+1]?=some (flO true):=by rw[<- hV6];exact ZoQ b3 _
   have k6:Keeps (fun b=>b≠P+1+1+1) V5 V6:=by rw[<- hV6];exact(Keeps.refl _ V5).setCell Zc _
   rw[hV6]
   refine hK _ _ (.inr ⟨(o6 _ Za).trans bA,(o6 _ Za).trans b8⟩) ?_
   clear hK K hV6 c0 f0 b3
   have HKK:Hid (∀ (S:Nat->Prop),¬ S (P+1)->¬ S (P+1+1)->¬ S (P+1+1+1)->Keeps S V3 V6):=fun S h1 h2 h3=>
    (((k4.mono fun b _ hb e=>h1 (e ▸ hb)).trans (k5.mono fun b _ hb e=>h2 (e ▸ hb))).trans (k6.mono fun b _ hb e=>h3 (e ▸ hb)))
   have HG6:Hid (GreatI Sx w P (.cells #[.func (.func of) #[] caps] 150) (Zg4 e (some k)) x2 y2 true V6):=
    ⟨HKW.out.via (HKK.out (fun b=>b<P) Za Za Za) (fun b hb _=>Za),(o6 _ Za).trans b0,by show V6.heap[P+1]?=some (spO (e k).1 (e k).2);rw[HST.out];exact(o6 _ Za).trans d1,(o6 _ Za).trans d2,d3⟩
   have HJ6:Hid (J (k+1) V6):=HJ.out _ _ _ HJD.out (HKK.out _ Za Za Za)
   have HKE:Hid (Keeps (fun b=>(b<P/\Sx b)\/b=P+4\/b=P+4+1) W V6):=(HKD.out.mono fun b _ hs=>HRE.out b hs).trans (HKK.out _ Za Za Za)
   clear o4 o5 o6 k4 k5 k6 d1 d2 d3 b0 bA b8
   refine ZI ?_
   gi_wp2
   exact⟨HKE.out,some k,g k,x2,y2,HBU.out,HX2.out,HG6.out,HJ6.out⟩
  ·have hge:¬ (0:Int)<n:=by rw[<- hn];exact ZbA (Rat.not_lt.1 hlt)
   have HBU:=Zpz (HB.out.keep (Rat.not_lt.1 hlt))
   clear hn hlt
   gi_wp2
   exact⟨HK2.out.mono fun b _ hs=>HRE.out b hs,r,m,x,y,HBU.out,HI.out,HG2.out,HJ2.out⟩
 case done=>
  rintro W ⟨r,m,x,y,hB,hI,hG,hJk⟩ hdef
  obtain⟨sa,sb,hab,hae⟩:∃ a b,Zg4 e r=spO a b/\Zih e r=spV a b:=by cases r<;>exact⟨_,_,rfl,rfl⟩
  obtain⟨ok,hok⟩:=ZpB r.isSome
  rw[hab,hok] at hG
  have HB:=Zpz hB
  have HI:=Zpz hI
  have HJN:=Zpz hJk
  have HAE:=Zpz hae
  have HOK:=Zpz hok
  clear hB hI hJk hab hae hok
  go_wp2
  refine Zag [(true,0),(true,1),(true,2),(false,3),(false,4),(false,5)] (fun W'=>W'.heap[P+1]?=some (spO sa sb)/\W'.heap[P+1+1]?=some (pObj x y)/\W'.heap[P+1+1+1]?=some (flO ok)) (fun _=>false)
   Zb Zb (fun _ _=>rfl) Zi ⟨hG.b1,hG.b2,hG.b3⟩ ?_
  have b1:W.drew.heap[P+1]?=some (spO sa sb):=hG.b1
  have b2:W.drew.heap[P+1+1]?=some (pObj x y):=hG.b2
  have b3:W.drew.heap[P+1+1+1]?=some (flO ok):=hG.b3
  have bd:W.drew.heap[P+4]?=some (.deferred (some [])):=hdef
  have HKW:Hid (Keeps Sx w W.drew):=hG.base.drew
  have HJD:Hid (J N W.drew):=HJ.out _ _ _ HJN.out (Keeps.refl _ W).drew
  obtain⟨V3,hV3⟩:=ZpB W.drew
  rw[hV3] at b1 b2 b3 bd HKW HJD ⊢
  clear hV3 hG hdef HJN
  iterate 3
   refine Zr _ rfl rfl (fun w' hS=>by obtain⟨h1,h2,h3⟩:=hS;have a0:=Zn h1 0 (v:=.int .i64 sa) rfl;have a1:=Zn h1 1 (v:=.int .i64 sb) rfl;have e0:=Zn h2 0 (v:=.string x) rfl;have e1:=Zn h2 1 (v:=.string y) rfl;have e2:=Zn h3 0 (v:=.bool ok) rfl;exact Zf) ?_
   simp only[Act.put,Zl]
  have c0:=Zn b1 0 (v:=.int .i64 sa) rfl
  have c1:=Zn b1 1 (v:=.int .i64 sb) rfl
  have f0:=Zo b1 0
  have f1:=Zo b1 1
  refine Zt rfl rfl fun K hK=>?_
  go_simp
  obtain⟨V4,hV4⟩:=ZpB ((V3.setCell ⟨P+1,0,none⟩ (.int .i64 sa)).setCell ⟨P+1,1,none⟩ (.int .i64 sb))
  have o4:∀ j,j≠P+1->V4.heap[j]?=V3.heap[j]?:=fun j hj=>by rw[<- hV4];exact(ZoN _ _ _ _ hj).trans (ZoN _ _ _ _ hj)
  have d1:V4.heap[P+1]?=some (spO sa sb):=by rw[<- hV4];exact Zan b1 _ _
  have k4:Keeps (fun b=>b≠P+1) V3 V4:=by rw[<- hV4];exact((Keeps.refl _ V3).setCell Zc _).setCell Zc _
  rw[hV4]
  have b2:=(o4 _ Za).trans b2
  have b3:=(o4 _ Za).trans b3
  refine hK _ _ (.inr ⟨d1,b2,b3⟩) ?_
  clear hK K hV4 c0 c1 f0 f1 b1
  have bd:=(o4 _ Za).trans bd
  have c0:=Zn b2 0 (v:=.string x) rfl
  have c1:=Zn b2 1 (v:=.string y) rfl
  have f0:=Zo b2 0
  have f1:=Zo b2 1
  refine Zt rfl rfl fun K hK=>?_
  go_simp
  obtain⟨V5,hV5⟩:=ZpB ((V4.setCell ⟨P+1+1,0,none⟩ (.string x)).setCell ⟨P+1+1,1,none⟩ (.string y))
  have o5:∀ j,j≠P+1+1->V5.heap[j]?=V4.heap[j]?:=fun j hj=>by rw[<- hV5];exact(ZoN _ _ _ _ hj).trans (ZoN _ _ _ _ hj)
  have d2:V5.heap[P+1+1]?=some (pObj x y):=by rw[<- hV5];exact Zan b2 _ _
  have k5:Keeps (fun b=>b≠P+1+1) V4 V5:=by rw[<- hV5];exact((Keeps.refl _ V4).setCell Zc _).setCell Zc _
  rw[hV5]
  have d1:=(o5 _ Za).trans d1
  have b3:=(o5 _ Za).trans b3
  refine hK _ _ (.inr ⟨d1,d2,b3⟩) ?_
  clear hK K hV5 c0 c1 f0 f1 b2
  have bd:=(o5 _ Za).trans bd
  have c0:=Zn b3 0 (v:=.bool ok) rfl
  have f0:=Zo b3 0
  refine Zt rfl rfl fun K hK=>?_
  go_simp
  obtain⟨V6,hV6⟩:=ZpB (V5.setCell ⟨P+1+1+1,0,none⟩ (.bool ok))
  have o6:∀ j,j≠P+1+1+1->V6.heap[j]?=V5.heap[j]?:=fun j hj=>by rw[<- hV6];exact ZoN _ _ _ _ hj
  have d3:V6.heap[P+1+1+1]?=some (flO ok):=by rw[<- hV6];exact ZoQ b3 _
  have k6:Keeps (fun b=>b≠P+1+1+1) V5 V6:=by rw[<- hV6];exact(Keeps.refl _ V5).setCell Zc _
  rw[hV6]
  have d1:=(o6 _ Za).trans d1
  have d2:=(o6 _ Za).trans d2
  refine hK _ _ (.inr ⟨d1,d2,d3⟩) ?_
  clear hK K hV6 c0 f0 b3
  have bd:=(o6 _ Za).trans bd
  have k9:Keeps (fun b=>b<P) V3 (V6.putObj (P+4) (.deferred none)):=
   (((k4.mono fun b _ (hb:b<P)=>Za).trans (k5.mono fun b _ (hb:b<P)=>Za)).trans (k6.mono fun b _ (hb:b<P)=>Za)).putObj (by show ¬ P+4<P;omega) _
  have HKE:Hid (Keeps Sx w (V6.putObj (P+4) (.deferred none))):=HKW.out.via k9 fun b hb _=>Za
  have HJE:Hid (J N (V6.putObj (P+4) (.deferred none))):=HJ.out _ _ _ HJD.out (by rw[HPP.out];exact k9)
  have k4':∀ {g:Nat} {o:Obj},g≠P+4->V6.heap[g]?=some o->(V6.putObj (P+4) (.deferred none)).heap[g]?=some o:=fun hg h=>(Zo4 hg).trans h
  have g1:=k4' Za d1
  have g2:=k4' Za d2
  have g3:=k4' Za d3
  clear o4 o5 o6 k4 k5 k6 k9 d1 d2 d3 k4'
  refine ZI ?_
  go_wp2
  unfold Calm bodyPostM
  refine⟨Zc,.inl ⟨_,_,rfl,run_takeDeferred bd,?_⟩⟩
  have c0:=Zn g1 0 (v:=.int .i64 sa) rfl
  have c1:=Zn g1 1 (v:=.int .i64 sb) rfl
  have d0:=Zn g2 0 (v:=.string x) rfl
  have d1:=Zn g2 1 (v:=.string y) rfl
  have f0:=Zn g3 0 (v:=.bool ok) rfl
  refine⟨.tuple #[spV sa sb,pV x y,.bool ok],?_,r,m,x,y,by rw[HAE.out,HOK.out],HB.out,HI.out,HKE.out,HJE.out⟩
  simp[results,Tryz.f110,go_sem,c0,c1,d0,d1,f0]
 case stop=>exact fun _ _ _ _ h _=>h.elim
end Go.Proofs.YtmpaflidennnoaaGreatDoor
namespace Go.Proofs.YtmpaflidennnoaaGreatDoor
open Go.RowKit Go.Shelf
attribute [local go_sem ↓] Go.wp_at_zero Go.wp_at_succ
theorem ZeT {p:List (List Int)} {u N:Nat} (h:∀ i,i<N->0<=pN p u i/\pN p u i<=48):∀ k,k<=N->0<=ZX p u k/\ZX p u k<=48*k
 | 0,_=>⟨Int.le_refl _,Int.le_refl _⟩
 | k+1,hk=>by
  have h1:=ZeT h k Za
  have h2:=h k Za
  unfold ZX
  omega
def LimT (t:TaskP):Prop:=(∀ s ∈ t.sites,(s.weight.1.size<=1000000/\s.weight.2.size<=1000000)/\LimB s.curve)/\∀ l ∈ t.rates,LimP l
def Zkj (P:Prop) (w:World) (e:Ending) (w':World):Prop:=((P/\e=.returned (.int .i64 0))\/(¬ P/\e=.returned (.int .i64 2)))/\Below w.heap.size w w'
theorem ZmB {ps:List PP} {k n:Nat} (hn:ps.length=n):(∀ j,j<n->Zw k (ps.getD j (Zpv,Zpv))=true)<->∀ p ∈ ps,Zw k p=true:=by
 constructor
 ·intro h p hp
  obtain⟨j,hj,rfl⟩:=List.getElem_of_mem hp
  have:=h j Za
  rwa [show ps.getD j (Zpv,Zpv)=ps[j] by simp[List.getD,hj]] at this
 ·intro h j hj
  have hj':j<ps.length:=Za
  rw[show ps.getD j (Zpv,Zpv)=ps[j] by simp[List.getD,hj']]
  exact h _ (Zpc hj')
theorem ZjM (s t:ByteArray) (hs:s.size<=1000000) (ht:t.size<=1000000) (w:World) :
  Calls Tryz.prog 81 #[pV s t] w (Z5 w (!Zw 9 (s,t))):=by
 have HAL:=Zpz ((ZoL w.heap.size w).alloc ZpA (pObj s t))
 have HR:=Zpz (ZeN 9 s t hs ht (w.alloc (pObj s t)))
 obtain⟨r,hr⟩:=ZpB (Zw 9 (s,t))
 rw[hr] at HR ⊢
 clear hr
 go_enter Tryz.func81,Tryz.ntmps81
 go_wp2_with fail
 refine HR.out.mono ?_
 rintro e w2 ⟨rfl,hb⟩
 have HB2:=Zpz (HAL.out.trans (hb.mono HAL.out.size))
 clear hb HR HAL
 go_wp2
 go_ret
 exact⟨rfl,HB2.out⟩
abbrev ckO (v:Value) (s t:ByteArray):Obj:=.cells #[.string s,.string t,v] 74
theorem ZeL {t:TaskP} {sv hv rv:Value} {w:World} (h:TaskIn t sv hv rv w) (hz:LimT t) :
  Calls Tryz.prog 29 #[.agg #[sv,hv,rv]] w (Zkj (TaskOk t) w):=by
 obtain⟨N,hN⟩:=ZpB t.sites.length
 obtain⟨T,hT⟩:=ZpB t.hours.length
 obtain⟨R,hR⟩:=ZpB t.rates.length
 obtain⟨ps,cs,rfl,hs1,hs2⟩:=h.sites.shape hN
 obtain⟨ph,ch,rfl,hh1,hh2⟩:=h.hours.shape hT
 obtain⟨pr,cr,rfl,hr1,hr2⟩:=h.rates.shape hR
 have HT:=Zpz h
 have HZ:=Zpz hz
 have HN:=Zpz hN
 have HTT:=Zpz hT
 have HR:=Zpz hR
 have HE0:Hid (Env w.heap.size w [(w.heap.size,.cells #[.slice ps N cs,.slice ph T ch,.slice pr R cr] 26)] [] (w.alloc (.cells #[.slice ps N cs,.slice ph T ch,.slice pr R cr] 26))):=(Env.start w).push _ rfl
 have hN9:N<=9223372036854775807:=Za
 clear h hz hN hT hR
 go_enter Tryz.func29,Tryz.ntmps29
 go_wp2_with fail
 refine(Zcq N 1 24 _).mono ?_
 rintro e w1 ⟨rfl,hb⟩
 have HE1:=Zpz (HE0.out.step hb)
 clear hb HE0
 by_cases hA:1<=N/\N<=24
 rotate_left
 ·have HNO:Hid (¬ TaskOk t):=fun k=>hA (by have:=k.sites;rw[HN.out] at this;exact this)
  have hw:(decide ((1:Int)<=(N:Int)) && decide ((N:Int)<=24))=false:=by
   rw[<- Bool.not_eq_true]
   simp only[Zpj,Zpk]
   omega
  rw[hw]
  clear hA hw
  go_wp2
  exact ZoM (v:=.int .i64 2) (by simp[results,Tryz.f29,go_sem]) rfl ⟨.inr ⟨HNO.out,rfl⟩,HE1.out.base⟩
 have hw:(decide ((1:Int)<=(N:Int)) && decide ((N:Int)<=24))=true:=by simp;omega
 rw[hw]
 clear hw
 have b0:=HE1.out.cell 0 0 (v:=.slice ps N cs) rfl rfl
 have b1:=HE1.out.cell 0 1 (v:=.slice ph T ch) rfl rfl
 have b2:=HE1.out.cell 0 2 (v:=.slice pr R cr) rfl rfl
 go_wp2_with fail
 refine(Zcq T 1 8 _).mono ?_
 rintro e w2 ⟨rfl,hb⟩
 have HE2:=Zpz (HE1.out.step hb)
 clear hb HE1 b0 b1 b2
 by_cases hB:1<=T/\T<=8
 rotate_left
 ·have HNO:Hid (¬ TaskOk t):=fun k=>hB (by have:=k.teams;rw[HTT.out] at this;exact this)
  have hw:(decide ((1:Int)<=(T:Int)) && decide ((T:Int)<=8))=false:=by
   rw[<- Bool.not_eq_true]
   simp only[Zpj,Zpk]
   omega
  rw[hw]
  clear hB hw
  go_wp2
  exact ZoM (v:=.int .i64 2) (by simp[results,Tryz.f29,go_sem]) rfl ⟨.inr ⟨HNO.out,rfl⟩,HE2.out.base⟩
 have hw:(decide ((1:Int)<=(T:Int)) && decide ((T:Int)<=8))=true:=by simp;omega
 rw[hw]
 clear hw
 have b0:=HE2.out.cell 0 0 (v:=.slice ps N cs) rfl rfl
 have b1:=HE2.out.cell 0 1 (v:=.slice ph T ch) rfl rfl
 have b2:=HE2.out.cell 0 2 (v:=.slice pr R cr) rfl rfl
 by_cases hC:R=T
 rotate_left
 ·have HNO:Hid (¬ TaskOk t):=fun k=>hC (by have:=k.rates;rw[HR.out,HTT.out] at this;exact this)
  have hc:((R:Int) !=(T:Int))=true:=by rw[bne_iff_ne];omega
  clear hC
  go_wp2
  exact ZoM (v:=.int .i64 2) (by simp[results,Tryz.f29,go_sem]) rfl ⟨.inr ⟨HNO.out,rfl⟩,HE2.out.base⟩
 subst hC
 have hc:((R:Int) !=(R:Int))=false:=Zc
 go_wp2_with fail
 clear b0 b1 b2 hc
 go_loopw [32] (fun iv wr=>∃ k:Nat,iv=.int .i64 k/\k<=N/\Hid (∀ i,i<k->Zw 9 (eS t i).weight=true/\CurveP (eS t i).curve)/\Hid (Env w.heap.size w [(w.heap.size,.cells #[.slice ps N cs,.slice ph R ch,.slice pr R cr] 26)] [] wr)) (fun iv _=>N-(intOf iv).toNat)
 case atStart=>exact⟨0,rfl,ZoY _,fun i h=>Zpp h (Zpb _),HE2⟩
 case round=>
  obtain⟨k,rfl,hk,HK,HE⟩:=hrel
  clear HE2
  by_cases hlt:k<N
  ·obtain⟨sb,so,rfl,hsb,hat⟩:=HT.out.sites.at Zc3.stays HN.out Za
   have hkl:k<t.sites.length:=by rw[HN.out];exact hlt
   obtain⟨e0,e1,v,e2,hbl⟩:=hat wr HE.out.base k hkl
   obtain⟨⟨hz1,hz2⟩,hzb⟩:=HZ.out.1 _ (Zpc hkl)
   rw[Zfr hkl] at e0 e1 hbl hz1 hz2 hzb
   obtain⟨⟨s1,t1⟩,hs1'⟩:∃ z,(eS t k).weight=z:=⟨_,rfl⟩
   rw[hs1'] at e0 e1 hz1 hz2
   have HSW:=Zpz hs1'
   obtain⟨pq,cq,rfl,_⟩:=id hbl
   obtain⟨nq,hnq⟩:=ZpB ((eS t k).curve.length)
   rw[hnq] at e2 hbl
   have HBL:=Zpz hbl
   have HZB:=Zpz hzb
   dsimp only at e0 e1 hz1 hz2
   have HE3:=Zpz (HE.out.push (ckO (.slice pq nq cq) s1 t1) rfl)
   have HAL:Hid (Below wr.heap.size wr (wr.alloc (ckO (.slice pq nq cq) s1 t1))):=(ZoL _ wr).alloc ZpA _
   have i0':(0:Int)<=(k:Int):=Za
   have i1':(k:Int)<(N:Int):=Za
   clear hat hbl hzb hs1' hnq
   go_wp2_with fail
   refine(ZeN 9 s1 t1 hz1 hz2 _).mono ?_
   rintro e w4 ⟨rfl,hb⟩
   have HE4:=Zpz ((HE3.out.step hb).only [1,0] _ rfl Zd)
   have HB4:Zpt wr w4:=HAL.out.trans (hb.mono HAL.out.size)
   clear hb e0 e1 e2 HE3 HAL
   cases hsm:Zw 9 (s1,t1)
   ·have HNO:Hid (¬ TaskOk t):=fun h=>by
     have:=(h.site k (by rw[HN.out];exact hlt)).1
     rw[HSW.out,hsm] at this
     cases this
    clear hsm
    go_wp2
    exact ZoM (v:=.int .i64 2) (by simp[results,Tryz.f29,go_sem]) rfl ⟨.inr ⟨HNO.out,rfl⟩,HE4.out.base⟩
   ·have HSM:=Zpz hsm
    have c2:=HE4.out.cell 1 2 (v:=.slice pq nq cq) rfl rfl
    clear hsm
    go_wp2_with fail
    refine(Zen (HBL.out.after HB4.out ZpA) HZB.out ((HT.out.below HE4.out.base ZpA).det) ((HT.out.below HE4.out.base ZpA).tabs)).mono ?_
    rintro e w5 ⟨n,rfl,hE,hb⟩
    have HE5:=Zpz ((HE4.out.step hb).only [0] _ rfl Zd)
    clear hb c2 HE4
    rcases hE with ⟨hc,rfl⟩ | ⟨hc,rfl⟩
    ·have HK2:Hid (∀ i,i<k+1->Zw 9 (eS t i).weight=true/\CurveP (eS t i).curve):=fun i hi=>by
      rcases ZoR i k with h | h
      ·exact HK.out i h
      ·obtain rfl:i=k:=Za
       exact⟨by rw[HSW.out];exact HSM.out,hc⟩
     clear hc
     go_wp2
     go_roundw
     case rel=>exact⟨k+1,by go_num,Za,HK2,HE5⟩
     case measure=>exact Zj
    ·have HNO:Hid (¬ TaskOk t):=fun h=>hc (h.site k (by rw[HN.out];exact hlt)).2
     clear hc
     go_wp2
     exact ZoM (v:=.int .i64 2) (by simp[results,Tryz.f29,go_sem]) rfl ⟨.inr ⟨HNO.out,rfl⟩,HE5.out.base⟩
  ·have hkN:k=N:=Za
   have HSI:Hid (∀ i,i<N->Zw 9 (eS t i).weight=true/\CurveP (eS t i).curve):=by rw[<- hkN];exact HK.out
   clear HK hkN
   have b0:=HE.out.cell 0 0 (v:=.slice ps N cs) rfl rfl
   have b1:=HE.out.cell 0 1 (v:=.slice ph R ch) rfl rfl
   have b2:=HE.out.cell 0 2 (v:=.slice pr R cr) rfl rfl
   go_wp2_with fail
   clear b0 b1 b2
   go_loopw [50] (fun iv wr=>∃ u:Nat,iv=.int .i64 u/\u<=R/\Hid (∀ v (h:v<t.rates.length),v<u->(0<=eH t v/\eH t v<=48)/\t.rates[v].length=N/\∀ p ∈ t.rates[v],Zw 9 p=true)/\Hid (Env w.heap.size w [(w.heap.size,.cells #[.slice ps N cs,.slice ph R ch,.slice pr R cr] 26)] [] wr)) (fun iv _=>R-(intOf iv).toNat)
   case atStart=>exact⟨0,rfl,ZoY _,fun v _ h=>Zpp h (Zpb _),HE⟩
   case round=>
    clear HE
    obtain⟨u,rfl,hu,HU,HE⟩:=hrel
    by_cases hlt2:u<R
    ·obtain⟨rb,ro,rfl,hrb,hrat⟩:=HT.out.rates.at PPL.stays HR.out Za
     obtain⟨hb',ho,rfl,hhb,hhat⟩:=HT.out.hours.at IntR.stays HTT.out Za
     have hul:u<t.rates.length:=by rw[HR.out];exact hlt2
     have hul2:u<t.hours.length:=by rw[HTT.out];exact hlt2
     obtain⟨v,e0,hpl⟩:=hrat _ HE.out.base u hul
     have e1:=hhat _ HE.out.base u hul2
     unfold IntR at e1
     rw[Zpn] at e0 e1
     rw[ZiW hul2] at e1
     have hzl:=HZ.out.2 _ (Zpc hul)
     obtain⟨l,hl⟩:=ZpB (t.rates[u])
     rw[hl] at hpl hzl
     have HL:=Zpz hl
     obtain⟨nl,hnl⟩:=ZpB l.length
     obtain⟨pl,cl,rfl⟩:∃ p c,v=.slice p nl c:=by obtain⟨p,c,h,_⟩:=id hpl;exact⟨_,_,by rw[<- hnl];exact h⟩
     obtain⟨hh,hhh⟩:=ZpB (eH t u)
     rw[hhh] at e1
     have HNL:=Zpz hnl
     have HHH:=Zpz hhh
     have HPL:Hid (∀ V,Below wr.heap.size wr V->PL V (.slice pl nl cl) l):=fun V hV=>hpl.after hV ZpA
     have HZL:=Zpz hzl
     have i0':(0:Int)<=(u:Int):=Za
     have i1':(u:Int)<(R:Int):=Za
     clear hrat hhat hl hnl hhh hpl hzl
     have b0:=HE.out.cell 0 0 (v:=.slice ps N cs) rfl rfl
     have b1:=HE.out.cell 0 1 (v:=.slice (some ⟨hb',ho,none⟩) R ch) rfl rfl
     have b2:=HE.out.cell 0 2 (v:=.slice (some ⟨rb,ro,none⟩) R cr) rfl rfl
     go_wp2_with fail
     refine(Zcq hh 0 48 _).mono ?_
     rintro e w6 ⟨rfl,hb⟩
     have HE6:=Zpz (HE.out.step hb)
     have HB6:=Zpz hb
     clear hb b0 b1 b2 e0 e1 HE
     by_cases hw:0<=hh/\hh<=48
     rotate_left
     ·have HNO:Hid (¬ TaskOk t):=fun h=>hw (by have:=(h.team u hul).1;rw[HHH.out] at this;exact this)
      have hwd:(decide ((0:Int)<=hh) && decide (hh<=48))=false:=by
       rw[<- Bool.not_eq_true]
       simp only[Zpj,Zpk]
       omega
      rw[hwd]
      clear hw hwd
      go_wp2
      exact ZoM (v:=.int .i64 2) (by simp[results,Tryz.f29,go_sem]) rfl ⟨.inr ⟨HNO.out,rfl⟩,HE6.out.base⟩
     have hwd:(decide ((0:Int)<=hh) && decide (hh<=48))=true:=by simp;omega
     rw[hwd]
     clear hwd
     have b0:=HE6.out.cell 0 0 (v:=.slice ps N cs) rfl rfl
     have b1:=HE6.out.cell 0 1 (v:=.slice (some ⟨hb',ho,none⟩) R ch) rfl rfl
     have b2:=HE6.out.cell 0 2 (v:=.slice (some ⟨rb,ro,none⟩) R cr) rfl rfl
     by_cases hD:nl=N
     rotate_left
     ·have HNO:Hid (¬ TaskOk t):=fun h=>hD (by have:=(h.team u hul).2.1;rw[HL.out,HNL.out,HN.out] at this;exact this)
      have hc:((nl:Int) !=(N:Int))=true:=by rw[bne_iff_ne];omega
      clear hD
      go_wp2
      exact ZoM (v:=.int .i64 2) (by simp[results,Tryz.f29,go_sem]) rfl ⟨.inr ⟨HNO.out,rfl⟩,HE6.out.base⟩
     subst hD
     have hc:((nl:Int) !=(nl:Int))=false:=Zc
     go_wp2_with fail
     refine(Zdo (enters_of Tryz.func81 Zb rfl) (f:=fun j=>!Zw 9 (l.getD j (Zpv,Zpv))) (caps:=#[]) (HPL.out _ HB6.out) HNL.out fun j hj W hW=>?_).mono ?_
     ·have hj2:j<l.length:=by first | exact hj | (rw[HNL.out];exact hj)
      have hzz:=HZL.out _ (Zpc hj2)
      have e:l.getD j (Zpv,Zpv)=l[j]:=by simp[List.getD,hj2]
      rw[e]
      have:=ZjM l[j].1 l[j].2 hzz.1 hzz.2 W
      simpa using this
     rintro e w7 ⟨bb,rfl,hE,hb⟩
     have HE7:=Zpz (HE6.out.step hb)
     clear hb b0 b1 b2 hc HE6 HB6
     rcases hE with ⟨rfl,j,hj,hj2⟩ | ⟨rfl,hall⟩
     ·have HNO:Hid (¬ TaskOk t):=fun h=>by
       have h3:=(h.team u hul).2.2 j (by rw[HN.out];exact hj)
       have h4:j<t.rates[u].length:=by rw[HL.out,HNL.out];exact hj
       rw[<- ZgP hul h4] at h3
       have h5:j<l.length:=by rw[HNL.out];exact hj
       dsimp only at hj2
       rw[show l.getD j (Zpv,Zpv)=t.rates[u][j] by simp[List.getD,h5,HL.out],h3] at hj2
       cases hj2
      clear hj hj2
      go_wp2
      exact ZoM (v:=.int .i64 2) (by simp[results,Tryz.f29,go_sem]) rfl ⟨.inr ⟨HNO.out,rfl⟩,HE7.out.base⟩
     ·have HU2:Hid (∀ v (h:v<t.rates.length),v<u+1->(0<=eH t v/\eH t v<=48)/\t.rates[v].length=nl/\∀ p ∈ t.rates[v],Zw 9 p=true):=fun v hv hvu=>by
       rcases ZoR v u with h | h
       ·exact HU.out v hv h
       ·obtain rfl:v=u:=Za
        refine⟨by rw[HHH.out];exact hw,by rw[HL.out,HNL.out],?_⟩
        rw[HL.out]
        exact(ZmB HNL.out).1 fun j hj=>by have:=hall j hj;simpa using this
      clear hall hw
      go_wp2
      go_roundw
      case rel=>exact⟨u+1,by go_num,Za,HU2,HE7⟩
      case measure=>exact Zj
    ·have HYES:Hid (TaskOk t):=by
      have huR:u=R:=Za
      refine⟨by rw[HN.out];exact hA,by rw[HTT.out];exact hB,by rw[HR.out,HTT.out],fun i hi=>HSI.out i (by rw[<- HN.out];exact hi),fun v hv=>?_⟩
      obtain⟨h1,h2,h3⟩:=HU.out v hv (by rw[huR,<- HR.out];exact hv)
      refine⟨h1,by rw[HN.out];exact h2,fun i hi=>?_⟩
      have hi2:i<t.rates[v].length:=by rw[h2,<- HN.out];exact hi
      rw[<- ZgP hv hi2]
      exact h3 _ (Zpc hi2)
     go_wp2
     exact ZoM (v:=.int .i64 0) (by simp[results,Tryz.f29,go_sem]) rfl ⟨.inl ⟨HYES.out,rfl⟩,HE.out.base⟩
end Go.Proofs.YtmpaflidennnoaaGreatDoor
namespace Go.Proofs.YtmpaflidennnoaaGreatDoor
open Go.RowKit Go.Shelf
attribute [local go_sem ↓] Go.wp_at_zero Go.wp_at_succ
attribute [local go_sem] Oper.semAt_some
def Zbw (t:TaskP) (p:List (List Int)) (j:Nat):Bool:=decide (0<ZaI t p (j/t.sites.length))
def ZaA (t:TaskP) (p:List (List Int)):List Nat:=pick (Zbw t p) (p.length*t.sites.length)
def ZcH (t:TaskP) (p:List (List Int)) (k:Nat):Int×Int:=((((ZaA t p).getD k 0/t.sites.length:Nat):Int),(((ZaA t p).getD k 0 % t.sites.length:Nat):Int))
structure SpotF (t:TaskP) (p:List (List Int)) (T N Bs b hb ho hc pb po pc:Nat) (gq gp gc:Nat->Nat) (w:World):Prop where
 box:w.cell? ⟨Bs,0,none⟩=some (.pointer (some ⟨b,0,none⟩))
 w1:w.cell? ⟨b,1,none⟩=some (.slice (some ⟨hb,ho,none⟩) T hc)
 w3:w.cell? ⟨b,3,none⟩=some (.slice (some ⟨pb,po,none⟩) T pc)
 hour:∀ u,u<T->w.cell? ⟨hb,ho+u,none⟩=some (.int .i64 (eH t u))
 plan:∀ u,u<T->w.cell? ⟨pb,po+u,none⟩=some (.slice (some ⟨gq u,gp u,none⟩) N (gc u))/\N<=gc u/\gc u<=9223372036854775807/\∀ i,i<N->w.cell? ⟨gq u,gp u+i,none⟩=some (.int .i64 (pN p u i))
theorem ZkT {t:TaskP} {p:List (List Int)} {T N Bs b hb ho hc pb po pc:Nat} {gq gp gc:Nat->Nat} {S:Nat->Prop} {w0:World} (hT:p.length=T) (hN:t.sites.length=N) (hN24:1<=N/\N<=24) (hT8:T<=8) (hhc:T<=hc/\hc<=9223372036854775807) (hpc:T<=pc/\pc<=9223372036854775807)
  (hF:∀ V,Keeps S w0 V->SpotF t p T N Bs b hb ho hc pb po pc gq gp gc V) (hH:∀ u,u<T->0<=eH t u/\eH t u<=48) (hP:∀ u i,u<T->i<N->0<=pN p u i/\pN p u i<=48) :
  Iter Tryz.prog 160 #[.pointer (some ⟨Bs,0,none⟩)] (fun k=>#[spV (ZcH t p k).1 (ZcH t p k).2]) (ZaA t p).length S (fun _=>True) w0:=by
 intro n l J Jx W hK hJ hJx hY h0
 have HFF:Hid (∀ V,Keeps S W V->SpotF t p T N Bs b hb ho hc pb po pc gq gp gc V):=fun V hV=>hF V (hK.trans hV)
 have HY:=Zpz hY
 have HJ:=Zpz hJ
 have HH:=Zpz hH
 have HP:=Zpz hP
 have HTL:=Zpz hT
 have HNL:=Zpz hN
 clear hF hY hJ hK hH hP
 have F0:=HFF.out W (Keeps.refl _ _)
 have a0:=F0.box
 have a1:=F0.w3
 obtain⟨hN1,hN2⟩:=hN24
 clear F0 hT hN
 refine callsIn_of_wp Tryz.func160 rfl trivial ?_ rfl
 simp only[Tryz.ntmps160,Nat.reduceAdd,Nat.reduceSub,Zpy]
 gi_wp2
 clear a0 a1
 gi_loopw [14] (fun iv wr=>∃ u:Nat,iv=.int .i64 u/\u<=T/\J (pick (Zbw t p) (u*N)).length wr/\Hid (Keeps S W wr)) (fun iv _=>T-(intOf iv).toNat)
 case atStart=>exact⟨0,rfl,ZoY _,by rw[Nat.zero_mul];exact h0,Keeps.refl _ _⟩
 case round=>
  obtain⟨u,rfl,hu,hJs,HN⟩:=hrel
  have F1:=HFF.out wr HN.out
  have a0:=F1.box
  have a1:=F1.w1
  by_cases hlt:u<T
  ·obtain⟨b0,b1,b2,b3⟩:=F1.plan u hlt
   have b4:=F1.hour u hlt
   have HR:Hid (∀ V,Keeps S W V->V.cell? ⟨pb,po+u,none⟩=some (.slice (some ⟨gq u,gp u,none⟩) N (gc u))/\∀ i,i<N->V.cell? ⟨gq u,gp u+i,none⟩=some (.int .i64 (pN p u i))):=fun V hV=>by
    obtain⟨c0,_,_,c1⟩:=(HFF.out V hV).plan u hlt
    exact⟨c0,c1⟩
   have hpu:=fun i hi=>HP.out u i hlt hi
   have hhu:=HH.out u hlt
   have HPU:=Zpz hpu
   obtain⟨q,hq⟩:=ZpB (gq u)
   obtain⟨o,ho'⟩:=ZpB (gp u)
   obtain⟨c,hc'⟩:=ZpB (gc u)
   obtain⟨h,hh⟩:=ZpB (eH t u)
   rw[hq,ho',hc'] at b0 HR
   rw[hc'] at b1 b2
   rw[hh] at b4 hhu
   have HHU:=Zpz hh
   have i0':(0:Int)<=(u:Int):=Za
   have i1':(u:Int)<(T:Int):=Za
   clear b3 hpu hq ho' hc' hh F1
   gi_wp2_with fail
   clear a0 a1 b0 b4
   gi_loopw [5,29] (fun va vi wv=>∃ i:Nat,vi=.int .i64 i/\i<=N/\va=.int .i64 (h-ZX p u i)/\wv=wr) (fun _ vi _=>N-(intOf vi).toNat)
   case atStart=>exact⟨0,rfl,ZoY _,by simp[ZX],rfl⟩
   case round=>
    obtain⟨i,rfl,hi,rfl,rfl⟩:=hrel
    by_cases hlt2:i<N
    ·have c1:=(HR.out _ HN.out).2 i hlt2
     have hs1:=ZeT HPU.out i hi
     have hs2:=HPU.out i hlt2
     obtain⟨m,hm⟩:=ZpB (pN p u i)
     rw[hm] at c1 hs2
     have hi24:i<=24:=Za
     have e1:Hid (IntKind.i64.wrap (h-ZX p u i-m)=h-ZX p u (i+1)):=by
      show _=_
      rw[Zpm _ Za]
      show h-ZX p u i-m=h-(ZX p u i+pN p u i)
      rw[hm]
      omega
     have e1':=e1.out
     clear hm hs1 hs2
     have j0':(0:Int)<=(i:Int):=Za
     have j1':(i:Int)<(N:Int):=Za
     gi_wp2
     go_roundw
     case rel=>exact⟨i+1,by go_num,Za,by first | rfl | rw[e1.out],by first | rfl | trivial⟩
     case measure=>exact Zj
    ·obtain rfl:i=N:=Za
     have hlf:h-ZX p u i=ZaI t p u:=by
      unfold ZaI
      rw[HHU.out,HNL.out]
     obtain⟨lf,hlf2⟩:=ZpB (h-ZX p u i)
     rw[hlf2] at hlf ⊢
     have HLF:=Zpz hlf
     clear hlf hlf2
     gi_wp2_with fail
     gi_loopw [39] (fun vi wv=>∃ j:Nat,vi=.int .i64 j/\j<=i/\J (pick (Zbw t p) (u*i+j)).length wv/\Hid (Keeps S W wv)) (fun vi _=>i-(intOf vi).toNat)
     case atStart=>exact⟨0,rfl,ZoY _,hJs,HN⟩
     case round=>
      clear hJs HN HR
      obtain⟨j,rfl,hj,hJs,HN⟩:=hrel
      by_cases hlt3:j<i
      ·have hdiv:(u*i+j)/i=u/\(u*i+j) % i=j:=by
        have h0:0<i:=Za
        rw[Zo7 u i]
        exact⟨by rw[Nat.mul_add_div h0,Nat.div_eq_of_lt hlt3,Nat.add_zero],by rw[Nat.mul_add_mod,Nat.mod_eq_of_lt hlt3]⟩
       by_cases hl:0<lf
       ·have hfree:Zbw t p (u*i+j)=true:=by
         unfold Zbw
         rw[HNL.out,hdiv.1,<- HLF.out]
         exact decide_eq_true hl
        have hlt4:u*i+j<p.length*t.sites.length:=by
         rw[HTL.out,HNL.out]
         have h1:(u+1)*i<=T*i:=Zpd i hlt
         rw[Nat.add_mul,Nat.one_mul] at h1
         omega
        obtain⟨hk,hat⟩:=Zdz hlt4 hfree
        have hy:=HY.out _ _ hk hJs
        unfold ZcH ZaA at hy
        rw[hat,HNL.out,hdiv.1,hdiv.2] at hy
        dsimp only at hy
        obtain⟨fn,tmps,assign,body,hy,hRR⟩:=hy
        have HPY:Hid ((pick (Zbw t p) (u*i+(j+1))).length=(pick (Zbw t p) (u*i+j)).length+1):=by
         show _=_
         rw[<- Nat.add_assoc,ZeK hfree]
         simp
        have HKK:=Zpz hk
        clear hfree hlt4 hat hJs hk hdiv
        gi_wp2
        refine⟨(fun h=>by cases h),hRR.mono ?_⟩
        rintro e W3 (⟨rfl,hJ3,hk3⟩ | ⟨rfl,hJx3⟩)
        ·have HN3:=Zpz (HN.out.trans hk3)
         rw[<- HPY.out] at hJ3
         clear hk3 hy hRR
         gi_wp2
         go_roundw
         case rel=>exact⟨j+1,by go_num,Za,hJ3,HN3⟩
         case measure=>exact Zj
        ·clear hy hRR
         gi_wp2
         refine ZoM (results_none rfl _ _ _) rfl ?_
         exact⟨⟨_,rfl⟩,.inr ⟨_,HKK.out,hJx3⟩⟩
       ·have hfree:Zbw t p (u*i+j)=false:=by
         unfold Zbw
         rw[HNL.out,hdiv.1,<- HLF.out]
         exact decide_eq_false hl
        have hJ3:=hJs
        rw[show (pick (Zbw t p) (u*i+j)).length=(pick (Zbw t p) (u*i+(j+1))).length by rw[<- Nat.add_assoc,Zeh hfree]] at hJ3
        clear hJs hfree hdiv
        have hfn:∀ k,Fence.wide.fn k:=fun _=>trivial
        gi_wp2
        all_goals try (refine⟨(fun _ h=>by cases h),?_⟩)
        all_goals try gi_wp2
        go_roundw
        case rel=>exact⟨j+1,by go_num,Za,hJ3,HN⟩
        case measure=>exact Zj
      ·obtain rfl:j=i:=Za
       have hJ3:=hJs
       rw[show u*j+j=(u+1)*j by rw[Nat.add_mul,Nat.one_mul]] at hJ3
       clear hJs
       gi_wp2
       go_roundw
       case rel=>exact⟨u+1,by go_num,Za,hJ3,HN⟩
       case measure=>exact Zj
  ·obtain rfl:u=T:=Za
   have hlen:(pick (Zbw t p) (u*N)).length=(ZaA t p).length:=by unfold ZaA;rw[HTL.out,HNL.out]
   rw[hlen] at hJs
   gi_wp2
   go_end0
   exact⟨⟨_,rfl⟩,.inl hJs⟩
end Go.Proofs.YtmpaflidennnoaaGreatDoor
namespace Go.Proofs.YtmpaflidennnoaaGreatDoor
open Go.RowKit Go.Shelf
attribute [local go_sem ↓] Go.wp_at_zero Go.wp_at_succ
def ints (l:List Int):List Value:=l.map fun x=>.int .i64 x
theorem Zcy {l:List Int} {j:Nat} (h:j<l.length):(ints l)[j]?=some (.int .i64 (l.getD j 0)):=by
 simp[ints,List.getD,h]
theorem Za8 (l:List Int):(ints l).length=l.length:=by simp[ints]
def Zeb (N:Nat) (gq gc:Nat->Nat) (n:Nat):List Value:=(List.range n).map fun u=>.slice (some ⟨gq u,0,none⟩) N (gc u)
theorem ZhR {N:Nat} {gq gc:Nat->Nat} {n u:Nat} (h:u<n):(Zeb N gq gc n)[u]?=some (.slice (some ⟨gq u,0,none⟩) N (gc u)):=by simp[Zeb,h]
theorem ZT {w w':World} {base:Nat} {e:TypeId} {size:Nat} {v:Value} {n:Nat} {xs:List Value} (h:w.ownsRow base e size v n xs) (hk:∀ g,v.ownBlock=some g->w'.heap[g]?=w.heap[g]?):w'.ownsRow base e size v n xs:=by
 obtain⟨h1,h2⟩:=h
 refine⟨h1,?_⟩
 rcases h2 with h2 | ⟨g,cap,cur,hv,hb,hg,rest⟩
 ·exact .inl h2
 ·exact .inr ⟨g,cap,cur,hv,hb,(hk g (by rw[hv];rfl)).trans hg,rest⟩
structure PlanO (p:List (List Int)) (N m b:Nat) (pv:Value) (gq gc:Nat->Nat) (w:World):Prop where
 outer:w.ownsRow (m+1) 23 1 pv p.length (Zeb N gq gc p.length)
 row:∀ u (h:u<p.length),w.ownsRow (m+1) 3 1 (.slice (some ⟨gq u,0,none⟩) N (gc u)) N (ints p[u])
 inj:∀ u v,u<p.length->v<p.length->gq u=gq v->u=v
 out:pv.ownBlock≠some b/\∀ u,u<p.length->gq u≠b/\pv.ownBlock≠some (gq u)
section
variable {p:List (List Int)} {N m b:Nat} {pv:Value} {gq gc:Nat->Nat} {w w':World}
theorem PlanO.len (h:PlanO p N m b pv gq gc w) {u:Nat} (hu:u<p.length):p[u].length=N:=by
 have:=(h.row u hu).1
 rw[Za8] at this
 omega
theorem PlanO.gt (h:PlanO p N m b pv gq gc w) {u:Nat} (hu:u<p.length):m<gq u/\gq u<w.heap.size:=by
 have:=ZoZ (h.row u hu) (gq u) rfl
 omega
theorem PlanO.keep (h:PlanO p N m b pv gq gc w) (hk:Keeps (NotM m) w w'):PlanO p N m b pv gq gc w':=by
 have key:∀ {e:TypeId} {size:Nat} {v:Value} {n:Nat} {xs:List Value},w.ownsRow (m+1) e size v n xs->w'.ownsRow (m+1) e size v n xs:=fun hr=>by
  refine ZT hr fun g hg=>?_
  have:=ZoZ hr g hg
  exact hk.block g this.2 (by show g≠m;omega)
 exact⟨key h.outer,fun u hu=>key (h.row u hu),h.inj,h.out⟩
theorem PlanO.toW (h:PlanO p N m b pv gq gc w) (h0:0<p.length):∃ pb pc,pv=.slice (some ⟨pb,0,none⟩) p.length pc/\PlanW p N m pv pb 0 pc gq (fun _=>0) gc w:=by
 obtain⟨h1,h2⟩:=id h.outer
 rcases h2 with ⟨_,h3⟩ | ⟨pb,pc,cur,hv,hb,hg,k1,k2,k3,k4⟩
 ·omega
 ·refine⟨pb,pc,hv,hv,⟨k1,k2⟩,fun u hu=>?_,Za,fun u hu=>?_⟩
  ·have ho:=h.outer
   rw[hv] at ho
   have c1:=World.ownsRow.cellAt ho u Za
   rw[ZhR hu] at c1
   rw[Nat.zero_add]
   obtain⟨r1,r2⟩:=h.row u hu
   rcases r2 with ⟨r3,_⟩ | ⟨g',cap',cur',hv',_,_,l1,l2,_,_⟩
   ·cases r3
   ·injection hv' with _ _ e3
    subst e3
    refine⟨c1,l1,l2,fun i hi=>?_⟩
    have c2:=World.ownsRow.cellAt (h.row u hu) i Za
    rw[Zcy (by rw[h.len hu];exact hi)] at c2
    rw[Nat.zero_add,c2]
    unfold pN
    simp[List.getD,hu]
  ·have:=(h.gt hu).1
   omega
theorem PlanO.store (h:PlanO p N m b pv gq gc w) {u i:Nat} (hu:u<p.length) (hi:i<N) (d:Int) {x:Int} (hx:x=pN p u i+d):PlanO (bump p u i d) N m b pv gq gc (w.setCell ⟨gq u,i,none⟩ (.int .i64 x)):=by
 subst hx
 have hl:=h.len hu
 have oth:∀ k,k≠gq u->(w.setCell ⟨gq u,i,none⟩ (.int .i64 (pN p u i+d))).heap[k]?=w.heap[k]?:=fun k hk=>ZoN _ _ _ _ hk
 refine⟨?_,fun v hv=>?_,fun a c ha hc=>h.inj a c (by rwa [Zad] at ha) (by rwa [Zad] at hc),h.out.1,fun v hv=>h.out.2 v (by rwa [Zad] at hv)⟩
 ·rw[Zad]
  refine ZT h.outer fun g hg=>oth g fun e=>?_
  exact(h.out.2 u hu).2 (by rw[hg,e])
 ·have hv':v<p.length:=by rwa [Zad] at hv
  by_cases e:v=u
  ·subst e
   have hs:=World.ownsRow.stored (h.row v hu) i (.int .i64 (pN p v i+d))
   have e1:(ints p[v]).set i (.int .i64 (pN p v i+d))=ints (bump p v i d)[v]:=by
    refine List.ext_getElem (by simp[Za8,ZeM]) fun j h1 h2=>?_
    have hj:j<p[v].length:=by simpa[Za8] using h1
    simp only[List.getElem_set,ints,List.getElem_map,bump,List.getElem_modify]
    by_cases e2:i=j
    ·subst e2
     simp[pN,List.getD,hu,hj]
    ·simp[e2]
   rw[e1] at hs
   exact hs.1
  ·have e1:(bump p u i d)[v]=p[v]:=by
    simp only[bump,List.getElem_modify]
    rw[if_neg (fun h=>e h.symm)]
   rw[e1]
   refine ZT (h.row v hv') fun g hg=>oth g fun e2=>e (h.inj v u hv' hu ?_)
   have hg':gq v=g:=by simpa[Value.ownBlock] using hg
   rw[hg',e2]
end
theorem Zdb:(Tryz.prog.info? 3).map (fun i=>(i.zero,i.size,i.bytes))=some (some (.int .i64 0),1,8):=Zb
theorem ZcQ:(Tryz.prog.info? 23).map (fun i=>(i.zero,i.size,i.bytes))=some (some (.slice none 0 0),1,24):=Zb
theorem Zdm (xs:List Int):∀ u ∈ ints xs,u.oneCell'=true:=by
 intro u hu
 obtain⟨x,_,rfl⟩:=List.mem_map.1 hu
 rfl
theorem Zk0 (b off cap:Nat) (xs:List Int) (w:World) (hne:0<xs.length) (hl:xs.length<=1000000) (hb:b<w.heap.size) (hc:∀ j,j<xs.length->w.cell? ⟨b,off+j,none⟩=some (.int .i64 (xs.getD j 0))) :
  Calls Tryz.prog 108 #[.slice (some ⟨b,off,none⟩) xs.length cap] w fun e w'=>
   ∃ g cap',e=.returned (.slice (some ⟨g,0,none⟩) xs.length cap')/\w'.ownsRow w.heap.size 3 1 (.slice (some ⟨g,0,none⟩) xs.length cap') xs.length (ints xs)/\Below w.heap.size w w':=by
 obtain⟨i0,hi,hz0,hz1,hz2⟩:=info_parts Zdb
 have heq:=fun(w:World)=>Lib.run_eql_slice_nil (P:=Tryz.prog) w 23 3 (some ⟨b,off,none⟩) xs.length cap 0 0 Tryz.underlying23
 have HCA:Hid (∀ W,Below w.heap.size w W->∀ j u,(ints xs)[j]?=some u->W.cell? ((⟨b,off,none⟩:Addr).add j)=some u):=fun W hW j u hu=>by
  have hj:j<xs.length:=by
   have:=(Zo9.1 hu).1
   simpa[Za8] using this
  rw[Zcy hj] at hu
  rw[Addr.add_lit,<- hu]
  exact(hW.cell (p:=⟨b,off+j,none⟩) hb).trans (hc j hj)
 have HB0:=(ZoL w.heap.size w).alloc ZpA (.cells #[] 3)
 have HC1:=HCA.out _ HB0
 have hml:=Za8 xs
 clear hc
 go_enter Tryz.func108,Tryz.ntmps108
 go_wp2_with (at_builtin;refine wpList_append_lies _ rfl (.tmp 5) (.tmp 6) 23 rfl w.heap.size 3 i0 (.int .i64 0) 1 8 Tryz.underlying23 hi hz0 hz1 hz2 rfl Zd _ 0 [] rfl (World.ownsRow_lit w #[] 0 ZpA (by simp[maxLen]) rfl) ⟨b,off,none⟩ xs.length cap (ints xs) rfl (by rw[hml,Zpn]) HC1 (Zdm _) hne (by unfold maxLen;omega) Za Zc (w.heap.size+1) Zc ?_;intro g cap' w1 hown1 hgrow1 hat1 hlt1)
 have h0:0+xs.length=xs.length:=Za
 rw[h0] at hown1
 have HR:=Zpz hown1
 have HB:=Zpz (((ZoL w.heap.size w).alloc ZpA (.cells #[] 3)).grown hgrow1 Zc (fun k h=>by cases h;exact Nat.le_refl _))
 clear hown1 hgrow1 hat1
 go_wp2
 go_ret
 exact⟨g,cap',rfl,by simpa using HR.out,HB.out⟩
theorem PlanO.keepB {p:List (List Int)} {N m b:Nat} {pv:Value} {gq gc:Nat->Nat} {w w':World} (h:PlanO p N m b pv gq gc w) (hk:Keeps (fun x=>x≠b) w w'):PlanO p N m b pv gq gc w':=by
 refine⟨ZT h.outer fun g hg=>?_,fun u hu=>ZT (h.row u hu) fun g hg=>?_,h.inj,h.out⟩
 ·exact hk.block g (ZoZ h.outer g hg).2 fun e=>h.out.1 (by rw[hg,e])
 ·have hg':gq u=g:=by simpa[Value.ownBlock] using hg
  exact hk.block g (ZoZ (h.row u hu) g hg).2 fun e=>(h.out.2 u hu).1 (by rw[hg',e])
theorem ZiO {w:World} {base base':Nat} {e:TypeId} {size:Nat} {v:Value} {n:Nat} {xs:List Value} (h:w.ownsRow base e size v n xs) (hb:base'<=base):w.ownsRow base' e size v n xs:=by
 obtain⟨h1,h2⟩:=h
 refine⟨h1,?_⟩
 rcases h2 with h2 | ⟨g,cap,cur,hv,hg,rest⟩
 ·exact .inl h2
 ·exact .inr ⟨g,cap,cur,hv,ZoU hb hg,rest⟩
theorem PlanO.snoc {p:List (List Int)} {N m b g cap:Nat} {pv pv':Value} {gq gc:Nat->Nat} {w w':World} {l:List Int} (h:PlanO p N m b pv gq gc w) (hr:w.ownsRow (m+1) 3 1 (.slice (some ⟨g,0,none⟩) N cap) N (ints l))
  (h1:g≠b) (h2:∀ u,u<p.length->gq u≠g) (h3:pv.ownBlock≠some g) (hb:b<w.heap.size) (ho:w'.ownsRow (m+1) 23 1 pv' (p.length+1) (Zeb N gq gc p.length++[.slice (some ⟨g,0,none⟩) N cap])) (hg:w.grownBy w' pv.ownBlock)
  (hloc:pv'.ownBlock=pv.ownBlock\/∃ x,pv'.ownBlock=some x/\w.heap.size<=x) :
  PlanO (p++[l]) N m b pv' (fun u=>if u=p.length then g else gq u) (fun u=>if u=p.length then cap else gc u) w':=by
 have hgl:g<w.heap.size:=(ZoZ hr g rfl).2
 have hpl:(p++[l]).length=p.length+1:=Zc
 refine⟨?_,fun u hu=>?_,fun u v hu hv=>?_,?_,fun u hu=>?_⟩
 ·rw[hpl]
  have e:Zeb N (fun u=>if u=p.length then g else gq u) (fun u=>if u=p.length then cap else gc u) (p.length+1)=Zeb N gq gc p.length++[.slice (some ⟨g,0,none⟩) N cap]:=by
   unfold Zeb
   rw[List.range_succ,List.map_append]
   congr 1
   ·refine List.map_congr_left fun u hu=>?_
    have:u≠p.length:=by have:=List.mem_range.1 hu;omega
    simp[this]
   ·simp
  rw[e]
  exact ho
 ·by_cases e:u=p.length
  ·subst e
   simp only[if_true]
   rw[show (p++[l])[p.length]=l by simp]
   exact World.ownsRow.kept hr hg (.inr (by
    intro hc
    exact h3 hc.symm))
  ·have hu':u<p.length:=by rw[hpl] at hu;omega
   simp only[if_neg e]
   rw[show (p++[l])[u]=p[u] by rw[List.getElem_append_left hu']]
   exact World.ownsRow.kept (h.row u hu') hg (.inr fun hc=>(h.out.2 u hu').2 hc.symm)
 ·rw[hpl] at hu hv
  by_cases e1:u=p.length
  ·by_cases e2:v=p.length
   ·intro _;rw[e1,e2]
   ·simp only[e1,if_true,if_neg e2]
    intro hc
    exact Zpp hc.symm (h2 v Za)
  ·by_cases e2:v=p.length
   ·simp only[e2,if_true,if_neg e1]
    intro hc
    exact Zpp hc (h2 u Za)
   ·simp only[if_neg e1,if_neg e2]
    exact h.inj u v Za Za
 ·rcases hloc with hl | ⟨x,hl,hx⟩
  ·rw[hl];exact h.out.1
  ·rw[hl]
   intro e
   cases e
   omega
 ·rw[hpl] at hu
  have key:∀ y,y<w.heap.size->pv.ownBlock≠some y->pv'.ownBlock≠some y:=fun y hy hne=>by
   rcases hloc with hl | ⟨x,hl,hx⟩
   ·rw[hl];exact hne
   ·rw[hl]
    intro e
    cases e
    omega
  by_cases e:u=p.length
  ·simp only[e,if_true]
   exact⟨h1,key g hgl h3⟩
  ·simp only[if_neg e]
   exact⟨(h.out.2 u Za).1,key _ (h.gt Za).2 (h.out.2 u Za).2⟩
theorem Zcv (w:World) (v:Value) (T:TypeId):∀ j u,[v][j]?=some u->(w.alloc (.cells #[v] T)).cell? ((⟨w.heap.size,0,none⟩:Addr).add j)=some u:=by
 intro j u hj
 match j,hj with
 | 0,h=>
  obtain rfl:v=u:=by simpa using h
  rw[Addr.add_lit]
  exact ZK w _ T 0 rfl
 | j+1,h=>simp at h
def Zk7 (t:TaskP) (p:List (List Int)) (N:Nat) (sv hv rv:Value) (w:World) (e:Ending) (w':World):Prop:=
 ∃ b m pv gq gc,e=.returned (.pointer (some ⟨b,0,none⟩))/\WorkW t b m sv hv rv pv w'/\PlanO p N m b pv gq gc w'/\Memo w' m t 0/\w.heap.size<=m/\w.heap.size<=b/\Below w.heap.size w w'
def Zmi (t:TaskP) (p:List (List Int)) (N:Nat) (w:World) (e:Ending) (w':World):Prop:=
 ∃ b m sv hv rv pv gq gc,e=.returned (.pointer (some ⟨b,0,none⟩))/\WorkW t b m sv hv rv pv w'/\PlanO p N m b pv gq gc w'/\Memo w' m t 0/\w.heap.size<=m/\w.heap.size<=b/\Below w.heap.size w w'
theorem ZgD {t:TaskP} {p:List (List Int)} {sv hv rv pv0:Value} {N:Nat} {w:World} (ht:TaskIn t sv hv rv w) (hp:IIL w pv0 p) (hpl:p.length<=8) (hN:1<=N/\N<=24) (hrow:∀ u (h:u<p.length),p[u].length=N) :
  Calls Tryz.prog 48 #[.agg #[sv,hv,rv],pv0] w (Zk7 t p N sv hv rv w):=by
 obtain⟨ps,cs,rfl,_⟩:=ht.sites.shape rfl
 obtain⟨ph,ch,rfl,_⟩:=ht.hours.shape rfl
 obtain⟨pr,cr,rfl,_⟩:=ht.rates.shape rfl
 obtain⟨T,hT⟩:=ZpB p.length
 obtain⟨pp,pc,rfl,hpc1,hpc2⟩:=hp.shape hT
 obtain⟨ns,hns⟩:=ZpB t.sites.length
 obtain⟨nh,hnh⟩:=ZpB t.hours.length
 obtain⟨nr,hnr⟩:=ZpB t.rates.length
 have HAT:Hid (∀ u,u<T->∃ b o q f c,pp=some ⟨b,o,none⟩/\∀ V,Below w.heap.size w V->V.cell? ⟨b,o+u,none⟩=some (.slice (some ⟨q,f,none⟩) N c)/\q<w.heap.size/\∀ j,j<N->V.cell? ⟨q,f+j,none⟩=some (.int .i64 ((p.getD u []).getD j 0))):=fun u hu=>by
  have hu':u<p.length:=by rw[hT];exact hu
  obtain⟨b,o,h1,h2,h3⟩:=hp.at IIL.stays hT Za
  obtain⟨v,h4,h5⟩:=h3 w (ZoL _ w) u hu'
  have hl:=hrow u hu'
  obtain⟨q,f,c,rfl,c1,c2,c3,c4⟩:=ZaR h5 (by rw[hl];omega)
  refine⟨b,o,q,f,c,h1,fun V hV=>⟨?_,c3,fun j hj=>?_⟩⟩
  ·rw[Zpn] at h4
   rw[<- hl]
   exact(hV.cell (p:=⟨b,o+u,none⟩) h2).trans h4
  ·have:=c4 j (by rw[hl];exact hj)
   unfold IntR at this
   rw[Zpn] at this
   rw[show (p.getD u []).getD j 0=p[u][j]'(by rw[hl];exact hj) by simp[List.getD,hu',hl,hj]]
   exact(hV.cell (p:=⟨q,f+j,none⟩) c3).trans this
 have HROW:Hid (∀ u,u<T->(p.getD u []).length=N):=fun u hu=>by
  have hu':u<p.length:=by rw[hT];exact hu
  rw[show p.getD u []=p[u] by simp[List.getD,hu']]
  exact hrow u hu'
 have HTI:=Zpz ht
 have HPT:=Zpz hT
 have hT8:T<=8:=by rw[<- hT];exact hpl
 rw[hns,hnh,hnr] at HTI ⊢
 obtain⟨G,hG⟩:=ZpB w.heap.size
 obtain⟨w3,hw3⟩:=ZpB (((w.alloc (.cells #[.slice ps ns cs,.slice ph nh ch,.slice pr nr cr] 26)).alloc (.map #[] 0)).alloc (.cells #[.slice ps ns cs,.slice ph nh ch,.slice pr nr cr,.slice none 0 0,.map (some (G+1))] 95))
 have hb3:Below w.heap.size w w3:=by rw[<- hw3];exact(((ZoL _ w).alloc ZpA _).alloc Zc _).alloc (by simp<;>omega) _
 have hs3:w3.heap.size=G+3:=by rw[<- hw3,<- hG];simp
 have hm3:w3.heap[G+1]?=some (.map #[] 0):=by
  rw[<- hw3,<- hG]
  have h1:((w.alloc (.cells #[.slice ps ns cs,.slice ph nh ch,.slice pr nr cr] 26)).alloc (.map #[] 0)).heap[w.heap.size+1]?=some (.map #[] 0):=by
   have:=ZoO (w.alloc (.cells #[.slice ps ns cs,.slice ph nh ch,.slice pr nr cr] 26)) (.map #[] 0)
   rwa [Zpa] at this
  exact(Zo1 _ _ _ Zc).trans h1
 have hw3b:w3.heap[G+1+1]?=some (.cells #[.slice ps ns cs,.slice ph nh ch,.slice pr nr cr,.slice none 0 0,.map (some (G+1))] 95):=by
  rw[<- hw3]
  have:=ZoO ((w.alloc (.cells #[.slice ps ns cs,.slice ph nh ch,.slice pr nr cr] 26)).alloc (.map #[] 0)) (.cells #[.slice ps ns cs,.slice ph nh ch,.slice pr nr cr,.slice none 0 0,.map (some (G+1))] 95)
  rw[Zpa,Zpa,hG] at this
  exact this
 obtain⟨i0,hi,hz0,hz1,hz2⟩:=info_parts ZcQ
 have HB3:=Zpz hb3
 have HM3:=Zpz hm3
 have HW3:=Zpz hw3b
 have HS3:=Zpz hs3
 have HG:=Zpz hG
 clear ht hp hT hpl hrow hns hnh hnr hb3 hm3 hw3b hs3
 have hmk:∀ (t:TypeId) (w:World),(Instr.makeMap t none).run Tryz.prog w=.ok (.map (some w.heap.size)) (w.alloc (.map #[] 0)):=fun _ _=>rfl
 go_enter Tryz.func48,Tryz.ntmps48
 go_wp2_with fail
 clear hmk hw3
 have HP0:Hid (PlanO (p.take 0) N (G+1) (G+1+1) (.slice none 0 0) (fun _=>0) (fun _=>0) w3):=⟨World.ownsRow_nil _ _ _ _,fun u hu=>by simp at hu,fun u v hu=>by simp at hu,by simp[Value.ownBlock],fun u hu=>by simp at hu⟩
 go_loopw [14] (fun iv wr=>∃ (k:Nat) (pv:Value) (gq gc:Nat->Nat),iv=.int .i64 k/\k<=T/\Hid (PlanO (p.take k) N (G+1) (G+1+1) pv gq gc wr)/\Hid (wr.heap[G+1+1]?=some (.cells #[.slice ps ns cs,.slice ph nh ch,.slice pr nr cr,pv,.map (some (G+1))] 95))/\Hid (wr.heap[G+1]?=some (.map #[] 0))/\Zpt w wr) (fun iv _=>T-(intOf iv).toNat)
 case atStart=>exact⟨0,.slice none 0 0,_,_,rfl,ZoY _,HP0,HW3,HM3,HB3⟩
 case round=>
  obtain⟨k,pv,gq,gc,rfl,hk,HP,HW,HM,HB⟩:=hrel
  clear HP0 HW3 HM3 HB3
  by_cases hlt:k<T
  ·obtain⟨b,o,q,f,c,rfl,hat⟩:=HAT.out k hlt
   have HRK:=Zpz (HROW.out k hlt)
   obtain⟨l,hl⟩:=ZpB (p.getD k [])
   rw[hl] at hat HRK
   have HLL:=Zpz hl
   have hlN:=HRK.out
   have HATW:=Zpz hat
   obtain⟨e0,_,_⟩:=hat wr HB.out
   have hkl:(p.take k).length=k:=by rw[Zpr,HPT.out];omega
   have HKL:=Zpz hkl
   obtain⟨pq,pn,pcap,hpv⟩:∃ p n c,pv=.slice p n c:=by
    obtain⟨_,h2⟩:=HP.out.outer
    rcases h2 with ⟨h2,_⟩ | ⟨g,cap,_,h2,_⟩
    ·exact⟨_,_,_,h2⟩
    ·exact⟨_,_,_,h2⟩
   subst hpv
   have i0':(0:Int)<=(k:Int):=Za
   have i1':(k:Int)<(T:Int):=Za
   clear hat hl hkl
   go_wp2_with fail
   refine ZP [(1,0),(1,1),(1,2),(1,3),(1,4),(1,5),(0,6),(0,7),(0,8),(2,9),(2,10),(0,11)] (fun V=>V.heap[G+1+1]?=some (.cells #[.slice ps ns cs,.slice ph nh ch,.slice pr nr cr,.slice pq pn pcap,.map (some (G+1))] 95)) (fun i=>i==9 || i==10 || i==11)
    Zb Zb (fun j hj=>by have h:12<=j:=hj;simp;omega) Zi HW.out ?_
   have HPd:Hid (PlanO (p.take k) N (G+1) (G+1+1) (.slice pq pn pcap) gq gc wr.drew):=HP.out.keep (Keeps.refl _ wr).drew
   have HBd:Hid (Below w.heap.size w wr.drew):=HB.out.drew
   have HMd:Hid (wr.drew.heap[G+1]?=some (.map #[] 0)):=HM.out
   have HWd:Hid (wr.drew.heap[G+1+1]?=some (.cells #[.slice ps ns cs,.slice ph nh ch,.slice pr nr cr,.slice pq pn pcap,.map (some (G+1))] 95)):=HW.out
   obtain⟨V,hV⟩:=ZpB wr.drew
   rw[hV] at HPd HBd HMd HWd ⊢
   clear hV HP HB HM HW e0
   iterate 6
    refine Zx _ rfl rfl (fun w' hS=>by have d3:=Zn hS 3 (v:=.slice pq pn pcap) rfl;exact Ze) ?_
    simp only[Act.put,Zl]
   have hcl:=Zk0 q f c l V (by rw[hlN];exact hN.1) (by rw[hlN];omega) (ZoS (HATW.out V HBd.out).2.1 HBd.out.size) (fun j hj=>(HATW.out V HBd.out).2.2 j (by rw[<- hlN];exact hj))
   rw[hlN] at hcl
   refine Zz 108 _ rfl rfl Zf ?_
   refine hcl.mono ?_
   rintro e V1 ⟨g,cap,rfl,hown,hb⟩
   have HW1:Hid (V1.heap[G+1+1]?=some (.cells #[.slice ps ns cs,.slice ph nh ch,.slice pr nr cr,.slice pq pn pcap,.map (some (G+1))] 95)):=(hb.block _ (Zpu HWd.out)).trans HWd.out
   have HM1:Hid (V1.heap[G+1]?=some (.map #[] 0)):=(hb.block _ (Zpu HMd.out)).trans HMd.out
   have HP1:Hid (PlanO (p.take k) N (G+1) (G+1+1) (.slice pq pn pcap) gq gc V1):=HPd.out.keep (hb.keepsS _)
   have HB1:Zpt w V1:=HBd.out.trans (hb.mono HBd.out.size)
   have hVs:G+1+1<V.heap.size:=(Zpu HWd.out)
   have HO1:Hid (V1.ownsRow V.heap.size 3 1 (.slice (some ⟨g,0,none⟩) N cap) N (ints l)):=hown
   have hgV:V.heap.size<=g:=(ZoZ hown g rfl).1
   have hgo:∀ u,u<(p.take k).length->gq u≠g:=fun u hu e=>by have:=(HPd.out.gt hu).2;omega
   have hgp:(Value.slice pq pn pcap).ownBlock≠some g:=fun e=>by have:=(ZoZ HPd.out.outer g e).2;omega
   have HGO:=Zpz (Zpq hgo hgp)
   refine .inl ⟨_,rfl,HW1.out,?_⟩
   clear hb hown hgo hgp HWd HMd HPd HBd hcl
   simp only[Act.put,Zl]
   refine ZB rfl rfl fun K hK=>?_
   go_simp
   obtain⟨H,hH⟩:=ZpB V1.heap.size
   obtain⟨V2,hV2⟩:=ZpB (V1.alloc (.cells #[.slice (some ⟨g,0,none⟩) N cap] 23))
   have hk2:Below V1.heap.size V1 V2:=by rw[<- hV2];exact(ZoL _ V1).alloc ZpA _
   have hnews:=Zcv V1 (.slice (some ⟨g,0,none⟩) N cap) 23
   rw[hV2,hH] at hnews
   have HW2:Hid (V2.heap[G+1+1]?=some (.cells #[.slice ps ns cs,.slice ph nh ch,.slice pr nr cr,.slice pq pn pcap,.map (some (G+1))] 95)):=(hk2.block _ (Zpu HW1.out)).trans HW1.out
   have HM2:Hid (V2.heap[G+1]?=some (.map #[] 0)):=(hk2.block _ (Zpu HM1.out)).trans HM1.out
   have HP2:Hid (PlanO (p.take k) N (G+1) (G+1+1) (.slice pq pn pcap) gq gc V2):=HP1.out.keep (hk2.keepsS _)
   have HB2:Zpt w V2:=HB1.out.trans (hk2.mono HB1.out.size)
   have HO2:Hid (V2.ownsRow (G+1+1) 3 1 (.slice (some ⟨g,0,none⟩) N cap) N (ints l)):=ZiO (ZT HO1.out fun x hx=>hk2.block x (ZoZ HO1.out x hx).2) Za
   try rw[hH]
   try rw[hV2]
   refine hK _ _ (.inr HW2.out) ?_
   clear hK K hV2 hk2 hH HW1 HM1 HP1 HB1 HO1
   have hown2:=HP2.out.outer
   have h2s:G+1+1<V2.heap.size:=(Zpu HW2.out)
   refine ZB rfl rfl fun K hK=>?_
   refine wp_append_lies _ (.tmp 22) (.tmp 25) 29 rfl (G+1+1) 23 i0 (.slice none 0 0) 1 24 Tryz.underlying29 hi hz0 hz1 hz2 rfl Zd (.slice pq pn pcap) _ _ rfl hown2 ⟨H,0,none⟩ 1 1 [.slice (some ⟨g,0,none⟩) N cap] rfl rfl hnews (by simp[Value.oneCell']) Zd (by rw[HKL.out];unfold maxLen;omega) (by rw[HKL.out];omega) Za V2.heap.size rfl ?_
   intro g2 cap2 V3 hown3 hgrow hor hlt3
   have hsn:=HP2.out.snoc HO2.out Za HGO.out.1 HGO.out.2 h2s hown3 hgrow (by
    rcases hor with h | h
    ·exact .inl (by rw[h];rfl)
    ·exact .inr ⟨g2,rfl,Za⟩)
   have hne:(Value.slice pq pn pcap).ownBlock≠some (G+1+1):=HP2.out.out.1
   have hne2:(Value.slice pq pn pcap).ownBlock≠some (G+1):=fun e=>by have:=(ZoZ HP2.out.outer _ e).1;omega
   have HW3:Hid (V3.heap[G+1+1]?=some (.cells #[.slice ps ns cs,.slice ph nh ch,.slice pr nr cr,.slice pq pn pcap,.map (some (G+1))] 95)):=(hgrow.block _ Za (fun e=>hne e.symm)).trans HW2.out
   have HM3:Hid (V3.heap[G+1]?=some (.map #[] 0)):=(hgrow.block _ Za (fun e=>hne2 e.symm)).trans HM2.out
   have HB3:Zpt w V3:=HB2.out.grown hgrow (by have:=HB2.out.size;omega) (fun x hx=>by have:=(ZoZ HP2.out.outer x hx).1;have:=HG.out;omega)
   rw[HKL.out] at hsn hown3
   have hsn':PlanO (p.take (k+1)) N (G+1) (G+1+1) (.slice (some ⟨g2,0,none⟩) (k+1) cap2) (fun u=>if u=k then g else gq u) (fun u=>if u=k then cap else gc u) V3:=by
    have e1:p.take (k+1)=p.take k++[l]:=by
     have hkp:k<p.length:=by rw[HPT.out];exact hlt
     rw[List.take_add_one,Zo6 hkp,<- HLL.out]
     simp[List.getD,hkp]
    rw[e1]
    exact hsn
   have HSN:=Zpz hsn'
   refine hK _ _ (.inr HW3.out) ?_
   clear hK K hsn hsn' hown3 hgrow hor hlt3 hne hne2 hown2 HW2 HM2 HP2 HB2 HO2 hnews
   simp only[Act.put,Zl]
   rw[HKL.out]
   iterate 2
    refine Zc8 _ rfl rfl (fun w' _=>Zf) ?_
    simp only[Act.put,Zl]
   have c3:=Zn HW3.out 3 (v:=.slice pq pn pcap) rfl
   have f3:=Zo HW3.out 3
   refine ZB rfl rfl fun K hK=>?_
   go_simp
   obtain⟨V4,hV4⟩:=ZpB (V3.setCell ⟨G+1+1,3,none⟩ (.slice (some ⟨g2,0,none⟩) (k+1) cap2))
   have hk4:Keeps (fun x=>x≠G+1+1) V3 V4:=by rw[<- hV4];exact(Keeps.refl _ V3).setCell Zc _
   have HW4:Hid (V4.heap[G+1+1]?=some (.cells #[.slice ps ns cs,.slice ph nh ch,.slice pr nr cr,.slice (some ⟨g2,0,none⟩) (k+1) cap2,.map (some (G+1))] 95)):=by rw[<- hV4];exact ZoQ HW3.out _
   have HM4:Hid (V4.heap[G+1]?=some (.map #[] 0)):=hk4.at HM3.out Za
   have HB4:Zpt w V4:=by rw[<- hV4];exact HB3.out.setCell (p:=⟨G+1+1,3,none⟩) (by have:=HG.out;show w.heap.size<=G+1+1;omega) _
   have HP4:=Zpz (HSN.out.keepB hk4)
   rw[hV4]
   refine hK _ _ (.inl rfl) ?_
   clear hK K hV4 hk4 c3 f3 HW3 HM3 HB3 HSN
   refine ZF ?_
   go_wp2
   go_roundw
   case rel=>exact⟨k+1,_,_,_,by go_num,Za,HP4,HW4,HM4,HB4⟩
   case measure=>exact Zj
  ·obtain rfl:k=T:=Za
   have HPF:Hid (PlanO p N (G+1) (G+1+1) pv gq gc wr):=by
    have h:=HP.out
    rw[<- HPT.out,List.take_length] at h
    exact h
   go_wp2
   refine ZoM (v:=.pointer (some ⟨G+1+1,0,none⟩)) (by simp[results,Tryz.f48,go_sem]) rfl ⟨G+1+1,G+1,pv,gq,gc,rfl,⟨HW.out,Za,w,HTI.out,HB.out,by have:=HG.out;omega⟩,HPF.out,?_,by have:=HG.out;omega,by have:=HG.out;omega,HB.out⟩
   exact⟨#[],0,HM.out,⟨Zc,Go.MapKept.stamped_empty 0,Zc⟩,Nat.le_refl _,Zc⟩
theorem Zft {t:TaskP} {p:List (List Int)} {sv hv rv pv0:Value} {N:Nat} {w:World} (ht:TaskIn t sv hv rv w) (hp:IIL w pv0 p) (hpl:p.length<=8) (hN:1<=N/\N<=24) (hrow:∀ u (h:u<p.length),p[u].length=N) :
  Calls Tryz.prog 48 #[.agg #[sv,hv,rv],pv0] w (Zmi t p N w):=
 (ZgD ht hp hpl hN hrow).mono fun _ _ ⟨b,m,pv,gq,gc,h⟩=>⟨b,m,sv,hv,rv,pv,gq,gc,h⟩
end Go.Proofs.YtmpaflidennnoaaGreatDoor
