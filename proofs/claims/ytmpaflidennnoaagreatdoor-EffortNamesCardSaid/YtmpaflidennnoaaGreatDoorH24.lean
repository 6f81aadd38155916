/- The parts EValue, EGain, EGreat0, EGreatS of a proof, put together by program (merge7.py). -/
import Derived.Test.YtmpaflidennnoaaGreatDoorH01
import Derived.Test.YtmpaflidennnoaaGreatDoorH23
import Derived.Test.YtmpaflidennnoaaGreatDoorH13
set_option maxRecDepth 100000
set_option maxHeartbeats 8000000
set_option linter.unusedVariables false
set_option linter.unusedSimpArgs false
namespace Go.Proofs.YtmpaflidennnoaaGreatDoor
open Go.RowKit Go.Shelf
attribute [local go_sem ↓] Go.wp_at_zero Go.wp_at_succ
abbrev siO (s t:ByteArray) (v:Value):Obj:=.cells #[.string s,.string t,v] 74
def WkX (m:Nat) (t:TaskP) (w0:World) (bs:List (Nat×Obj)) (w:World):Prop:=∃ n,Wk m t n w0 bs w
def ZmX (f:Nat→Rat) (N m:Nat) (t:TaskP) (n:Nat) (w:World) (e:Ending) (w':World):Prop:=
 ∃ x y k,((k=0∧e=.returned (pV x y))∨(k≠0∧e=Zcp k))∧SumE f N x y k∧Keeps (NotM m) w w'∧Memo w' m t n
theorem ZfS {a b:Rat} {s t u v:ByteArray} (ha:IsP a s t) (hb:IsP b u v) (w:World) (hT:Tabs w) :
  Calls Tryz.prog 42 #[pV s t,pV u v] w (Zx (Ans (a+b)) w):=by
 refine(Zju s t u v w ha.le.1 ha.le.2 hb.le.1 hb.le.2 hT).mono ?_
 rintro e w' ⟨x,y,n,rfl,h,hB⟩
 rcases h with ⟨h,_⟩ | ⟨_,h⟩
 ·rw[ha.oks hb] at h;cases h
 ·rw[ha.rat,hb.rat] at h
  exact⟨x,y,n,rfl,h,hB⟩
theorem Zgf {t:TaskP} {p:List (List Int)} {b m n:Nat} {sv hv rv pv:Value} {pb po pc:Nat} {gq gp gc:Nat→Nat} {w:World} (h:WorkW t b m sv hv rv pv w) (hP:PlanW p t.sites.length m pv pb po pc gq gp gc w) (hm:Memo w m t n) (hn:n≤900000000000) (ok:TaskOk t) (inn:ZaV t p) :
  Calls Tryz.prog 60 #[.pointer (some ⟨b,0,none⟩)] w (ZmX (valF t p) t.sites.length m t (n+24) w):=by
 obtain⟨sb,so,sc,hb,ho,hc,rb,ro,rk,cv,rq,rp,rc,k1,k2,k3,hA⟩:=h.open ok
 obtain⟨N,hN⟩:∃ n,t.sites.length=n:=⟨_,rfl⟩
 have HS:Hid (∀ V,Keeps (NotM m) w V→V.cell? ⟨b,0,none⟩=some (.slice (some ⟨sb,so,none⟩) N sc)∧(∀ i,i<N→V.cell? ⟨sb,so+i*3,none⟩=some (.string (eS t i).weight.1)∧V.cell? ⟨sb,so+i*3+1,none⟩=some (.string (eS t i).weight.2)∧V.cell? ⟨sb,so+i*3+2,none⟩=some (cv i))∧EffZ V∧Tabs V):=fun V hV=>by
  have A:=hA V hV
  refine⟨by rw[← hN];exact A.w0,fun i hi=>?_,A.at'.eff,A.at'.tabs⟩
  obtain⟨a0,a1,a2,_⟩:=A.at'.site i (by rw[hN];exact hi)
  exact⟨a0,a1,a2⟩
 have HCV:Hid (∀ i,i<N→∀ V,Keeps (NotM m) w V→Calls Tryz.prog 71 #[.pointer (some ⟨b,0,none⟩),.int .i64 i] V (fun e w'=>∃ x y,e=.returned (pV x y)∧IsP (covR t p i) x y∧Below V.heap.size V w')):=fun i hi V hV=>
  Zez (h.keep hV) (hP.keep hV) ok inn (by rw[hN];exact hi)
 have HCH:Hid (∀ i,i<N→∀ V k x y,Keeps (NotM m) w V→Memo V m t k→k≤1000000000000→IsP (covR t p i) x y→Calls Tryz.prog 120 #[.pointer (some ⟨b,0,none⟩),.int .i64 i,pV x y] V (ZdO (chF (eS t i).curve (covR t p i)) m t (k+1) V)):=fun i hi V k x y hV hk hk2 hx=>
  Zfr (h.keep hV) hk hk2 ok (by rw[hN];exact hi) hx ((Zcw ok inn (by rw[hN];exact hi) (Nat.le_refl _)).2.1.mono (by decide))
 have HF:Hid (∀ i,i<N→IsP (wR t i) (eS t i).weight.1 (eS t i).weight.2∧(∃ x y,IsP (valF t p i) x y)∧0≤valF t p i):=fun i hi=>by
  have hi':i<t.sites.length:=by rw[hN];exact hi
  obtain⟨c1,c2,c3⟩:=Zcw ok inn hi' (Nat.le_refl _)
  obtain⟨d1,d2,d3,d4⟩:=Zfi ok hi' c3 c2 (by decide)
  obtain⟨w1,w2⟩:=Zco ok hi'
  have n0:=Rat.mul_nonneg w1.nn d3
  exact⟨w1,ZL n0 (Sz.mul w1.nn d3 w2 d2) (by decide) (by decide),n0⟩
 have HSH:Hid (∀ i,i<N→∃ p n c,cv i=.slice p n c):=fun i hi=>by
  obtain⟨_,_,_,h1⟩:=(hA w (Keeps.refl _ _)).at'.site i (by rw[hN];exact hi)
  obtain⟨p,c,h2,_⟩:=h1
  exact⟨_,_,_,h2⟩
 have HM:=Lib.hid hm
 have HN:=Lib.hid hn
 have hN24:N≤24:=by rw[← hN];exact ok.sites.2
 have hsc:N≤sc∧sc≤9223372036854775807:=by rw[← hN];exact k1
 rw[hN]
 clear h hP hm hn ok inn hA k1 k2 k3 hN
 have HE0:Hid (Wk m t n w [(w.heap.size,pObj ⟨#[]⟩ ⟨#[]⟩)] (w.alloc (pObj ⟨#[]⟩ ⟨#[]⟩))):=(Wk.start HM.out).push _ rfl
 obtain⟨a0,_,z,_⟩:=HS.out _ HE0.out.base
 have z0:=z.z0
 have z1:=z.z1
 have HE1:Hid (Wk m t n w [(w.heap.size+1,pObj ⟨#[48]⟩ ⟨#[49]⟩),(w.heap.size,pObj ⟨#[]⟩ ⟨#[]⟩)] ((w.alloc (pObj ⟨#[]⟩ ⟨#[]⟩)).alloc (pObj ⟨#[48]⟩ ⟨#[49]⟩))):=HE0.out.push _ (by simp)
 obtain⟨a1,_⟩:=HS.out _ HE1.out.base
 clear z HE0 HM
 go_enter Tryz.func60,Tryz.ntmps60
 go_wp2_with fail
 clear z0 z1 a0 a1
 go_loopw [13] (fun v wr=>∃ (k:Nat) (x y:ByteArray),v=.int .i64 k∧k≤N∧Hid (IsP (sumF (valF t p) k) x y)∧Hid (ZT (valF t p) k)∧Hid (Wk m t (n+k) w [(w.heap.size+1,pObj x y),(w.heap.size,pObj ⟨#[]⟩ ⟨#[]⟩)] wr)) (fun v _=>N-(intOf v).toNat)
 case atStart=>exact⟨0,_,_,rfl,Nat.zero_le _,ZP,ZT.zero _,HE1⟩
 case round=>
  obtain⟨k,x,y,rfl,hk,HIA,HAF,HE⟩:=hrel
  clear HE1
  by_cases hlt:k<N
  ·obtain⟨hF1,⟨x8,y8,hx8⟩,hnn⟩:=HF.out k hlt
   have HCV1:=Lib.hid (HCV.out k hlt)
   have HCH1:=Lib.hid (HCH.out k hlt)
   have HV:Hid (∀ V,Keeps (NotM m) w V→V.cell? ⟨sb,so+k*3,none⟩=some (.string (eS t k).weight.1)∧V.cell? ⟨sb,so+k*3+1,none⟩=some (.string (eS t k).weight.2)∧V.cell? ⟨sb,so+k*3+2,none⟩=some (cv k)):=fun V hV=>(HS.out V hV).2.1 k hlt
   obtain⟨pq,nq,cq,hcv⟩:=HSH.out k hlt
   obtain⟨⟨s1,t1⟩,hs1⟩:∃ z,(eS t k).weight=z:=⟨_,rfl⟩
   rw[hcv,hs1] at HV
   rw[hs1] at hF1
   dsimp only at HV hF1
   have HX8:=Lib.hid hx8
   have HWR:=Lib.hid hF1
   have HNN:=Lib.hid hnn
   clear hx8 hF1 hnn hcv hs1
   obtain⟨e0,e1,e2⟩:=HV.out _ HE.out.base
   have i0':(0:Int)≤(k:Int):=by omega
   have i1':(k:Int)<(N:Int):=by omega
   have HE2:=Lib.hid (HE.out.push (siO s1 t1 (.slice pq nq cq)) rfl)
   clear HE
   obtain⟨g,hg⟩:∃ g,wr.heap.size=g:=⟨_,rfl⟩
   obtain⟨w3,hw3⟩:∃ z,wr.alloc (siO s1 t1 (.slice pq nq cq))=z:=⟨_,rfl⟩
   rw[hg,hw3] at HE2
   go_wp2_with fail
   try rw[hg]
   try rw[hw3]
   clear hg hw3 e0 e1 e2
   refine ZG [(1,0),(1,1),(1,2),(1,3),(1,4),(1,5),(1,6),(0,7),(0,8),(0,9),(1,10),(1,11),(0,12),(0,13),(1,14),(1,15),(0,16),(0,17)] (WkX m t w [(g,siO s1 t1 (.slice pq nq cq)),(w.heap.size+1,pObj x y),(w.heap.size,pObj ⟨#[]⟩ ⟨#[]⟩)]) (fun i=>i==17)
    (by kernel_rfl) (by kernel_rfl) (fun j hj=>by have h:18≤j:=hj;simp;omega) (fun _ _ o _ _ h=>by cases o<;>exact h) ⟨_,HE2.out.drew⟩ ?_
   obtain⟨w4,hw4⟩:∃ z,w3.drew=z:=⟨_,rfl⟩
   have HE4:Hid (Wk m t (n+k) w [(g,siO s1 t1 (.slice pq nq cq)),(w.heap.size+1,pObj x y),(w.heap.size,pObj ⟨#[]⟩ ⟨#[]⟩)] w4):=by rw[← hw4];exact HE2.out.drew
   rw[hw4]
   clear hw4 HE2
   iterate 7
    refine Zc _ rfl rfl (fun w' hS=>by obtain⟨_,hS⟩:=hS;have c0:=hS.cell 1 0 (v:=.string x) rfl rfl;have c1:=hS.cell 1 1 (v:=.string y) rfl rfl;have d0:=hS.cell 0 0 (v:=.string s1) rfl rfl;have d1:=hS.cell 0 1 (v:=.string t1) rfl rfl;go_simp;first | rfl | (rw[if_pos (by omega)])) ?_
    simp only[Znc,Znd,Zne,Act.put,Znf,Zng,Znh]
   refine Zl 71 _ rfl rfl (by go_simp;rfl) ?_
   have HEC:=HE4
   refine(HCV1.out _ HEC.out.base).mono ?_
   rintro e w5 ⟨xc,yc,rfl,hxc,hb⟩
   have HE5:=Lib.hid (HEC.out.step hb)
   refine .inl ⟨_,rfl,⟨_,HE5.out⟩,?_⟩
   clear hb HEC
   simp only[Znc,Znd,Zne,Act.put,Znf,Zng,Znh]
   have HXC:=Lib.hid hxc
   clear hxc
   refine Zl 120 _ rfl rfl (by go_simp;rfl) ?_
   have HEC:=HE5
   refine(HCH1.out _ _ _ _ HEC.out.base HEC.out.memo (by have:=HN.out;omega) HXC.out).mono ?_
   rintro e w6 ⟨xh,yh,rfl,hxh,hb,hmm⟩
   have HE6:=Lib.hid (HEC.out.call hb hmm)
   refine .inl ⟨_,rfl,⟨_,HE6.out⟩,?_⟩
   clear hb HEC
   simp only[Znc,Znd,Zne,Act.put,Znf,Zng,Znh]
   have HXH:=Lib.hid hxh
   clear hxh hmm
   refine Zl 119 _ rfl rfl (by go_simp;rfl) ?_
   have HEC:=HE6
   refine(Zcb HWR.out HXH.out HX8.out rfl _ (HS.out _ HEC.out.base).2.2.2).mono ?_
   rintro e w7 ⟨rfl,hb⟩
   have HE7:=Lib.hid (HEC.out.step hb)
   refine .inl ⟨_,rfl,⟨_,HE7.out⟩,?_⟩
   clear hb HEC
   simp only[Znc,Znd,Zne,Act.put,Znf,Zng,Znh]
   iterate 2
    refine Zc _ rfl rfl (fun w' hS=>by skip;go_simp;first | rfl | (rw[if_pos (by omega)])) ?_
    simp only[Znc,Znd,Zne,Act.put,Znf,Zng,Znh]
   refine Zl 103 _ rfl rfl (by go_simp;rfl) ?_
   have HEC:=HE7
   refine(Z4 x8 y8 _).mono ?_
   rintro e w8 ⟨rfl,hb⟩
   have HE8:=Lib.hid (HEC.out.step hb)
   refine .inl ⟨_,rfl,⟨_,HE8.out⟩,?_⟩
   clear hb HEC
   simp only[Znc,Znd,Zne,Act.put,Znf,Zng,Znh]
   refine Zl 42 _ rfl rfl (by go_simp;rfl) ?_
   have HEC:=HE8
   refine(ZfS HIA.out HX8.out _ (HS.out _ HEC.out.base).2.2.2).mono ?_
   rintro e w9 ⟨x9,y9,n9,rfl,hA9,hb⟩
   have HE9:=Lib.hid (HEC.out.step hb)
   refine .inl ⟨_,rfl,⟨_,HE9.out⟩,?_⟩
   clear hb HEC
   simp only[Znc,Znd,Zne,Act.put,Znf,Zng,Znh]
   have HA9:=Lib.hid hA9
   clear hA9
   iterate 2
    refine Zc _ rfl rfl (fun w' hS=>by skip;go_simp;first | rfl | (rw[if_pos (by omega)])) ?_
    simp only[Znc,Znd,Zne,Act.put,Znf,Zng,Znh]
   refine Zl 103 _ rfl rfl (by go_simp;rfl) ?_
   refine(ZcV x9 y9 n9 _).mono ?_
   rintro e w10 ⟨hE,hb⟩
   have HE10:=Lib.hid (HE9.out.step hb)
   clear HE4 HE5 HE6 HE7 HE8 HE9 hb
   rcases hE with ⟨h0,rfl⟩ | ⟨h0,rfl⟩
   ·refine .inl ⟨_,rfl,⟨_,HE10.out⟩,?_⟩
    have HX9:Hid (IsP (sumF (valF t p) (k+1)) x9 y9):=HA9.out.zero h0
    clear h0 HA9
    simp only[Znc,Znd,Zne,Act.put,Znf,Zng,Znh]
    have HE9:=Lib.hid (HE10.out.only [1,2] _ rfl (by decide))
    have r0:=HE9.out.cell 0 0 rfl rfl
    have r1:=HE9.out.cell 0 1 rfl rfl
    have f0:=HE9.out.free 0 0 rfl
    have f1:=HE9.out.free 0 1 rfl
    refine Zn rfl rfl fun K hK=>?_
    go_simp
    have HE11:=Lib.hid (HE9.out.fill (.string x9) (.string y9))
    refine hK _ _ (.inl rfl) ?_
    clear hK K r0 r1 f0 f1 HE9 HE10
    refine Zq ?_
    go_wp2
    go_roundw
    case rel=>exact⟨k+1,x9,y9,by go_num,by omega,HX9,HAF.out.step HX9.out.fits,HE11⟩
    case measure=>simp[intOf];omega
   ·refine .inr ⟨_,rfl,?_⟩
    rcases HA9.out with ⟨_,h1⟩ | ⟨h1,_,_,h2⟩
    ·exact absurd h1 h0
    ·subst h2
     have HSE:Hid (SumE (valF t p) N ⟨#[]⟩ ⟨#[]⟩ 4):=.inr ⟨ZT.not h1 hlt,rfl,rfl,rfl⟩
     exact⟨rfl,⟨#[]⟩,⟨#[]⟩,4,.inr ⟨by decide,rfl⟩,HSE.out,HE10.out.base,HE10.out.memo.mono (by omega)⟩
  ·obtain rfl:k=N:=by omega
   have HSE:Hid (SumE (valF t p) k x y 0):=.inl ⟨HAF.out,HIA.out,rfl⟩
   have HE1:=Lib.hid (HE.out.only [1,0] _ rfl (by decide))
   have c0:=HE1.out.cell 1 0 (v:=.string x) rfl rfl
   have c1:=HE1.out.cell 1 1 (v:=.string y) rfl rfl
   have r0:=HE1.out.cell 0 0 rfl rfl
   have r1:=HE1.out.cell 0 1 rfl rfl
   have f0:=HE1.out.free 0 0 rfl
   have f1:=HE1.out.free 0 1 rfl
   go_wp2
   have HE9:=Lib.hid (HE1.out.fill (.string x) (.string y))
   have q0:=HE9.out.cell 0 0 (v:=.string x) rfl rfl
   have q1:=HE9.out.cell 0 1 (v:=.string y) rfl rfl
   exact bodyPost_ret (v:=.agg #[.string x,.string y]) (by simp[results,Tryz.f60,go_sem,q0,q1]) rfl ⟨x,y,0,.inl ⟨rfl,rfl⟩,HSE.out,HE9.out.base,HE9.out.memo.mono (by omega)⟩
theorem ZlM {bs:List BB} (h:CurveP bs) {a b:Rat} (hab:a≤b):chF bs a≤chF bs b:=Zv.mono h.conc' hab (ZcJ h a) (ZcJ h b)
theorem ZkZ {t:TaskP} {p:List (List Int)} (ok:TaskOk t) (inn:ZaV t p) {u i:Nat} (hu:u<t.rates.length) (hi:i<t.sites.length) :
  (∃ x y,IsP (covR t p i+rR t u i) x y)∧Sz 300 (covR t p i+rR t u i)∧Sz 300 (covR t p i)∧(∃ x y,IsP (chF (eS t i).curve (covR t p i+rR t u i)-chF (eS t i).curve (covR t p i)) x y)∧(∃ x y,IsP (Z3 t p u i) x y)∧0≤Z3 t p u i:=by
 obtain⟨c1,c2,c3⟩:=Zcw ok inn hi (Nat.le_refl p.length)
 obtain⟨r1,r2⟩:=ZcF ok hu hi
 obtain⟨w1,w2⟩:=Zco ok hi
 have n0:0≤covR t p i+rR t u i:=by
  have:=r1.nn
  have h:covR t p i=Zar t p i p.length:=rfl
  rw[h]
  grind
 have z0:Sz 107 (covR t p i+rR t u i):=(Sz.add c3 r1.nn c2 r2).mono (by decide)
 obtain⟨d1,d2,d3,d4⟩:=Zfi ok hi n0 z0 (by decide)
 obtain⟨e1,e2,e3,e4⟩:=Zfi ok hi c3 c2 (by decide)
 have hle:chF (eS t i).curve (covR t p i)≤chF (eS t i).curve (covR t p i+rR t u i):=ZlM (ok.site i hi).2 (by have:=r1.nn;grind)
 have n1:0≤chF (eS t i).curve (covR t p i+rR t u i)-chF (eS t i).curve (covR t p i):=by grind
 have z1:=Sz.sub d3 e3 hle d2 e2
 have n2:=Rat.mul_nonneg w1.nn n1
 exact⟨ZL n0 z0 (by decide) (by decide),z0.mono (by decide),(show Sz 97 (covR t p i) from c2).mono (by decide),ZL n1 z1 (by decide) (by decide),ZL n2 (Sz.mul w1.nn n1 w2 z1) (by decide) (by decide),n2⟩
theorem Zg8 {t:TaskP} {p:List (List Int)} {b m n:Nat} {sv hv rv pv:Value} {pb po pc:Nat} {gq gp gc:Nat→Nat} {w:World} (h:WorkW t b m sv hv rv pv w) (hP:PlanW p t.sites.length m pv pb po pc gq gp gc w) (hm:Memo w m t n) (hn:n≤900000000000) (ok:TaskOk t) (inn:ZaV t p)
  {u i:Nat} (hu:u<t.rates.length) (hi:i<t.sites.length) :
  Calls Tryz.prog 78 #[.pointer (some ⟨b,0,none⟩),.int .i64 u,.int .i64 i] w (ZdO (Z3 t p u i) m t (n+4) w):=by
 obtain⟨sb,so,sc,hb,ho,hc,rb,ro,rk,cv,rq,rp,rc,k1,k2,k3,hA⟩:=h.open ok
 obtain⟨N,hN⟩:∃ n,t.sites.length=n:=⟨_,rfl⟩
 obtain⟨T,hT⟩:∃ n,t.rates.length=n:=⟨_,rfl⟩
 have HS:Hid (∀ V,Keeps (NotM m) w V→(V.cell? ⟨b,0,none⟩=some (.slice (some ⟨sb,so,none⟩) N sc)∧V.cell? ⟨sb,so+i*3,none⟩=some (.string (eS t i).weight.1)∧V.cell? ⟨sb,so+i*3+1,none⟩=some (.string (eS t i).weight.2))∧
   (V.cell? ⟨b,2,none⟩=some (.slice (some ⟨rb,ro,none⟩) T rk)∧V.cell? ⟨rb,ro+u,none⟩=some (.slice (some ⟨rq u,rp u,none⟩) N (rc u))∧V.cell? ⟨rq u,rp u+i*2,none⟩=some (.string (eR t u i).1)∧V.cell? ⟨rq u,rp u+i*2+1,none⟩=some (.string (eR t u i).2))∧Tabs V):=fun V hV=>by
  have A:=hA V hV
  obtain⟨a0,a1,a2,_⟩:=A.at'.site i hi
  obtain⟨b0,_,_,b1⟩:=A.at'.rate u hu
  rw[hN] at b0
  exact⟨⟨by rw[← hN];exact A.w0,a0,a1⟩,⟨by rw[← hT];exact A.w2,b0,b1 i hi⟩,A.at'.tabs⟩
 have HCV:Hid (∀ V,Keeps (NotM m) w V→Calls Tryz.prog 71 #[.pointer (some ⟨b,0,none⟩),.int .i64 i] V (fun e w'=>∃ x y,e=.returned (pV x y)∧IsP (covR t p i) x y∧Below V.heap.size V w')):=fun V hV=>
  Zez (h.keep hV) (hP.keep hV) ok inn hi
 have HCH:Hid (∀ V k q x y,Keeps (NotM m) w V→Memo V m t k→k≤1000000000000→IsP q x y→Sz 300 q→Calls Tryz.prog 120 #[.pointer (some ⟨b,0,none⟩),.int .i64 i,pV x y] V (ZdO (chF (eS t i).curve q) m t (k+1) V)):=fun V k q x y hV hk hk2 hx hz=>
  Zfr (h.keep hV) hk hk2 ok hi hx hz
 have HF:=Lib.hid (ZkZ ok inn hu hi)
 have HWR:Hid (IsP (wR t i) (eS t i).weight.1 (eS t i).weight.2):=(Zco ok hi).1
 have HRR:Hid (IsP (rR t u i) (eR t u i).1 (eR t u i).2):=(ZcF ok hu hi).1
 have HM:=Lib.hid hm
 have HN:=Lib.hid hn
 have hsc:N≤sc∧sc≤9223372036854775807:=by rw[← hN];exact k1
 have hrk:T≤rk∧rk≤9223372036854775807:=by rw[← hT];exact k3
 obtain⟨_,hrc1,hrc2,_⟩:=(hA w (Keeps.refl _ _)).at'.rate u hu
 rw[hN] at hi hrc1
 rw[hT] at hu
 obtain⟨q1,hq1⟩:∃ z,rq u=z:=⟨_,rfl⟩
 obtain⟨o1,ho1⟩:∃ z,rp u=z:=⟨_,rfl⟩
 obtain⟨c1,hc1⟩:∃ z,rc u=z:=⟨_,rfl⟩
 obtain⟨⟨s1,t1⟩,hs1⟩:∃ z,eR t u i=z:=⟨_,rfl⟩
 obtain⟨⟨s2,t2⟩,hs2⟩:∃ z,(eS t i).weight=z:=⟨_,rfl⟩
 rw[hq1,ho1,hc1,hs1,hs2] at HS
 rw[hc1] at hrc1 hrc2
 rw[hs1] at HRR
 rw[hs2] at HWR
 dsimp only at HS HRR HWR
 clear h hP hm hn ok inn hA k1 k2 k3 hN hT hq1 ho1 hc1 hs1 hs2
 have HE0:Hid (Wk m t n w [(w.heap.size,pObj ⟨#[]⟩ ⟨#[]⟩)] (w.alloc (pObj ⟨#[]⟩ ⟨#[]⟩))):=(Wk.start HM.out).push _ rfl
 clear HM
 have i0':(0:Int)≤(i:Int):=by omega
 have i1':(i:Int)<(N:Int):=by omega
 have u0':(0:Int)≤(u:Int):=by omega
 have u1':(u:Int)<(T:Int):=by omega
 go_enter Tryz.func78,Tryz.ntmps78
 go_wp2_with fail
 refine(HCV.out _ HE0.out.base).mono ?_
 rintro e w1 ⟨xc,yc,rfl,hxc,hb1⟩
 have HXC:=Lib.hid hxc
 obtain⟨G,hG⟩:∃ G,w.heap.size=G:=⟨_,rfl⟩
 obtain⟨g7,hg7⟩:∃ g,w1.heap.size=g:=⟨_,rfl⟩
 obtain⟨w2,hw2⟩:∃ z,w1.alloc (pObj xc yc)=z:=⟨_,rfl⟩
 have HE2:Hid (Wk m t n w [(g7,pObj xc yc),(G,pObj ⟨#[]⟩ ⟨#[]⟩)] w2):=by rw[← hw2,← hG];exact(HE0.out.step hb1).push _ hg7.symm
 clear hxc hb1 HE0
 go_wp2_with fail
 try rw[hg7]
 try rw[hw2]
 try rw[hG]
 clear hg7 hw2 hG
 obtain⟨⟨xm,ym,hxm⟩,hzm,hzc,⟨xd,yd,hxd⟩,⟨xg,yg,hxg⟩,_⟩:=HF.out
 have HXM:=Lib.hid hxm
 have HXD:=Lib.hid hxd
 have HXG:=Lib.hid hxg
 have HZ:=Lib.hid (And.intro hzm hzc)
 clear hxm hxd hxg hzm hzc HF
 refine ZbE 16 8 [(0,17)] [(1,0),(1,1),(1,2),(1,3),(1,4),(1,5),(1,6),(1,7),(1,8),(1,9),(1,10),(1,11),(0,12),(1,13),(1,14),(0,15)] (fun _ g V=>Wk m t n w (Zef (pObj ⟨#[]⟩ ⟨#[]⟩) [(g7,pObj xc yc),(G,pObj ⟨#[]⟩ ⟨#[]⟩)] g) V) (fun i=>i==17)
  (by kernel_rfl) (by kernel_rfl) (fun j hj=>by have h:18≤j:=hj;simp;omega) (fun _ _ o _ _ h=>by cases o<;>exact h) rfl rfl (fun _=>rfl) (fun a V K hK=>by go_simp;exact hK) (fun j V h=>h.push _ rfl) HE2.out.drew ?_
 iterate 12
  refine ZI _ rfl (fun z=>rfl) (fun z j g w' hS=>by have hE:=hS.bare;have c0:=hE.cell 0 0 (v:=.string xc) rfl rfl;have c1:=hE.cell 0 1 (v:=.string yc) rfl rfl;obtain⟨_,⟨e0,e1,e2,e3⟩,_⟩:=HS.out _ hE.base;simp only[Act.put,List.setIfInBounds_toArray,List.set_cons_zero,List.set_cons_succ];go_simp;first | rfl | (rw[if_pos (by omega)])) ?_
  simp only[Znc,Znd,Zne,Act.put,Znf,Zng,Znh]
 refine Zau 42 _ rfl (fun z=>rfl) (fun z w'=>by simp only[Act.put,List.setIfInBounds_toArray,List.set_cons_zero,List.set_cons_succ];go_simp;rfl) (fun g V hS=>?_)
 refine(Zib HXC.out HRR.out HXM.out rfl _ (HS.out _ hS.bare.base).2.2).mono ?_
 rintro e V' ⟨rfl,hb⟩
 refine .inl ⟨_,rfl,hS.step hb,?_⟩
 clear hb hS
 simp only[Znc,Znd,Zne,Act.put,Znf,Zng,Znh]
 iterate 2
  refine ZI _ rfl (fun z=>rfl) (fun z j g w' hS=>by skip;simp only[Act.put,List.setIfInBounds_toArray,List.set_cons_zero,List.set_cons_succ];go_simp;first | rfl | (rw[if_pos (by omega)])) ?_
  simp only[Znc,Znd,Zne,Act.put,Znf,Zng,Znh]
 refine Zau 103 _ rfl (fun z=>rfl) (fun z w'=>by simp only[Act.put,List.setIfInBounds_toArray,List.set_cons_zero,List.set_cons_succ];go_simp;rfl) (fun g V hS=>?_)
 refine(Z4 xm ym _).mono ?_
 rintro e V' ⟨rfl,hb⟩
 refine .inl ⟨_,rfl,hS.step hb,?_⟩
 clear hb hS
 simp only[Znc,Znd,Zne,Act.put,Znf,Zng,Znh]
 refine ZaF fun g8 V hS=>?_
 simp only[Znc,Znd,Zne,Act.put,Znf,Zng,Znh]
 have HE8:Hid (Wk m t n w [(g8,pObj ⟨#[]⟩ ⟨#[]⟩),(g7,pObj xc yc),(G,pObj ⟨#[]⟩ ⟨#[]⟩)] V):=hS
 have r0:=HE8.out.cell 0 0 rfl rfl
 have r1:=HE8.out.cell 0 1 rfl rfl
 have f0:=HE8.out.free 0 0 rfl
 have f1:=HE8.out.free 0 1 rfl
 refine Zn rfl rfl fun K hK=>?_
 go_simp
 have HE9:=Lib.hid (HE8.out.fill (.string xm) (.string ym))
 refine hK _ _ (.inl rfl) ?_
 clear hK K r0 r1 f0 f1 HE8 HE2 hS
 refine Zq ?_
 obtain⟨Z,hZ⟩:∃ z,(V.setCell ⟨g8,0,none⟩ (.string xm)).setCell ⟨g8,1,none⟩ (.string ym)=z:=⟨_,rfl⟩
 rw[hZ] at HE9 ⊢
 clear hZ
 go_wp2_with fail
 refine ZbE 12 9 [(0,13)] [(1,0),(1,1),(1,2),(1,4),(1,5),(1,6),(0,3),(0,7),(0,8),(1,9),(1,10),(0,11)] (fun j g V=>Wk m t (n+j) w (Zef (pObj ⟨#[]⟩ ⟨#[]⟩) [(g8,pObj xm ym),(g7,pObj xc yc),(G,pObj ⟨#[]⟩ ⟨#[]⟩)] g) V) (fun i=>i==13)
  (by kernel_rfl) (by kernel_rfl) (fun j hj=>by have h:14≤j:=hj;simp;omega) (fun _ _ o _ _ h=>by cases o<;>exact h) rfl rfl (fun _=>rfl) (fun a V K hK=>by go_simp;exact hK) (fun j V h=>h.push _ rfl) HE9.out.drew ?_
 iterate 6
  refine ZI _ rfl (fun z=>rfl) (fun z j g w' hS=>by have hE:=hS.bare;have c0:=hE.cell 0 0 (v:=.string xm) rfl rfl;have c1:=hE.cell 0 1 (v:=.string ym) rfl rfl;have d0:=hE.cell 1 0 (v:=.string xc) rfl rfl;have d1:=hE.cell 1 1 (v:=.string yc) rfl rfl;simp only[Act.put,List.setIfInBounds_toArray,List.set_cons_zero,List.set_cons_succ];go_simp;first | rfl | (rw[if_pos (by omega)])) ?_
  simp only[Znc,Znd,Zne,Act.put,Znf,Zng,Znh]
 refine Zau 120 _ rfl (fun z=>rfl) (fun z w'=>by simp only[Act.put,List.setIfInBounds_toArray,List.set_cons_zero,List.set_cons_succ];go_simp;rfl) (fun g V hS=>?_)
 refine(HCH.out _ _ _ _ _ hS.bare.base hS.memo (by have:=HN.out;omega) HXM.out HZ.out.1).mono ?_
 rintro e V' ⟨x1,y1,rfl,hx1,hb,hmm⟩
 have HX1:=Lib.hid hx1
 refine .inl ⟨_,rfl,hS.call hb hmm,?_⟩
 clear hb hS hmm hx1
 simp only[Znc,Znd,Zne,Act.put,Znf,Zng,Znh]
 refine Zau 120 _ rfl (fun z=>rfl) (fun z w'=>by simp only[Act.put,List.setIfInBounds_toArray,List.set_cons_zero,List.set_cons_succ];go_simp;rfl) (fun g V hS=>?_)
 refine(HCH.out _ _ _ _ _ hS.bare.base hS.memo (by have:=HN.out;omega) HXC.out HZ.out.2).mono ?_
 rintro e V' ⟨x2,y2,rfl,hx2,hb,hmm⟩
 have HX2:=Lib.hid hx2
 refine .inl ⟨_,rfl,hS.call hb hmm,?_⟩
 clear hb hS hmm hx2
 simp only[Znc,Znd,Zne,Act.put,Znf,Zng,Znh]
 refine Zau 104 _ rfl (fun z=>rfl) (fun z w'=>by simp only[Act.put,List.setIfInBounds_toArray,List.set_cons_zero,List.set_cons_succ];go_simp;rfl) (fun g V hS=>?_)
 refine(Zbw HX1.out HX2.out HXD.out rfl _ (HS.out _ hS.bare.base).2.2).mono ?_
 rintro e V' ⟨rfl,hb⟩
 refine .inl ⟨_,rfl,(hS.step hb).mono (by omega),?_⟩
 clear hb hS
 simp only[Znc,Znd,Zne,Act.put,Znf,Zng,Znh]
 iterate 2
  refine ZI _ rfl (fun z=>rfl) (fun z j g w' hS=>by skip;simp only[Act.put,List.setIfInBounds_toArray,List.set_cons_zero,List.set_cons_succ];go_simp;first | rfl | (rw[if_pos (by omega)])) ?_
  simp only[Znc,Znd,Zne,Act.put,Znf,Zng,Znh]
 refine Zau 103 _ rfl (fun z=>rfl) (fun z w'=>by simp only[Act.put,List.setIfInBounds_toArray,List.set_cons_zero,List.set_cons_succ];go_simp;rfl) (fun g V hS=>?_)
 refine(Z4 xd yd _).mono ?_
 rintro e V' ⟨rfl,hb⟩
 refine .inl ⟨_,rfl,(hS.step hb).mono (by omega),?_⟩
 clear hb hS
 simp only[Znc,Znd,Zne,Act.put,Znf,Zng,Znh]
 refine ZaF fun g9 V hS=>?_
 simp only[Znc,Znd,Zne,Act.put,Znf,Zng,Znh]
 have HE8:Hid (Wk m t (n+4) w [(g9,pObj ⟨#[]⟩ ⟨#[]⟩),(g8,pObj xm ym),(g7,pObj xc yc),(G,pObj ⟨#[]⟩ ⟨#[]⟩)] V):=hS
 have r0:=HE8.out.cell 0 0 rfl rfl
 have r1:=HE8.out.cell 0 1 rfl rfl
 have f0:=HE8.out.free 0 0 rfl
 have f1:=HE8.out.free 0 1 rfl
 refine Zn rfl rfl fun K hK=>?_
 go_simp
 have HE10:=Lib.hid ((HE8.out.fill (.string xd) (.string yd)).only [0,3] _ rfl (by decide))
 refine hK _ _ (.inl rfl) ?_
 clear hK K r0 r1 f0 f1 HE8 hS HE9
 refine Zq ?_
 obtain⟨Z2,hZ⟩:∃ z,(V.setCell ⟨g9,0,none⟩ (.string xd)).setCell ⟨g9,1,none⟩ (.string yd)=z:=⟨_,rfl⟩
 rw[hZ] at HE10 ⊢
 clear hZ
 go_wp2_with fail
 refine ZG [(1,0),(1,1),(1,2),(1,3),(1,4),(1,5),(1,6),(1,7),(1,8),(1,9),(0,10),(1,11),(1,12),(0,13),(0,14)] (Wk m t (n+4) w [(g9,pObj xd yd),(G,pObj ⟨#[]⟩ ⟨#[]⟩)]) (fun i=>i==14)
  (by kernel_rfl) (by kernel_rfl) (fun j hj=>by have h:15≤j:=hj;simp;omega) (fun _ _ o _ _ h=>by cases o<;>exact h) HE10.out.drew ?_
 obtain⟨w4,hw4⟩:∃ z,Z2.drew=z:=⟨_,rfl⟩
 have HE4:Hid (Wk m t (n+4) w [(g9,pObj xd yd),(G,pObj ⟨#[]⟩ ⟨#[]⟩)] w4):=by rw[← hw4];exact HE10.out.drew
 rw[hw4]
 clear hw4 HE10
 iterate 10
  refine Zc _ rfl rfl (fun w' hS=>by have c0:=hS.cell 0 0 (v:=.string xd) rfl rfl;have c1:=hS.cell 0 1 (v:=.string yd) rfl rfl;obtain⟨⟨e0,e1,e2⟩,_,_⟩:=HS.out _ hS.base;go_simp;first | rfl | (rw[if_pos (by omega)])) ?_
  simp only[Znc,Znd,Zne,Act.put,Znf,Zng,Znh]
 refine Zl 119 _ rfl rfl (by go_simp;rfl) ?_
 have HEC:=HE4
 refine(Zcb HWR.out HXD.out HXG.out rfl _ (HS.out _ HEC.out.base).2.2).mono ?_
 rintro e w5 ⟨rfl,hb⟩
 have HE5:=Lib.hid (HEC.out.step hb)
 refine .inl ⟨_,rfl,HE5.out,?_⟩
 clear hb HEC
 simp only[Znc,Znd,Zne,Act.put,Znf,Zng,Znh]
 iterate 2
  refine Zc _ rfl rfl (fun w' hS=>by skip;go_simp;first | rfl | (rw[if_pos (by omega)])) ?_
  simp only[Znc,Znd,Zne,Act.put,Znf,Zng,Znh]
 refine Zl 103 _ rfl rfl (by go_simp;rfl) ?_
 have HEC:=HE5
 refine(Z4 xg yg _).mono ?_
 rintro e w6 ⟨rfl,hb⟩
 have HE6:=Lib.hid (HEC.out.step hb)
 refine .inl ⟨_,rfl,HE6.out,?_⟩
 clear hb HEC
 simp only[Znc,Znd,Zne,Act.put,Znf,Zng,Znh]
 have HE7:=Lib.hid (HE6.out.only [1] _ rfl (by decide))
 have r0:=HE7.out.cell 0 0 rfl rfl
 have r1:=HE7.out.cell 0 1 rfl rfl
 have f0:=HE7.out.free 0 0 rfl
 have f1:=HE7.out.free 0 1 rfl
 refine Zn rfl rfl fun K hK=>?_
 go_simp
 have HE9:=Lib.hid (HE7.out.fill (.string xg) (.string yg))
 refine hK _ _ (.inl rfl) ?_
 clear hK K r0 r1 f0 f1 HE4 HE5 HE6 HE7
 refine Zq ?_
 go_wp2
 have q0:=HE9.out.cell 0 0 (v:=.string xg) rfl rfl
 have q1:=HE9.out.cell 0 1 (v:=.string yg) rfl rfl
 exact bodyPost_ret (v:=.agg #[.string xg,.string yg]) (by simp[results,Tryz.f78,go_sem,q0,q1]) rfl ⟨xg,yg,rfl,HXG.out,HE9.out.base,HE9.out.memo⟩
end Go.Proofs.YtmpaflidennnoaaGreatDoor
namespace Go.Proofs.YtmpaflidennnoaaGreatDoor
open Go.RowKit Go.Shelf
theorem Keeps.via {S S':Nat→Prop} {a w w':World} (h:Keeps S a w) (k:Keeps S' w w') (hs:∀ b,b<a.heap.size→S b→S' b):Keeps S a w':=
 ⟨k.os.trans h.os,k.tape.trans h.tape,k.output.trans h.output,Nat.le_trans h.size k.size,fun i hi hS=>(k.block i (Nat.lt_of_lt_of_le hi h.size) (hs i hi hS)).trans (h.block i hi hS)⟩
theorem Keeps.at {S:Nat→Prop} {w w':World} (h:Keeps S w w') {g:Nat} {o:Obj} (hg:w.heap[g]?=some o) (hs:S g):w'.heap[g]?=some o:=(h.block g (Array.getElem?_eq_some_iff.1 hg).1 hs).trans hg
abbrev flO (b:Bool):Obj:=.cells #[.bool b] 4
structure GreatI (Sx:Nat→Prop) (w:World) (P:Nat) (fO bO:Obj) (x y:ByteArray) (ok:Bool) (W:World):Prop where
 base:Keeps Sx w W
 b0:W.heap[P]?=some fO
 b1:W.heap[P+1]?=some bO
 b2:W.heap[P+1+1]?=some (pObj x y)
 b3:W.heap[P+1+1+1]?=some (flO ok)
theorem GreatI.keep {Sx S:Nat→Prop} {w W W':World} {P:Nat} {fO bO:Obj} {x y:ByteArray} {ok:Bool} (h:GreatI Sx w P fO bO x y ok W) (hP:P=w.heap.size) (hk:Keeps S W W') (h1:∀ b,b<P→Sx b→S b) (h2:S P∧S (P+1)∧S (P+1+1)∧S (P+1+1+1)):GreatI Sx w P fO bO x y ok W':=
 ⟨h.base.via hk fun b hb hs=>h1 b (by omega) hs,hk.at h.b0 h2.1,hk.at h.b1 h2.2.1,hk.at h.b2 h2.2.2.1,hk.at h.b3 h2.2.2.2⟩
def ZhU (Sx:Nat→Prop) (w:World) (P:Nat) (fO:Obj) (bO:Option Nat→Obj) (g:Nat→Rat) (J:Nat→World→Prop) (k:Nat) (W:World):Prop:=
 ∃ r m x y,Best g k r m∧IsP m x y∧GreatI Sx w P fO (bO r) x y r.isSome W∧J k W
def Zdk (Sx:Nat→Prop) (enc:Option Nat→Value) (g:Nat→Rat) (N:Nat) (J:Nat→World→Prop) (w:World) (e:Ending) (w':World):Prop:=
 ∃ r m x y,e=.returned (.tuple #[enc r,pV x y,.bool r.isSome])∧Best g N r m∧IsP m x y∧Keeps Sx w w'∧J N w'
end Go.Proofs.YtmpaflidennnoaaGreatDoor
namespace Go.Proofs.YtmpaflidennnoaaGreatDoor
open Go.RowKit Go.Shelf
attribute [local go_sem ↓] Go.wp_at_zero Go.wp_at_succ
attribute [local go_sem] Oper.semAt_some
abbrev spV (a b:Int):Value:=.agg #[.int .i64 a,.int .i64 b]
abbrev spO (a b:Int):Obj:=.cells #[.int .i64 a,.int .i64 b] 144
def ZhR (e:Nat→Int×Int):Option Nat→Value
 | none=>spV 0 0
 | some k=>spV (e k).1 (e k).2
def ZgC (e:Nat→Int×Int):Option Nat→Obj
 | none=>spO 0 0
 | some k=>spO (e k).1 (e k).2
def BoxS (e:Nat→Int×Int) (B:Nat) (a1:Nat→Nat→Act) (k:Nat) (a':Act) (W:World):Prop:=
 ∃ A,B≤A∧a'=a1 k A∧W.heap[A]?=some (spO (e k).1 (e k).2)
theorem Zht {e:Nat→Int×Int} {g:Nat→Rat} {N:Nat} {Sx:Nat→Prop} {J:Nat→World→Prop} {gf of:Nat} {lb caps:Array Value} {w:World}
  (hgf:∀ args w,(callFunc gf args).run Tryz.prog w=.ok (.enter gf args) w) (hof:∀ args w,(callFunc of args).run Tryz.prog w=.ok (.enter of args) w)
  (hup:∀ b,w.heap.size≤b→Sx b) (hJ:∀ k W1 W2,J k W1→Keeps (fun b=>b<w.heap.size) W1 W2→J k W2) (h0:J 0 w) (hz:∀ V,Keeps Sx w V→EffZ V)
  (hit:∀ V,Keeps Sx w V→Iter Tryz.prog gf lb (fun k=>#[spV (e k).1 (e k).2]) N (fun b=>b<w.heap.size∧Sx b) (fun _=>True) V)
  (hc:∀ k,k<N→∀ V,Keeps Sx w V→J k V→Calls Tryz.prog of (#[spV (e k).1 (e k).2]++caps) V (fun e' V'=>∃ x y,e'=.returned (pV x y)∧IsP (g k) x y∧Keeps Sx V V'∧J (k+1) V')) :
  Calls Tryz.prog 110 #[.func (.func gf) #[] lb,.func (.func of) #[] caps] w (Zdk Sx (ZhR e) g N J w):=by
 have HUP:=Lib.hid hup
 have HJ:=Lib.hid hJ
 have HIT:=Lib.hid hit
 have HC:=Lib.hid hc
 have HZ:=Lib.hid hz
 have HJ0:=Lib.hid h0
 have HGF:=Lib.hid hgf
 clear hup hJ hit hc hz h0 hgf
 obtain⟨w4,hw4⟩:∃ z,(((w.alloc (.cells #[.func (.func of) #[] caps] 150)).alloc (spO 0 0)).alloc (pObj ⟨#[]⟩ ⟨#[]⟩)).alloc (flO false)=z:=⟨_,rfl⟩
 obtain⟨P,hP⟩:∃ P,w.heap.size=P:=⟨_,rfl⟩
 have HX:Zk P [.cells #[.func (.func of) #[] caps] 150,spO 0 0,pObj ⟨#[]⟩ ⟨#[]⟩,flO false] w4:=by rw[← hw4,← hP];exact Zk.four w _ _ _ _
 have hk4:Keeps Sx w w4:=by rw[← hw4];exact((((Keeps.refl Sx w).alloc _).alloc _).alloc _).alloc _
 have HK5:Hid (∀ V:World,Keeps (fun b=>b<w.heap.size) w V→J 0 V):=fun V hV=>HJ.out _ _ _ HJ0.out hV
 have hs4:w4.heap.size=P+4:=by rw[← hw4,← hP];simp
 have z:=HZ.out _ hk4
 have z0:=z.z0
 have z1:=z.z1
 have c0:=HX.cell 2 0 (b:=P+1+1) (v:=.string ⟨#[]⟩) rfl rfl rfl
 have c1:=HX.cell 2 1 (b:=P+1+1) (v:=.string ⟨#[]⟩) rfl rfl rfl
 have f0:=HX.free 2 0 (b:=P+1+1) rfl rfl
 have f1:=HX.free 2 1 (b:=P+1+1) rfl rfl
 have HPP:=Lib.hid hP
 clear z
 refine ZbO Tryz.func110 rfl ?_
 simp only[Tryz.ntmps110,List.size_toArray,List.length_cons,List.length_nil,Nat.reduceAdd,Nat.reduceSub,Array.replicate_succ,Array.replicate_zero,List.push_toArray,List.append_toArray,List.nil_append,List.cons_append]
 go_wp2_with fail
 obtain⟨w5,hw5⟩:∃ z,(w4.setCell ⟨P+1+1,0,none⟩ (.string ⟨#[48]⟩)).setCell ⟨P+1+1,1,none⟩ (.string ⟨#[49]⟩)=z:=⟨_,rfl⟩
 have o5:∀ k,k≠P+1+1→w5.heap[k]?=w4.heap[k]?:=fun k hk=>by rw[← hw5];exact(Below.heap_setCell _ _ _ _ hk).trans (Below.heap_setCell _ _ _ _ hk)
 have hk5:Keeps Sx w w5:=by
  refine hk4.via (S':=fun b=>b≠P+1+1) ?_ fun b hb _=>by show b≠P+1+1;omega
  rw[← hw5]
  exact((Keeps.refl _ w4).setCell (by simp) _).setCell (by simp) _
 have HG5:Hid (GreatI Sx w P (.cells #[.func (.func of) #[] caps] 150) (spO 0 0) ⟨#[48]⟩ ⟨#[49]⟩ false w5):=
  ⟨hk5,(o5 P (by omega)).trans (HX.block 0 rfl rfl),(o5 _ (by omega)).trans (HX.block 1 rfl rfl),by rw[← hw5];exact ZM (HX.block 2 (b:=P+1+1) rfl rfl) _ _,(o5 _ (by omega)).trans (HX.block 3 (b:=P+1+1+1) rfl rfl)⟩
 have hkB:Keeps (fun b=>b<w.heap.size) w w5:=by
  rw[← hw5,← hw4]
  exact((((((Keeps.refl _ w).alloc _).alloc _).alloc _).alloc _).setCell (by show ¬ P+1+1<w.heap.size;omega) _).setCell (by show ¬ P+1+1<w.heap.size;omega) _
 have hD:w5.heap.size=P+4:=by rw[← hw5];simp[hs4]
 rw[hw5]
 clear hw5 o5 z0 z1 c0 c1 f0 f1 HX hk4 hs4 hw4
 refine(wpIn_wide (n:=9)).1 ?_
 refine ZcT (P+4) hD (gf:=gf) (lb:=lb) (f:=fun k=>#[spV (e k).1 (e k).2]) (N:=N) (S:=fun x=>x<P∧Sx x) (T:=fun _=>True)
  rfl HGF.out (fun _=>rfl) ?iter (fun _ h=>by omega) ⟨trivial,trivial⟩
  (ZhU Sx w P (.cells #[.func (.func of) #[] caps] 150) (ZgC e) g J) (fun _ _ _=>False) ?ci ?cx ?start
  (BoxS e (P+6) ?a1) ?cb ?assign ?body ?done ?stop
 case iter=>
  have:=HIT.out _ hk5
  rwa [hP] at this
 case ci=>
  rintro k W1 W2 ⟨r,m,x,y,h1,h2,h3,h4⟩ hk
  exact⟨r,m,x,y,h1,h2,h3.keep hP.symm hk (fun b hb _=>⟨trivial,by omega,by omega⟩) ⟨⟨trivial,by omega,by omega⟩,⟨trivial,by omega,by omega⟩,⟨trivial,by omega,by omega⟩,⟨trivial,by omega,by omega⟩⟩,
   HJ.out _ _ _ h4 (hk.mono fun b _ hb=>⟨trivial,by omega,by omega⟩)⟩
 case cx=>exact fun _ _ _ _ h _=>h
 case start=>
  exact⟨none,0,_,_,Best.zero g,ZP,HG5.out,HK5.out _ hkB⟩
 case cb=>
  rintro k a' W1 W2 ⟨A,h1,h2,h3⟩ hk
  exact⟨A,h1,h2,hk.at h3 ⟨by omega,by omega⟩⟩
 case assign=>
  intro l k W hk hW
  gi_wp2
  have h1:(W.alloc (spO (e k).1 (e k).2)).heap[W.heap.size]?=some (spO (e k).1 (e k).2):=World.alloc_heap_new W _
  have hkk:Keeps (fun _=>True) W (W.alloc (spO (e k).1 (e k).2)):=(Keeps.refl _ W).alloc _
  obtain⟨V,hV⟩:∃ V,W.alloc (spO (e k).1 (e k).2)=V:=⟨_,rfl⟩
  rw[hV] at h1 hkk
  obtain⟨A,hA⟩:∃ A,W.heap.size=A:=⟨_,rfl⟩
  rw[hA] at h1
  simp only[hV,hA]
  refine⟨hkk,A,by omega,?_,h1⟩
  clear hkk h1 hV hA hW
  exact rfl
 case body=>
  have hfn:∀ k,Fence.wide.fn k:=fun _=>trivial
  rintro l k a' W hk ⟨r,m,x,y,hB,hI,hG,hJk⟩ ⟨A,hA,rfl,hA0⟩ hW
  have hcall:=HC.out k hk W hG.base hJk
  obtain⟨⟨s,t⟩,hst⟩:∃ z,e k=z:=⟨_,rfl⟩
  have HST:=Lib.hid hst
  rw[hst] at hA0 hcall
  dsimp only at hA0 hcall
  try rw[hst]
  try dsimp only
  have HB:=Lib.hid hB
  have HI:=Lib.hid hI
  have HG:=Lib.hid hG
  have HCL:=Lib.hid hcall
  have HA0:=Lib.hid hA0
  have a0:W.cell? ⟨A,0,none⟩=some (.int .i64 s):=Za hA0 0 rfl
  have a1:W.cell? ⟨A,1,none⟩=some (.int .i64 t):=Za hA0 1 rfl
  have p0:W.cell? ⟨P,0,none⟩=some (.func (.func of) #[] caps):=Za hG.b0 0 rfl
  clear hB hI hG hJk hcall hA0 hst
  gi_wp2_with fail
  refine(CallsIn.inRound l (callsIn_wide.2 HCL.out)).mono ?_
  rintro e' V ⟨x2,y2,rfl,hx2,hkV,hJV⟩
  have HX2:=Lib.hid hx2
  have HJV:=Lib.hid hJV
  have HKV:=Lib.hid hkV
  have HGV:=Lib.hid (HG.out.keep hP.symm hkV (fun b _ hs=>hs) ⟨HUP.out _ (by omega),HUP.out _ (by omega),HUP.out _ (by omega),HUP.out _ (by omega)⟩)
  have HAV:=Lib.hid (hkV.at HA0.out (HUP.out _ (by omega)))
  clear hx2 hJV hkV a0 a1 p0
  have c0:(V.alloc (pObj x2 y2)).cell? ⟨V.heap.size,0,none⟩=some (.string x2):=ZC _ _ _ 0 rfl
  have c1:(V.alloc (pObj x2 y2)).cell? ⟨V.heap.size,1,none⟩=some (.string y2):=ZC _ _ _ 1 rfl
  have HG1:Hid (GreatI Sx w P (.cells #[.func (.func of) #[] caps] 150) (ZgC e r) x y r.isSome (V.alloc (pObj x2 y2))):=HGV.out.keep (S:=fun _=>True) hP.symm ((Keeps.refl _ V).alloc _) (fun _ _ _=>trivial) ⟨trivial,trivial,trivial,trivial⟩
  have d0:=Za HG1.out.b2 0 (v:=.string x) rfl
  have d1:=Za HG1.out.b2 1 (v:=.string y) rfl
  obtain⟨n,hn⟩:∃ n,sgnR (g k) m=n:=⟨_,rfl⟩
  gi_wp2_with fail
  refine(CallsIn.inRound l (callsIn_wide.2 (ZaU HX2.out HI.out hn _))).mono ?_
  rintro e' V2 ⟨rfl,hb⟩
  obtain⟨g8,hg8⟩:∃ g,V.heap.size=g:=⟨_,rfl⟩
  have h8:V2.heap[g8]?=some (pObj x2 y2):=by
   rw[← hg8]
   exact(hb.block _ (by simp)).trans (World.alloc_heap_new V _)
  have hkA:Keeps Sx V (V.alloc (pObj x2 y2)):=(Keeps.refl _ V).alloc _
  have hkJ:Keeps (fun b=>b<w.heap.size) V V2:=((Keeps.refl _ V).alloc _).trans (hb.keepsS _)
  have HK2:=Lib.hid (HKV.out.trans (hkA.trans (hb.keepsS Sx)))
  have HA2:=Lib.hid ((hkA.trans (hb.keepsS Sx)).at HAV.out (HUP.out _ (by omega)))
  have HG2:=Lib.hid (HG1.out.keep hP.symm (hb.keepsS (fun _=>True)) (fun _ _ _=>trivial) ⟨trivial,trivial,trivial,trivial⟩)
  have HJ2:=Lib.hid (HJ.out _ _ _ HJV.out hkJ)
  have H8:=Lib.hid h8
  have HRE:Hid (∀ b,((b<P∧Sx b)∨b=P+4∨b=P+4+1)→Sx b):=fun b hs=>by
   rcases hs with ⟨_,h⟩ | h | h
   ·exact h
   ·exact HUP.out _ (by omega)
   ·exact HUP.out _ (by omega)
  have hPg:P+6≤g8:=by
   rw[← hg8]
   exact Nat.le_trans hW HKV.out.size
  clear c0 c1 d0 d1 hb hkA hkJ h8 HG1 HGV HAV HJV
  by_cases hlt:m<g k
  ·have hge:(0:Int)<n:=by rw[← hn];exact Zcu (Rat.not_le.2 hlt)
   have HBU:=Lib.hid (HB.out.up hlt)
   clear hn hlt
   gi_wp2
   obtain⟨sa,sb,hab⟩:∃ a b,ZgC e r=spO a b:=by cases r<;>exact⟨_,_,rfl⟩
   refine Zab [(true,0),(true,1),(false,2),(false,3),(false,4)] (fun W'=>W'.heap[A]?=some (spO s t)∧W'.heap[g8]?=some (pObj x2 y2)) (fun _=>false)
    (by kernel_rfl) (by kernel_rfl) (fun _ _=>rfl) (fun _ _ o _ _ h=>by cases o<;>exact h) (fun _ _ h=>h) ⟨HA2.out,H8.out⟩ ?_
   have b1:V2.drew.heap[P+1]?=some (spO sa sb):=by rw[← hab];exact HG2.out.b1
   have b2:V2.drew.heap[P+1+1]?=some (pObj x y):=HG2.out.b2
   have b3:V2.drew.heap[P+1+1+1]?=some (flO r.isSome):=HG2.out.b3
   have b0:V2.drew.heap[P]?=some (.cells #[.func (.func of) #[] caps] 150):=HG2.out.b0
   have bA:V2.drew.heap[A]?=some (spO s t):=HA2.out
   have b8:V2.drew.heap[g8]?=some (pObj x2 y2):=H8.out
   have HKD:Hid (Keeps Sx W V2.drew):=HK2.out.drew
   have HKW:Hid (Keeps Sx w V2.drew):=HG2.out.base.drew
   have HJD:Hid (J (k+1) V2.drew):=HJ.out _ _ _ HJ2.out (Keeps.refl _ V2).drew
   obtain⟨V3,hV3⟩:∃ z,V2.drew=z:=⟨_,rfl⟩
   rw[hV3] at b0 b1 b2 b3 bA b8 HKD HKW HJD ⊢
   clear hV3 HK2 HG2 HJ2 hab
   iterate 2
    refine Zi _ rfl rfl (fun w' hS=>by obtain⟨h1,h2⟩:=hS;have a0:=Za h1 0 (v:=.int .i64 s) rfl;have a1:=Za h1 1 (v:=.int .i64 t) rfl;have e0:=Za h2 0 (v:=.string x2) rfl;have e1:=Za h2 1 (v:=.string y2) rfl;go_simp;rfl) ?_
    simp only[Znc,Znd,Zne,Act.put,Znf,Zng,Znh]
   have c0:=Za b1 0 (v:=.int .i64 sa) rfl
   have c1:=Za b1 1 (v:=.int .i64 sb) rfl
   have f0:=Zb b1 0
   have f1:=Zb b1 1
   refine Ze rfl rfl fun K hK=>?_
   go_simp
   obtain⟨V4,hV4⟩:∃ z,(V3.setCell ⟨P+1,0,none⟩ (.int .i64 s)).setCell ⟨P+1,1,none⟩ (.int .i64 t)=z:=⟨_,rfl⟩
   have o4:∀ j,j≠P+1→V4.heap[j]?=V3.heap[j]?:=fun j hj=>by rw[← hV4];exact(Below.heap_setCell _ _ _ _ hj).trans (Below.heap_setCell _ _ _ _ hj)
   have d1:V4.heap[P+1]?=some (spO s t):=by rw[← hV4];exact ZM b1 _ _
   have k4:Keeps (fun b=>b≠P+1) V3 V4:=by rw[← hV4];exact((Keeps.refl _ V3).setCell (by simp) _).setCell (by simp) _
   rw[hV4]
   refine hK _ _ (.inr ⟨(o4 _ (by omega)).trans bA,(o4 _ (by omega)).trans b8⟩) ?_
   clear hK K hV4 c0 c1 f0 f1 b1
   have b0:=(o4 _ (by omega)).trans b0
   have b2:=(o4 _ (by omega)).trans b2
   have b3:=(o4 _ (by omega)).trans b3
   have bA:=(o4 _ (by omega)).trans bA
   have b8:=(o4 _ (by omega)).trans b8
   have c0:=Za b2 0 (v:=.string x) rfl
   have c1:=Za b2 1 (v:=.string y) rfl
   have f0:=Zb b2 0
   have f1:=Zb b2 1
   refine Ze rfl rfl fun K hK=>?_
   go_simp
   obtain⟨V5,hV5⟩:∃ z,(V4.setCell ⟨P+1+1,0,none⟩ (.string x2)).setCell ⟨P+1+1,1,none⟩ (.string y2)=z:=⟨_,rfl⟩
   have o5:∀ j,j≠P+1+1→V5.heap[j]?=V4.heap[j]?:=fun j hj=>by rw[← hV5];exact(Below.heap_setCell _ _ _ _ hj).trans (Below.heap_setCell _ _ _ _ hj)
   have d2:V5.heap[P+1+1]?=some (pObj x2 y2):=by rw[← hV5];exact ZM b2 _ _
   have k5:Keeps (fun b=>b≠P+1+1) V4 V5:=by rw[← hV5];exact((Keeps.refl _ V4).setCell (by simp) _).setCell (by simp) _
   rw[hV5]
   refine hK _ _ (.inr ⟨(o5 _ (by omega)).trans bA,(o5 _ (by omega)).trans b8⟩) ?_
   clear hK K hV5 c0 c1 f0 f1 b2
   have b0:=(o5 _ (by omega)).trans b0
   have d1:=(o5 _ (by omega)).trans d1
   have b3:=(o5 _ (by omega)).trans b3
   have bA:=(o5 _ (by omega)).trans bA
   have b8:=(o5 _ (by omega)).trans b8
   have c0:=Za b3 0 (v:=.bool r.isSome) rfl
   have f0:=Zb b3 0
   refine Ze rfl rfl fun K hK=>?_
   go_simp
   obtain⟨V6,hV6⟩:∃ z,V5.setCell ⟨P+1+1+1,0,none⟩ (.bool true)=z:=⟨_,rfl⟩
   have o6:∀ j,j≠P+1+1+1→V6.heap[j]?=V5.heap[j]?:=fun j hj=>by rw[← hV6];exact Below.heap_setCell _ _ _ _ hj
   have d3:V6.heap[P+1+1+1]?=some (flO true):=by rw[← hV6];exact Joins.block_setCell b3 _
   have k6:Keeps (fun b=>b≠P+1+1+1) V5 V6:=by rw[← hV6];exact(Keeps.refl _ V5).setCell (by simp) _
   rw[hV6]
   refine hK _ _ (.inr ⟨(o6 _ (by omega)).trans bA,(o6 _ (by omega)).trans b8⟩) ?_
   clear hK K hV6 c0 f0 b3
   have HKK:Hid (∀ (S:Nat→Prop),¬ S (P+1)→¬ S (P+1+1)→¬ S (P+1+1+1)→Keeps S V3 V6):=fun S h1 h2 h3=>
    (((k4.mono fun b _ hb e=>h1 (e ▸ hb)).trans (k5.mono fun b _ hb e=>h2 (e ▸ hb))).trans (k6.mono fun b _ hb e=>h3 (e ▸ hb)))
   have HG6:Hid (GreatI Sx w P (.cells #[.func (.func of) #[] caps] 150) (ZgC e (some k)) x2 y2 true V6):=
    ⟨HKW.out.via (HKK.out (fun b=>b<P) (by omega) (by omega) (by omega)) (fun b hb _=>by omega),(o6 _ (by omega)).trans b0,by show V6.heap[P+1]?=some (spO (e k).1 (e k).2);rw[HST.out];exact(o6 _ (by omega)).trans d1,(o6 _ (by omega)).trans d2,d3⟩
   have HJ6:Hid (J (k+1) V6):=HJ.out _ _ _ HJD.out (HKK.out _ (by omega) (by omega) (by omega))
   have HKE:Hid (Keeps (fun b=>(b<P∧Sx b)∨b=P+4∨b=P+4+1) W V6):=(HKD.out.mono fun b _ hs=>HRE.out b hs).trans (HKK.out _ (by omega) (by omega) (by omega))
   clear o4 o5 o6 k4 k5 k6 d1 d2 d3 b0 bA b8
   refine Zt ?_
   gi_wp2
   exact⟨HKE.out,some k,g k,x2,y2,HBU.out,HX2.out,HG6.out,HJ6.out⟩
  ·have hge:¬ (0:Int)<n:=by rw[← hn];exact Zct (Rat.not_lt.1 hlt)
   have HBU:=Lib.hid (HB.out.keep (Rat.not_lt.1 hlt))
   clear hn hlt
   gi_wp2
   exact⟨HK2.out.mono fun b _ hs=>HRE.out b hs,r,m,x,y,HBU.out,HI.out,HG2.out,HJ2.out⟩
 case done=>
  rintro W ⟨r,m,x,y,hB,hI,hG,hJk⟩ hdef
  obtain⟨sa,sb,hab,hae⟩:∃ a b,ZgC e r=spO a b∧ZhR e r=spV a b:=by cases r<;>exact⟨_,_,rfl,rfl⟩
  obtain⟨ok,hok⟩:∃ z,r.isSome=z:=⟨_,rfl⟩
  rw[hab,hok] at hG
  have HB:=Lib.hid hB
  have HI:=Lib.hid hI
  have HJN:=Lib.hid hJk
  have HAE:=Lib.hid hae
  have HOK:=Lib.hid hok
  clear hB hI hJk hab hae hok
  go_wp2
  refine ZQ [(true,0),(true,1),(true,2),(false,3),(false,4),(false,5)] (fun W'=>W'.heap[P+1]?=some (spO sa sb)∧W'.heap[P+1+1]?=some (pObj x y)∧W'.heap[P+1+1+1]?=some (flO ok)) (fun _=>false)
   (by kernel_rfl) (by kernel_rfl) (fun _ _=>rfl) (fun _ _ o _ _ h=>by cases o<;>exact h) ⟨hG.b1,hG.b2,hG.b3⟩ ?_
  have b1:W.drew.heap[P+1]?=some (spO sa sb):=hG.b1
  have b2:W.drew.heap[P+1+1]?=some (pObj x y):=hG.b2
  have b3:W.drew.heap[P+1+1+1]?=some (flO ok):=hG.b3
  have bd:W.drew.heap[P+4]?=some (.deferred (some [])):=hdef
  have HKW:Hid (Keeps Sx w W.drew):=hG.base.drew
  have HJD:Hid (J N W.drew):=HJ.out _ _ _ HJN.out (Keeps.refl _ W).drew
  obtain⟨V3,hV3⟩:∃ z,W.drew=z:=⟨_,rfl⟩
  rw[hV3] at b1 b2 b3 bd HKW HJD ⊢
  clear hV3 hG hdef HJN
  iterate 3
   refine Zi _ rfl rfl (fun w' hS=>by obtain⟨h1,h2,h3⟩:=hS;have a0:=Za h1 0 (v:=.int .i64 sa) rfl;have a1:=Za h1 1 (v:=.int .i64 sb) rfl;have e0:=Za h2 0 (v:=.string x) rfl;have e1:=Za h2 1 (v:=.string y) rfl;have e2:=Za h3 0 (v:=.bool ok) rfl;go_simp;rfl) ?_
   simp only[Znc,Znd,Zne,Act.put,Znf,Zng,Znh]
  have c0:=Za b1 0 (v:=.int .i64 sa) rfl
  have c1:=Za b1 1 (v:=.int .i64 sb) rfl
  have f0:=Zb b1 0
  have f1:=Zb b1 1
  refine Ze rfl rfl fun K hK=>?_
  go_simp
  obtain⟨V4,hV4⟩:∃ z,(V3.setCell ⟨P+1,0,none⟩ (.int .i64 sa)).setCell ⟨P+1,1,none⟩ (.int .i64 sb)=z:=⟨_,rfl⟩
  have o4:∀ j,j≠P+1→V4.heap[j]?=V3.heap[j]?:=fun j hj=>by rw[← hV4];exact(Below.heap_setCell _ _ _ _ hj).trans (Below.heap_setCell _ _ _ _ hj)
  have d1:V4.heap[P+1]?=some (spO sa sb):=by rw[← hV4];exact ZM b1 _ _
  have k4:Keeps (fun b=>b≠P+1) V3 V4:=by rw[← hV4];exact((Keeps.refl _ V3).setCell (by simp) _).setCell (by simp) _
  rw[hV4]
  have b2:=(o4 _ (by omega)).trans b2
  have b3:=(o4 _ (by omega)).trans b3
  refine hK _ _ (.inr ⟨d1,b2,b3⟩) ?_
  clear hK K hV4 c0 c1 f0 f1 b1
  have bd:=(o4 _ (by omega)).trans bd
  have c0:=Za b2 0 (v:=.string x) rfl
  have c1:=Za b2 1 (v:=.string y) rfl
  have f0:=Zb b2 0
  have f1:=Zb b2 1
  refine Ze rfl rfl fun K hK=>?_
  go_simp
  obtain⟨V5,hV5⟩:∃ z,(V4.setCell ⟨P+1+1,0,none⟩ (.string x)).setCell ⟨P+1+1,1,none⟩ (.string y)=z:=⟨_,rfl⟩
  have o5:∀ j,j≠P+1+1→V5.heap[j]?=V4.heap[j]?:=fun j hj=>by rw[← hV5];exact(Below.heap_setCell _ _ _ _ hj).trans (Below.heap_setCell _ _ _ _ hj)
  have d2:V5.heap[P+1+1]?=some (pObj x y):=by rw[← hV5];exact ZM b2 _ _
  have k5:Keeps (fun b=>b≠P+1+1) V4 V5:=by rw[← hV5];exact((Keeps.refl _ V4).setCell (by simp) _).setCell (by simp) _
  rw[hV5]
  have d1:=(o5 _ (by omega)).trans d1
  have b3:=(o5 _ (by omega)).trans b3
  refine hK _ _ (.inr ⟨d1,d2,b3⟩) ?_
  clear hK K hV5 c0 c1 f0 f1 b2
  have bd:=(o5 _ (by omega)).trans bd
  have c0:=Za b3 0 (v:=.bool ok) rfl
  have f0:=Zb b3 0
  refine Ze rfl rfl fun K hK=>?_
  go_simp
  obtain⟨V6,hV6⟩:∃ z,V5.setCell ⟨P+1+1+1,0,none⟩ (.bool ok)=z:=⟨_,rfl⟩
  have o6:∀ j,j≠P+1+1+1→V6.heap[j]?=V5.heap[j]?:=fun j hj=>by rw[← hV6];exact Below.heap_setCell _ _ _ _ hj
  have d3:V6.heap[P+1+1+1]?=some (flO ok):=by rw[← hV6];exact Joins.block_setCell b3 _
  have k6:Keeps (fun b=>b≠P+1+1+1) V5 V6:=by rw[← hV6];exact(Keeps.refl _ V5).setCell (by simp) _
  rw[hV6]
  have d1:=(o6 _ (by omega)).trans d1
  have d2:=(o6 _ (by omega)).trans d2
  refine hK _ _ (.inr ⟨d1,d2,d3⟩) ?_
  clear hK K hV6 c0 f0 b3
  have bd:=(o6 _ (by omega)).trans bd
  have k9:Keeps (fun b=>b<P) V3 (V6.putObj (P+4) (.deferred none)):=
   (((k4.mono fun b _ (hb:b<P)=>(by omega)).trans (k5.mono fun b _ (hb:b<P)=>(by omega))).trans (k6.mono fun b _ (hb:b<P)=>(by omega))).putObj (by show ¬ P+4<P;omega) _
  have HKE:Hid (Keeps Sx w (V6.putObj (P+4) (.deferred none))):=HKW.out.via k9 fun b hb _=>by omega
  have HJE:Hid (J N (V6.putObj (P+4) (.deferred none))):=HJ.out _ _ _ HJD.out (by rw[HPP.out];exact k9)
  have k4':∀ {g:Nat} {o:Obj},g≠P+4→V6.heap[g]?=some o→(V6.putObj (P+4) (.deferred none)).heap[g]?=some o:=fun hg h=>(World.putObj_heap_other hg).trans h
  have g1:=k4' (by omega) d1
  have g2:=k4' (by omega) d2
  have g3:=k4' (by omega) d3
  clear o4 o5 o6 k4 k5 k6 k9 d1 d2 d3 k4'
  refine Zt ?_
  go_wp2
  unfold Calm bodyPostM
  refine⟨by simp,.inl ⟨_,_,rfl,run_takeDeferred bd,?_⟩⟩
  have c0:=Za g1 0 (v:=.int .i64 sa) rfl
  have c1:=Za g1 1 (v:=.int .i64 sb) rfl
  have d0:=Za g2 0 (v:=.string x) rfl
  have d1:=Za g2 1 (v:=.string y) rfl
  have f0:=Za g3 0 (v:=.bool ok) rfl
  refine⟨.tuple #[spV sa sb,pV x y,.bool ok],?_,r,m,x,y,by rw[HAE.out,HOK.out],HB.out,HI.out,HKE.out,HJE.out⟩
  simp[results,Tryz.f110,go_sem,c0,c1,d0,d1,f0]
 case stop=>exact fun _ _ _ _ h _=>h.elim
end Go.Proofs.YtmpaflidennnoaaGreatDoor
