/- The parts EffBd, EffOne, LawEOne, LawEOneLift of a proof, put together by program (merge7.py). -/
import Derived.Test.YtmpaflidennnoaaGreatDoorH30
import Derived.Test.YtmpaflidennnoaaGreatDoorH11
import Derived.Test.YtmpaflidennnoaaGreatDoorH24
import Derived.Test.YtmpaflidennnoaaGreatDoorH32
import Derived.Test.YtmpaflidennnoaaGreatDoorH31
set_option maxRecDepth 100000
set_option maxHeartbeats 8000000
set_option linter.unusedVariables false
set_option linter.unusedSimpArgs false
namespace Go.Proofs.YtmpaflidennnoaaGreatDoor
open Go.RowKit Go.Shelf
theorem LeastQ.ex (q:Nat→Rat) (ok:Nat→Prop):∀ n,∃ r,LeastQ q ok n r
 | 0=>⟨none,LeastQ.zero q ok⟩
 | n+1=>by
  obtain⟨r,h⟩:=LeastQ.ex q ok n
  by_cases hk:ok n
  ·cases r with
   | none=>exact⟨_,h.take hk (fun c hc=>by cases hc)⟩
   | some c=>
    by_cases hl:q n<c
    ·exact⟨_,h.take hk (fun d hd=>by obtain rfl:=Option.some.inj hd;exact hl)⟩
    ·exact⟨_,h.keep (Rat.not_lt.1 hl)⟩
  ·exact⟨_,h.skip hk⟩
theorem Best.ex (g:Nat→Rat):∀ n,∃ r m,Best g n r m
 | 0=>⟨none,0,Best.zero g⟩
 | n+1=>by
  obtain⟨r,m,h⟩:=Best.ex g n
  by_cases hl:m<g n
  ·exact⟨_,_,h.up hl⟩
  ·exact⟨_,_,h.keep (Rat.not_lt.1 hl)⟩
theorem SurR.ex (t:TaskP) (qs:List PP) (i:Nat):∃ s,SurR t qs i s:=by
 obtain⟨r,h⟩:=LeastQ.ex (fun u=>prR qs u/rR t u i) (fun u=>rR t u i≠0) t.hours.length
 cases r with
 | none=>exact⟨0,none,h,.inl ⟨rfl,rfl⟩⟩
 | some c=>
  obtain⟨b,m,hb⟩:=Best.ex (fun k=>posR (wR t i*hR (eS t i).curve k-c*cR (eS t i).curve k)) (eS t i).curve.length
  exact⟨m,some c,h,.inr ⟨c,rfl,b,hb⟩⟩
noncomputable def oneF (t:TaskP) (i k:Nat):Rat:=wR t i*chF (eS t i).curve (rR t 0 i*((k:Nat):Rat))
theorem Zgq {t:TaskP} {p:List (List Int)} (h:p.length=1) (i:Nat):covR t p i=rR t 0 i*((pN p 0 i:Int):Rat):=by
 unfold covR
 rw[h]
 show 0+rR t 0 i*((pN p 0 i:Int):Rat)=_
 rw[Rat.zero_add]
theorem Zcw {n:Int} (h:0≤n):((n.toNat:Nat):Rat)=((n:Int):Rat):=by
 obtain⟨k,rfl⟩:=Int.eq_ofNat_of_zero_le h
 rfl
theorem Zjg {t:TaskP} {p:List (List Int)} (h:p.length=1) {i:Nat} (h0:0≤pN p 0 i):valF t p i=oneF t i (pN p 0 i).toNat:=by
 unfold valF oneF
 rw[Zgq h,Zcw h0]
theorem Zfj {t:TaskP} {p:List (List Int)} (h:p.length=1) {i:Nat} (h0:0≤pN p 0 i):Z0 t p 0 i=marg (oneF t) i (pN p 0 i).toNat:=by
 unfold Z0 marg oneF
 have e:rR t 0 i*(((pN p 0 i).toNat+1:Nat):Rat)=covR t p i+rR t 0 i:=by
  rw[Zgq h,← Zcw h0,Rat.natCast_add]
  have:((1:Nat):Rat)=1:=rfl
  rw[this]
  grind
 rw[e,Zcw h0,← Zgq h]
 grind
section
variable {t:TaskP} (ok:TaskOk t) (h1:t.hours.length=1)
include ok h1
theorem Zfi {i:Nat} (hi:i<t.sites.length) (k:Nat):marg (oneF t) i (k+1)≤marg (oneF t) i k∧0≤marg (oneF t) i k:=by
 have hC:=(ok.site i hi).2
 have hr:0≤rR t 0 i:=(Zdo ok (by rw[ok.rates];omega) hi).1.nn
 have hw:0≤wR t i:=(ZcK ok hi).1.nn
 have e1:((1:Nat):Rat)=1:=rfl
 have e2:((k+1:Nat):Rat)=((k:Nat):Rat)+1:=by rw[Rat.natCast_add,e1]
 have e3:((k+1+1:Nat):Rat)=((k:Nat):Rat)+1+1:=by rw[Rat.natCast_add,e2,e1]
 have m1:=Zr.mid hC.conc' (ZbK hC (rR t 0 i*((k:Nat):Rat))) (ZbK hC (rR t 0 i*((k+1+1:Nat):Rat))) (m:=rR t 0 i*((k+1:Nat):Rat)) (by rw[e2,e3];grind) (ZbK hC _)
 have m2:=ZhR hC (a:=rR t 0 i*((k:Nat):Rat)) (b:=rR t 0 i*((k+1:Nat):Rat)) (by rw[e2];grind)
 unfold marg oneF
 constructor
 ·have:=Rat.mul_le_mul_of_nonneg_left m1 hw
  grind
 ·have:=Rat.mul_le_mul_of_nonneg_left m2 hw
  grind
theorem Zid {i:Nat} (hi:i<t.sites.length) {k:Nat} : ∀ d,marg (oneF t) i (k+d)≤marg (oneF t) i k
 | 0=>Rat.le_refl
 | d+1=>Rat.le_trans (Zfi ok h1 hi (k+d)).1 (Zid hi d)
theorem Zl0 {p q:List (List Int)} (hG:GreedyR t p q) (okp:PlanOk t p) (hI:GInv (oneF t) t.sites.length (fun i=>(pN p 0 i).toNat)) :
  PlanOk t q∧GInv (oneF t) t.sites.length (fun i=>(pN q 0 i).toNat)∧∃ m,Best (Zao t q) (t.hours.length*t.sites.length) none m:=by
 induction hG with
 | done h=>exact⟨okp,hI,_,h⟩
 | @step p q j m h hq ih=>
  have hl:p.length=1:=by rw[okp.teams];exact h1
  obtain⟨hj,hm,h0,hle,_⟩:=h.yes j rfl
  rw[h1,Nat.one_mul] at hj hle
  have hd:j/t.sites.length=0:=Nat.div_eq_of_lt hj
  have hmd:j % t.sites.length=j:=Nat.mod_eq_of_lt hj
  have hgj:∀ k,k<t.sites.length→Zao t p k=if 0<Z7 t p 0 then Z0 t p 0 k else 0:=fun k hk=>by
   unfold Zao
   rw[Nat.div_eq_of_lt hk,Nat.mod_eq_of_lt hk]
  have hf:0<Z7 t p 0:=by
   refine Classical.byContradiction fun hn=>?_
   rw[hgj j hj,if_neg hn] at hm
   rw[hm] at h0
   exact absurd h0 Rat.lt_irrefl
  rw[hd,hmd] at hq ih
  have hgr:0<Z0 t p 0 j:=by
   rw[hm,hgj j hj,if_pos hf] at h0
   exact h0
  have hn:∀ i,i<t.sites.length→0≤pN p 0 i:=fun i hi=>(okp.hour 0 i (by rw[hl];omega) hi).1.1
  have hrow:j<p[0].length:=by rw[okp.row 0 (by rw[hl];omega)];exact hj
  refine ih (okp.bump (by rw[hl];omega) hj hf (ZgL hgr)) ?_
  have h9:=GInv.step (fun i k hi=>(Zfi ok h1 hi k).1) hI hj (fun k hk=>by
   have:=hle k hk
   rw[hgj k hk,hgj j hj,if_pos hf,if_pos hf,Zfj hl (hn k hk),Zfj hl (hn j hj)] at this
   exact this)
  have e:∀ i,(pN (bump p 0 j 1) 0 i).toNat=if i=j then (pN p 0 i).toNat+1 else (pN p 0 i).toNat:=fun i=>by
   by_cases e:i=j
   ·subst e
    rw[if_pos rfl,Zcu (by rw[hl];omega) hrow]
    have:=hn i hj
    omega
   ·rw[if_neg e,ZaQ (.inr e)]
  rw[show (fun i=>(pN (bump p 0 j 1) 0 i).toNat)=fun i=>if i=j then (pN p 0 i).toNat+1 else (pN p 0 i).toNat from funext e]
  exact h9
theorem ZlL {p q:List (List Int)} (hG:GreedyR t (Zz t) p) (okq:PlanOk t q):sumF (valF t q) t.sites.length≤sumF (valF t p) t.sites.length:=by
 have hz:GInv (oneF t) t.sites.length (fun i=>(pN (Zz t) 0 i).toNat):=by
  rw[show (fun i=>(pN (Zz t) 0 i).toNat)=fun _=>0 from funext fun i=>by rw[Zgw];rfl]
  exact GInv.zero _ _
 obtain⟨okp,hI,m,hB⟩:=Zl0 ok h1 hG (Zfb ok) hz
 have hlp:p.length=1:=by rw[okp.teams];exact h1
 have hlq:q.length=1:=by rw[okq.teams];exact h1
 have hnp:∀ i,i<t.sites.length→0≤pN p 0 i:=fun i hi=>(okp.hour 0 i (by rw[hlp];omega) hi).1.1
 have hnq:∀ i,i<t.sites.length→0≤pN q 0 i:=fun i hi=>(okq.hour 0 i (by rw[hlq];omega) hi).1.1
 obtain⟨r,lam,hr⟩:=Best.ex (fun j=>marg (oneF t) j (pN p 0 j).toNat) t.sites.length
 have hsum:∀ {x:List (List Int)},(∀ i,i<t.sites.length→0≤pN x 0 i)→sumF (fun i=>(((pN x 0 i).toNat:Nat):Rat)) t.sites.length=((Zw x 0 t.sites.length:Int):Rat):=fun {x} hx=>by
  rw[ZgW]
  refine Rat.le_antisymm (Zch fun i hi=>?_) (Zch fun i hi=>?_)
  ·rw[Zcw (hx i hi)];exact Rat.le_refl
  ·rw[Zcw (hx i hi)];exact Rat.le_refl
 have hb:=ZiK (f:=oneF t) (n:=t.sites.length) (g:=fun i=>(pN p 0 i).toNat) (m:=fun i=>(pN q 0 i).toNat) (lam:=lam) (H:=((eH t 0:Int):Rat))
  (fun i hi k hk=>by
   cases r with
   | none=>
    rw[(hr.no rfl).1]
    exact(Zfi ok h1 hi k).2
   | some j=>
    obtain⟨hj,e,_⟩:=hr.yes j rfl
    rw[e]
    exact hI i j k hi hj hk)
  (fun i hi k hk=>by
   obtain⟨d,rfl⟩:=Nat.le.dest hk
   exact Rat.le_trans (Zid ok h1 hi d) (hr.le hi))
  hr.nn
  (by
   by_cases hf:0<Z7 t p 0
   ·left
    have hle:∀ k,k<t.sites.length→marg (oneF t) k (pN p 0 k).toNat≤0:=fun k hk=>by
     have:=(hB.no rfl).2 k (by rw[h1,Nat.one_mul];exact hk)
     unfold Zao at this
     rw[Nat.div_eq_of_lt hk,Nat.mod_eq_of_lt hk,if_pos hf,Zfj hlp (hnp k hk)] at this
     exact this
    cases r with
    | none=>exact(hr.no rfl).1
    | some j=>
     obtain⟨hj,e,h0,_⟩:=hr.yes j rfl
     have:=hle j hj
     rw[e] at h0
     exact absurd h0 (Rat.not_lt.2 this)
   ·right
    rw[hsum hnp]
    have h3:=okp.sum 0 (by rw[hlp];omega)
    unfold Z7 at hf
    have e:eH t 0=Zw p 0 t.sites.length:=by omega
    rw[e])
  (by
   rw[hsum hnq]
   exact Rat.intCast_le_intCast.2 (okq.sum 0 (by rw[hlq];omega)))
 refine Rat.le_trans (Zch fun i hi=>?_) (Rat.le_trans hb (Zch fun i hi=>?_))
 ·rw[Zjg hlq (hnq i hi)];exact Rat.le_refl
 ·rw[Zjg hlp (hnp i hi)];exact Rat.le_refl
end
end Go.Proofs.YtmpaflidennnoaaGreatDoor
namespace Go.Proofs.YtmpaflidennnoaaGreatDoor
open Go.RowKit Go.Shelf
attribute [local go_sem ↓] Go.wp_at_zero Go.wp_at_succ
theorem Zmb {t:TaskP} {p:List (List Int)} {sv hv rv pv:Value} {w:World} (hT:TaskIn t sv hv rv w) (hI:IIL w pv p) :
  Calls Tryz.prog 5 #[.agg #[sv,hv,rv],pv] w (ZO w true):=by
 have HI:=Lib.hid hI
 clear hI
 obtain⟨ps,cs,rfl,_⟩:=hT.sites.shape rfl
 obtain⟨ph,ch,rfl,_⟩:=hT.hours.shape rfl
 obtain⟨pr,cr,rfl,_⟩:=hT.rates.shape rfl
 obtain⟨ns,hns⟩:∃ n,t.sites.length=n:=⟨_,rfl⟩
 obtain⟨nh,hnh⟩:∃ n,t.hours.length=n:=⟨_,rfl⟩
 obtain⟨nr,hnr⟩:∃ n,t.rates.length=n:=⟨_,rfl⟩
 rw[hns,hnh,hnr] at hT ⊢
 have HT:=Lib.hid hT
 have HNS:=Lib.hid hns
 have HNH:=Lib.hid hnh
 obtain⟨w1,hw1⟩:∃ z,w.alloc (efO (.slice ps ns cs) (.slice ph nh ch) (.slice pr nr cr))=z:=⟨_,rfl⟩
 obtain⟨G,hG⟩:∃ g,w.heap.size=g:=⟨_,rfl⟩
 have HG:=Lib.hid hG
 have HE1:Hid (Env w.heap.size w [(G,efO (.slice ps ns cs) (.slice ph nh ch) (.slice pr nr cr))] [] w1):=by rw[← hw1];exact(Env.start w).push _ hG.symm
 clear hT hns hnh hnr
 go_enter Tryz.func5,Tryz.ntmps5
 go_wp2_with fail
 have hT1:=HT.out.below HE1.out.base (Nat.le_refl _)
 refine(ZfR _ hT1.det hT1.tabs hT1.eff).mono ?_
 rintro e w2 ⟨rfl,hb⟩
 have HE2:=Lib.hid (HE1.out.step hb)
 clear hb HE1 hT1 hw1 hG
 have c0:=HE2.out.cell 0 0 (v:=.slice ps ns cs) rfl rfl
 have c1:=HE2.out.cell 0 1 (v:=.slice ph nh ch) rfl rfl
 have c2:=HE2.out.cell 0 2 (v:=.slice pr nr cr) rfl rfl
 go_wp2_with fail
 refine(ZfL (HT.out.below HE2.out.base (Nat.le_refl _)) 5 1 10 (by decide) (by decide) (by decide)).mono ?_
 rintro e w3 ⟨r,rfl,hS,hb⟩
 have HE3:=Lib.hid (HE2.out.step hb)
 clear hb HE2 c0 c1 c2
 cases r with
 | true=>
  go_wp2
  exact bodyPost_ret (by simp[results,Tryz.f5,go_sem]) rfl ⟨rfl,HE3.out.base⟩
 | false=>
  have HZ:=Lib.hid (hS rfl).lim
  clear hS
  go_wp2_with fail
  refine(Zh5 (IIL.stay2 HI.out HE3.out.base (Nat.le_refl _))).mono ?_
  rintro e w4 ⟨r,rfl,hW,hb⟩
  have HE4:=Lib.hid (HE3.out.step hb)
  clear hb HE3 hW
  cases r with
  | true=>
   go_wp2
   exact bodyPost_ret (by simp[results,Tryz.f5,go_sem]) rfl ⟨rfl,HE4.out.base⟩
  | false=>
   have c0:=HE4.out.cell 0 0 (v:=.slice ps ns cs) rfl rfl
   have c1:=HE4.out.cell 0 1 (v:=.slice ph nh ch) rfl rfl
   have c2:=HE4.out.cell 0 2 (v:=.slice pr nr cr) rfl rfl
   by_cases h1:nh=1
   rotate_left
   ·have hb1:((nh:Int) !=1)=true:=by rw[bne_iff_ne];omega
    clear h1
    go_wp2
    exact bodyPost_ret (by simp[results,Tryz.f5,go_sem]) rfl ⟨rfl,HE4.out.base⟩
   ·subst h1
    go_wp2_with fail
    refine(Ze7 (HT.out.below HE4.out.base (Nat.le_refl _)) HZ.out).mono ?_
    rintro e w5 ⟨hA,hb⟩
    obtain⟨bp,bv,n0,rfl,hbv,hgr⟩:∃ (bp:List (List Int)) (bv:Value) (n0:Int),e=.returned (.tuple #[bv,.int .i64 n0])∧IIL w5 bv bp∧(n0=0→TaskOk t∧GreedyR t (Zz t) bp):=by
     rcases hA with ⟨_,rfl⟩ | ⟨h1,q,qv,h2,_,h3,rfl⟩
     ·exact⟨[],_,_,rfl,LL.nil _,fun h=>by cases h⟩
     ·exact⟨q,qv,_,rfl,h3,fun _=>⟨h1,h2⟩⟩
    have HE5:=Lib.hid (HE4.out.step hb)
    have HBV:=Lib.hid hbv
    have HGR:=Lib.hid hgr
    obtain⟨bl,hbl⟩:∃ n,bp.length=n:=⟨_,rfl⟩
    obtain⟨bpp,bpc,rfl,_⟩:=hbv.shape hbl
    clear hA hb hbv hgr HE4 c0 c1 c2 hbl
    have c0:=HE5.out.cell 0 0 (v:=.slice ps ns cs) rfl rfl
    have c1:=HE5.out.cell 0 1 (v:=.slice ph 1 ch) rfl rfl
    have c2:=HE5.out.cell 0 2 (v:=.slice pr nr cr) rfl rfl
    go_wp2_with fail
    refine(Zca (HT.out.below HE5.out.base (Nat.le_refl _)) HZ.out HBV.out).mono ?_
    rintro e w6 ⟨x,y,n1,rfl,hA,hb⟩
    have HA1:=Lib.hid hA
    obtain⟨A,hAs⟩:∃ g,w6.heap.size=g:=⟨_,rfl⟩
    obtain⟨w7,hw7⟩:∃ z,w6.alloc (pObj x y)=z:=⟨_,rfl⟩
    have HE7:Hid (Env w.heap.size w [(A,pObj x y),(G,efO (.slice ps ns cs) (.slice ph 1 ch) (.slice pr nr cr))] [] w7):=by rw[← hw7];exact(HE5.out.step hb).push _ hAs.symm
    clear hA hb HE5 c0 c1 c2
    have c0:=HE7.out.cell 1 0 (v:=.slice ps ns cs) rfl rfl
    have c1:=HE7.out.cell 1 1 (v:=.slice ph 1 ch) rfl rfl
    have c2:=HE7.out.cell 1 2 (v:=.slice pr nr cr) rfl rfl
    go_wp2_with fail
    try rw[hw7]
    try rw[hAs]
    clear hw7 hAs
    refine(Zca (HT.out.below HE7.out.base (Nat.le_refl _)) HZ.out (IIL.stay2 HI.out HE7.out.base (Nat.le_refl _))).mono ?_
    rintro e w8 ⟨u,v,n2,rfl,hA,hb⟩
    have HA2:=Lib.hid hA
    obtain⟨B,hBs⟩:∃ g,w8.heap.size=g:=⟨_,rfl⟩
    obtain⟨w9,hw9⟩:∃ z,w8.alloc (pObj u v)=z:=⟨_,rfl⟩
    have HE9:Hid (Env w.heap.size w [(B,pObj u v),(A,pObj x y),(G,efO (.slice ps ns cs) (.slice ph 1 ch) (.slice pr nr cr))] [] w9):=by rw[← hw9];exact(HE7.out.step hb).push _ hBs.symm
    clear hA hb HE7 c0 c1 c2
    have d0:=HE9.out.cell 1 0 (v:=.string x) rfl rfl
    have d1:=HE9.out.cell 1 1 (v:=.string y) rfl rfl
    have e0:=HE9.out.cell 0 0 (v:=.string u) rfl rfl
    have e1:=HE9.out.cell 0 1 (v:=.string v) rfl rfl
    have HBB:=Lib.hid HE9.out.base
    by_cases hn0:n0=0
    rotate_left
    ·have h0:(n0 !=0)=true:=by rw[bne_iff_ne];exact hn0
     clear hn0
     go_wp2
     exact bodyPost_ret (by simp[results,Tryz.f5,go_sem]) rfl ⟨rfl,HBB.out⟩
    by_cases hn1:n1=0
    rotate_left
    ·have h0:(n1 !=0)=true:=by rw[bne_iff_ne];exact hn1
     subst hn0
     clear hn1
     go_wp2
     exact bodyPost_ret (by simp[results,Tryz.f5,go_sem]) rfl ⟨rfl,HBB.out⟩
    by_cases hn2:n2=0
    rotate_left
    ·have h0:(n2 !=0)=true:=by rw[bne_iff_ne];exact hn2
     subst hn0 hn1
     clear hn2
     go_wp2
     exact bodyPost_ret (by simp[results,Tryz.f5,go_sem]) rfl ⟨rfl,HBB.out⟩
    subst hn0 hn1 hn2
    have hle:sgnR (valF t p |> fun f=>sumF f t.sites.length) (sumF (valF t bp) t.sites.length)≤0∧IsP (sumF (valF t p) t.sites.length) u v∧IsP (sumF (valF t bp) t.sites.length) x y:=by
     obtain⟨ok,hG⟩:=HGR.out rfl
     rcases HA1.out with ⟨_,_,_,h⟩ | ⟨_,h⟩
     ·cases h
     ·rcases HA2.out with ⟨_,_,_,g⟩ | ⟨okq,g⟩
      ·cases g
      ·exact⟨Int.not_lt.1 (ZbV (ZlL ok HNH.out hG okq)),g.fine.2,h.fine.2⟩
    obtain⟨g,hg⟩:∃ g,sgnR (sumF (valF t p) t.sites.length) (sumF (valF t bp) t.sites.length)=g:=⟨_,rfl⟩
    dsimp only at hle
    rw[hg] at hle
    obtain⟨hle,hu,hx⟩:=hle
    have HX:=Lib.hid (And.intro hu hx)
    have HGG:=Lib.hid hg
    clear hx hu hg
    go_wp2_with fail
    try rw[hw9]
    try rw[hBs]
    refine(ZaA HX.out.1 HX.out.2 HGG.out _).mono ?_
    rintro e w10 ⟨rfl,hb⟩
    have HB10:=Lib.hid (HE9.out.base.trans (hb.mono HE9.out.own))
    clear hb
    go_wp2
    exact bodyPost_ret (by simp[results,Tryz.f5,go_sem]) rfl ⟨rfl,HB10.out⟩
end Go.Proofs.YtmpaflidennnoaaGreatDoor
namespace Go.Proofs.YtmpaflidennnoaaGreatDoor
open Go.ChangeShapes Go.WideShapes Go.ChangeAt Go.RowKit
theorem ZjN (os:Os) (started:os.Started) (H:Type) (enc:TypeId×Value→H) :
  ReturnsInHanded {} Tryz.checked os 5 .any (fun w args=>(Rows.effortOneSpec.pre enc Tryz.prog Tryz.f5 Rows.effortOneRow.domain false w args∧laidMetH Tryz.prog Zan w)∧sizedMet enc Tryz.prog Tryz.f5 (OpenSpec.ofChange Rows.effortOneSpec) false w args)
   (Rows.effortOneSpec.post enc Tryz.prog Tryz.f5 false true false false):=by
 refine returnsInHanded_of_change_and (C:=Tryz.checked) (X:=fun w _=>laidMetH Tryz.prog Zan w) (fun _ _ _ hh h=>h.of_heap hh) ZhL started (by kernel_rfl) Tryz.func5
  (ChangeSpec.witness_shaped (enc:=enc) (C:=Tryz.checked) (os:=os) (X:=fun w _=>laidMetH Tryz.prog Zan w) false (World.laidAll Tryz.prog os Zan) #[.agg #[.slice none 0 0,.slice none 0 0,.slice none 0 0],.slice none 0 0] 8 (World.laidAll_os _ _ _)
   (World.shaped_of_ZipB (by kernel_rfl) (by kernel_rfl)) (by kernel_rfl) (by kernel_rfl) (by kernel_rfl) (met9 os _)) ?_
 intro W base args ds gs before hval0 hW hc _ hL _
 have hval:∀ (j:Nat) t v,Tryz.f5.params[j]?=some t→args[j]?=some v→Value.okWide Tryz.prog W .any base t v:=hval0
 have hW':=hW
 obtain⟨p,q,hA0,hV,rfl,_,_⟩:=hW
 have hA:DataW.TrodAll enc Tryz.prog W 0 (fun _=>true) true Tryz.f5.params.toList args.toList ds p:=hA0
 rw[Tryz.params5] at hA hval
 obtain⟨v0,v1,d0,d1,p0,p1,rfl,rfl,rfl,h0,h1⟩:=trodAll_two hA
 obtain⟨rfl,rfl⟩:=trodVars_none hV
 obtain⟨t0,x0,y0,z0,rfl,hT0⟩:=Zjn (hval 0 _ v0 rfl rfl) h0 hL
 obtain⟨n1,hn1⟩:=Zg4 (hval 1 _ v1 rfl rfl) h1
 clear hA0 hval0
 simp only[List.append_nil] at hW'
 refine(Zmb hT0 hn1).mono fun e W' ⟨he,bel⟩=>?_
 subst he
 have nx:∀ x ∈ ([]:List MemPlace),x.block<W.heap.size:=fun _ h=>by cases h
 have hlt0:∀ x ∈ p0,x.block<W.heap.size:=fun x hx=>by first | (have:=hW'.lt x hx;simpa using this) | (have:=hW'.lt x (by simp[hx]);simpa using this)
 have hlt1:∀ x ∈ p1,x.block<W.heap.size:=fun x hx=>by first | (have:=hW'.lt x hx;simpa using this) | (have:=hW'.lt x (by simp[hx]);simpa using this)
 refine⟨_,rfl,_,_,_,[],p0++p1,[],hW',?_,?_,?_,bel.frame _,fun h=>by cases h⟩
 ·exact trodAll_mk1 (shut_bool Tryz.underlying4 _)
 ·have h9:=trodAll_mk2 (Below.trod Zdd (by kernel_rfl) (of_decide_eq_true (by kernel_rfl)) h0 bel hlt0) (Below.trod Zdd (by kernel_rfl) (of_decide_eq_true (by kernel_rfl)) h1 bel hlt1)
  first | exact h9 | (simp only[List.append_nil,List.nil_append] at h9;exact h9) | (simp only[← List.append_assoc,List.append_nil,List.nil_append] at h9;exact h9) | (simpa using h9)
 ·rfl
end Go.Proofs.YtmpaflidennnoaaGreatDoor
