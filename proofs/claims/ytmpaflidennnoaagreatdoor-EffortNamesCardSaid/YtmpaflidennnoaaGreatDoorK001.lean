/- The parts EffBd, EffHrs, EffD, EffFit, EffImp, StepsY of a proof, put together by program (merge7.py). -/
import Derived.Test.YtmpaflidennnoaaGreatDoorH30
import Derived.Test.YtmpaflidennnoaaGreatDoorH26
import Derived.Test.YtmpaflidennnoaaGreatDoorH24
import Derived.Test.YtmpaflidennnoaaGreatDoorH21
import Derived.Test.YtmpaflidennnoaaGreatDoorH22
import Derived.OrdersIn
set_option linter.unusedVariables false
set_option linter.unusedSimpArgs false
namespace Go.Proofs.YtmpaflidennnoaaGreatDoor
open Go.RowKit Go.Shelf
theorem Zgk (f:Nat→Rat) (T:Nat):∀ N,sumF f (T+N)=sumF f T+sumF (fun i=>f (T+i)) N
 | 0=>by
  show sumF f T=sumF f T+0
  rw[Rat.add_zero]
 | N+1=>by
  have h:=Zgk f T N
  show sumF f (T+N)+f (T+N)=sumF f T+(sumF (fun i=>f (T+i)) N+f (T+N))
  rw[h,Rat.add_assoc]
theorem LeastQ.ex (q:Nat→Rat) (ok:Nat→Prop):∀ n,∃ r,LeastQ q ok n r
 | 0=>⟨none,LeastQ.zero q ok⟩
 | n+1=>by
  obtain⟨r,h⟩:=LeastQ.ex q ok n
  by_cases hk:ok n
  ·cases r with
   | none=>exact⟨_,h.take hk (fun c hc=>by cases hc)⟩
   | some c=>
    by_cases hl:q n<c
    ·exact⟨_,h.take hk (fun d hd=>by obtain rfl:=Option.some.inj hd;exact hl)⟩
    ·exact⟨_,h.keep (Rat.not_lt.1 hl)⟩
  ·exact⟨_,h.skip hk⟩
theorem Best.ex (g:Nat→Rat):∀ n,∃ r m,Best g n r m
 | 0=>⟨none,0,Best.zero g⟩
 | n+1=>by
  obtain⟨r,m,h⟩:=Best.ex g n
  by_cases hl:m<g n
  ·exact⟨_,_,h.up hl⟩
  ·exact⟨_,_,h.keep (Rat.not_lt.1 hl)⟩
theorem SurR.ex (t:TaskP) (qs:List PP) (i:Nat):∃ s,SurR t qs i s:=by
 obtain⟨r,h⟩:=LeastQ.ex (fun u=>prR qs u/rR t u i) (fun u=>rR t u i≠0) t.hours.length
 cases r with
 | none=>exact⟨0,none,h,.inl ⟨rfl,rfl⟩⟩
 | some c=>
  obtain⟨b,m,hb⟩:=Best.ex (fun k=>posR (wR t i*hR (eS t i).curve k-c*cR (eS t i).curve k)) (eS t i).curve.length
  exact⟨m,some c,h,.inr ⟨c,rfl,b,hb⟩⟩
theorem ZkJ (t:TaskP) (qs:List PP):sumF (Zj t qs) (t.hours.length+t.sites.length)=sumF (fun u=>prR qs u*((eH t u:Int):Rat)) t.hours.length+sumF (surF t qs) t.sites.length:=by
 rw[Zgk]
 have e1:sumF (Zj t qs) t.hours.length=sumF (fun u=>prR qs u*((eH t u:Int):Rat)) t.hours.length:=by
  refine Rat.le_antisymm (Zb5 fun u hu=>?_) (Zb5 fun u hu=>?_)
  ·unfold Zj
   rw[if_pos hu]
   exact Rat.le_refl
  ·unfold Zj
   rw[if_pos hu]
   exact Rat.le_refl
 have e2:(fun i=>Zj t qs (t.hours.length+i))=surF t qs:=by
  funext i
  unfold Zj
  rw[if_neg (by omega),show t.hours.length+i-t.hours.length=i by omega]
 rw[e1,e2]
theorem ZlO {bs:List BB} (h:CurveP bs):chF bs 0=0:=by
 have c0:cR bs 0=0:=by unfold cR;rw[h.first];exact ZdB
 have h0:hR bs 0=0:=by unfold hR;rw[h.first];exact ZdB
 have hl:=h.len
 refine Ze7 h ⟨0,⟨by omega,fun j hj=>absurd hj (Nat.not_lt_zero _),fun hn=>?_⟩,?_⟩
 ·have:=(h.up 0 hn).1
  rw[c0] at this
  exact this
 ·unfold lin
  rw[c0,h0,Rat.sub_self,Rat.mul_zero,Rat.add_zero]
theorem Zmi (x:Rat):x≤posR x:=by
 unfold posR
 split
 ·assumption
 ·exact Rat.le_refl
theorem ZiD {f:Nat→Rat} : ∀ {n:Nat},(∀ i,i<n→f i=0)→sumF f n=0
 | 0,_=>rfl
 | n+1,h=>by
  show sumF f n+f n=0
  rw[ZiD fun i hi=>h i (by omega),h n (by omega),Rat.add_zero]
theorem Zi1 {t:TaskP} {p:List (List Int)} {qs:List PP} (ok:PlanOk t p) (okp:PricesOk t qs) {i:Nat} (hi:i<t.sites.length) :
  ∃ lam:Rat,valF t p i≤lam*covR t p i+surF t qs i∧∀ u,u<t.hours.length→lam*(rR t u i*((pN p u i:Int):Rat))≤prR qs u*((pN p u i:Int):Rat):=by
 obtain⟨s,hs⟩:=SurR.ex t qs i
 rw[Zbo hs]
 have hn:∀ u,u<t.hours.length→(0:Rat)≤((pN p u i:Int):Rat):=fun u hu=>by
  have:=(ok.hour u i (by rw[ok.teams];exact hu) hi).1
  exact(ZdF this.1 this.2).2.2
 have hp:∀ u,u<t.hours.length→0≤prR qs u:=fun u hu=>(ZgH okp (u:=u) (by rw[okp.len];exact hu)).1.nn
 have hr:∀ u,u<t.hours.length→0≤rR t u i:=fun u hu=>(ZcF ok.task (by rw[ok.task.rates];exact hu) hi).1.nn
 have hw:0≤wR t i:=(Zco ok.task hi).1.nn
 have hC:=(ok.task.site i hi).2
 obtain⟨r,hl,h⟩:=hs
 rcases h with ⟨rfl,rfl⟩ | ⟨c,rfl,b,hb⟩
 ·refine⟨0,?_,fun u hu=>?_⟩
  ·have hz:covR t p i=0:=by
    show Zar t p i p.length=0
    rw[Ze5]
    refine ZiD fun u hu=>?_
    have h0:rR t u i=0:=Classical.byContradiction fun h=>hl.no rfl u (by rw[← ok.teams];exact hu) h
    rw[h0,Rat.zero_mul]
   unfold valF
   rw[hz,ZlO hC,Rat.mul_zero,Rat.mul_zero,Rat.add_zero]
   exact Rat.le_refl
  ·rw[Rat.zero_mul]
   exact Rat.mul_nonneg (hp u hu) (hn u hu)
 ·obtain⟨⟨v,v1,v2,v3⟩,hle⟩:=hl.yes c rfl
  have hc:0≤c:=by rw[v3];exact Go.Proofs.YtmpaflidennnoaaGreatDoor.ZdZ (hp v v1) (hr v v1)
  refine⟨c,?_,fun u hu=>?_⟩
  ·have hq:0≤covR t p i:=(Zcw ok.task ok.inn hi (Nat.le_refl _)).2.2
   refine Zkt hC hw hc (fun j hj=>?_) hq
   have h1:=hb.le hj
   have h2:=Zmi (wR t i*hR (eS t i).curve j-c*cR (eS t i).curve j)
   grind
  ·by_cases h0:rR t u i=0
   ·rw[h0,Rat.zero_mul,Rat.mul_zero]
    exact Rat.mul_nonneg (hp u hu) (hn u hu)
   ·have h1:=hle u hu h0
    have hpos:0<rR t u i:=by
     have:=hr u hu
     grind
    have h2:c*rR t u i≤prR qs u:=by
     have h3:=Rat.mul_le_mul_of_nonneg_right h1 (hr u hu)
     rw[Rat.div_mul_cancel h0] at h3
     exact h3
    rw[← Rat.mul_assoc]
    exact Rat.mul_le_mul_of_nonneg_right h2 (hn u hu)
theorem ZdS {t:TaskP} {p:List (List Int)} {qs:List PP} (ok:PlanOk t p) (okp:PricesOk t qs):sumF (valF t p) t.sites.length≤sumF (Zj t qs) (t.hours.length+t.sites.length):=by
 rw[ZkJ]
 obtain⟨lam,hlam⟩:=Zd3 (n:=t.sites.length) fun i hi=>Zi1 ok okp hi
 refine ZiT (c:=covR t p) (lam:=lam) (rate:=rR t) (n:=fun u i=>((pN p u i:Int):Rat)) (fun i hi=>?_) (fun i hi=>(hlam i hi).1) (fun u i hu hi=>(hlam i hi).2 u hu) (fun u hu=>⟨?_,(ZgH okp (u:=u) (by rw[okp.len];exact hu)).1.nn⟩)
 ·show Zar t p i p.length=_
  rw[Ze5,ok.teams]
 ·rw[← Zhd]
  exact Rat.intCast_le_intCast.2 (ok.sum u (by rw[ok.teams];exact hu))
theorem Zmu {bs:List BB} (h:CurveP bs) (q:Rat):chF bs q≤1:=Zv.top h.conc' (ZcJ h q)
theorem ZcD (q:Rat):q*((q.den:Nat):Rat)=((q.num:Int):Rat):=by
 have h1:(q.num:Rat)/((q.den:Nat):Rat)=q:=by rw[← Rat.mkRat_eq_div,Rat.mkRat_self]
 have h2:((q.den:Nat):Rat)≠0:=by
  have:=Rat.natCast_pos.2 q.den_pos
  grind
 have h3:=Rat.div_mul_cancel (a:=(q.num:Rat)) h2
 rw[h1] at h3
 exact h3
def Den (D:Nat) (q:Rat):Prop:=0<D∧∃ z:Int,q*((D:Nat):Rat)=((z:Int):Rat)
theorem Den.own (q:Rat):Den q.den q:=⟨q.den_pos,q.num,ZcD q⟩
theorem Den.one {n:Int} : Den 1 ((n:Int):Rat):=⟨by decide,n,by
 have e:((1:Nat):Rat)=1:=rfl
 rw[e,Rat.mul_one]⟩
theorem Den.mul {D E:Nat} {a b:Rat} (h:Den D a) (g:Den E b):Den (D*E) (a*b):=by
 obtain⟨d0,x,hx⟩:=h
 obtain⟨e0,y,hy⟩:=g
 refine⟨Nat.mul_pos d0 e0,x*y,?_⟩
 rw[Rat.natCast_mul,Rat.intCast_mul,← hx,← hy]
 grind
theorem Den.add {D E:Nat} {a b:Rat} (h:Den D a) (g:Den E b):Den (D*E) (a+b):=by
 obtain⟨d0,x,hx⟩:=h
 obtain⟨e0,y,hy⟩:=g
 refine⟨Nat.mul_pos d0 e0,x*E+y*D,?_⟩
 rw[Rat.natCast_mul,Rat.intCast_add,Rat.intCast_mul,Rat.intCast_mul,← hx,← hy,Rat.intCast_natCast,Rat.intCast_natCast]
 grind
theorem Den.le {D:Nat} {q:Rat} (h:Den D q):q.den≤D:=by
 obtain⟨d0,z,hz⟩:=h
 have h1:q.num*D=z*q.den:=by
  have h2:=ZcD q
  have h3:((q.num*(D:Nat):Int):Rat)=((z*(q.den:Nat):Int):Rat):=by
   rw[Rat.intCast_mul,Rat.intCast_mul,← h2,← hz,Rat.intCast_natCast,Rat.intCast_natCast]
   grind
  exact Rat.intCast_inj.1 h3
 have h2:(q.den:Int) ∣ q.num*D:=⟨z,by rw[h1,Int.mul_comm]⟩
 have h3:q.den ∣ q.num.natAbs*D:=by
  have:=Int.natAbs_dvd_natAbs.2 h2
  rwa [Int.natAbs_mul,Int.natAbs_natCast,Int.natAbs_natCast] at this
 have h4:q.den ∣ D:=Nat.Coprime.dvd_of_dvd_mul_left (Nat.Coprime.symm q.reduced) h3
 exact Nat.le_of_dvd d0 h4
theorem Den.sz {D k M:Nat} {q:Rat} (h:Den D q) (h0:0≤q) (hD:D<10 ^ k) (hM:q≤((M:Nat):Rat)):q.den<10 ^ k∧q.num.toNat≤M*q.den:=by
 refine⟨Nat.lt_of_le_of_lt h.le hD,?_⟩
 have h2:=ZcD q
 have h3:=ZO h0
 have hd:(0:Rat)≤((q.den:Nat):Rat):=Rat.le_of_lt (Rat.natCast_pos.2 q.den_pos)
 have h4:=Rat.mul_le_mul_of_nonneg_right hM hd
 rw[h2] at h4
 have h5:((q.num:Int):Rat)≤(((M*q.den:Nat):Int):Rat):=by
  rw[Rat.intCast_natCast,Rat.natCast_mul]
  exact h4
 have h6:=Rat.intCast_le_intCast.1 h5
 omega
theorem ZkX {H H' C C' q:Rat} {e1 e2 d1 d2 m:Nat} {k:Nat} (hH:Den e1 H) (hH':Den e2 H') (hC:Den d1 C) (hC':Den d2 C') (hq:Den m q) (hlt:C<C') (hC0:0≤C) {c2:Nat} (hc2:C'*((d2:Nat):Rat)=((c2:Nat):Rat)) (h1:c2<10 ^ k) (h2:d1<10 ^ k) :
  ∃ K:Nat,0<K∧K<10 ^ (k+k)∧Den (K*(e1*e2*m)) (H+(H'-H)/(C'-C)*(q-C)):=by
 obtain⟨e1p,x1,hx1⟩:=hH
 obtain⟨e2p,x2,hx2⟩:=hH'
 obtain⟨d1p,c1,hc1⟩:=hC
 obtain⟨d2p,_⟩:=hC'
 obtain⟨mp,z,hz⟩:=hq
 have p1:(0:Rat)<((d1:Nat):Rat):=Rat.natCast_pos.2 d1p
 have p2:(0:Rat)<((d2:Nat):Rat):=Rat.natCast_pos.2 d2p
 have hKr:(C'-C)*(((d1:Nat):Rat)*((d2:Nat):Rat))=(((c2:Int)*(d1:Int)-c1*(d2:Int):Int):Rat):=by
  rw[Rat.intCast_sub,Rat.intCast_mul,Rat.intCast_mul,← hc1,Rat.intCast_natCast,Rat.intCast_natCast,Rat.intCast_natCast,← hc2]
  grind
 have hpos:0<(C'-C)*(((d1:Nat):Rat)*((d2:Nat):Rat)):=Rat.mul_pos (by grind) (Rat.mul_pos p1 p2)
 rw[hKr] at hpos
 have hK0:0<(c2:Int)*(d1:Int)-c1*(d2:Int):=by
  have e:((0:Int):Rat)=0:=rfl
  rw[← e] at hpos
  exact Rat.intCast_lt_intCast.1 hpos
 have hc1n:0≤c1:=by
  have h3:0≤C*((d1:Nat):Rat):=Rat.mul_nonneg hC0 (Rat.le_of_lt p1)
  rw[hc1] at h3
  have e:((0:Int):Rat)=0:=rfl
  rw[← e] at h3
  exact Rat.intCast_le_intCast.1 h3
 obtain⟨K,hK⟩:∃ K:Nat,(K:Int)=(c2:Int)*(d1:Int)-c1*(d2:Int):=⟨((c2:Int)*(d1:Int)-c1*(d2:Int)).toNat,Int.toNat_of_nonneg (by omega)⟩
 have hKle:(K:Int)≤(c2:Int)*(d1:Int):=by
  have:=Int.mul_nonneg hc1n (Int.natCast_nonneg d2)
  omega
 refine⟨K,by omega,?_,Nat.mul_pos (by omega) (Nat.mul_pos (Nat.mul_pos e1p e2p) mp),x1*e2*(c2*d1*m-z*d1*d2)+x2*e1*(z*d1*d2-c1*d2*m),?_⟩
 ·have h3:K≤c2*d1:=by exact_mod_cast hKle
  exact Nat.lt_of_le_of_lt h3 (Zaw h1 h2)
 ·have hKR:((K:Nat):Rat)=(C'-C)*(((d1:Nat):Rat)*((d2:Nat):Rat)):=by rw[hKr,← hK,Rat.intCast_natCast]
  have hd:C'-C≠0:=by grind
  have hdiv:(H'-H)/(C'-C)*(C'-C)=H'-H:=Rat.div_mul_cancel hd
  simp only[Rat.natCast_mul,Rat.intCast_add,Rat.intCast_mul,Rat.intCast_sub,Rat.intCast_natCast,hKR]
  rw[← hx1,← hx2,← hc1,← hz,← hc2]
  generalize (H'-H)/(C'-C)=sl at *
  generalize ((d1:Nat):Rat)=D1 at *
  generalize ((d2:Nat):Rat)=D2 at *
  generalize ((e1:Nat):Rat)=E1 at *
  generalize ((e2:Nat):Rat)=E2 at *
  generalize ((m:Nat):Rat)=M at *
  clear hKr hKR hx1 hx2 hc1 hz hc2 hpos hK0 hK hKle p1 p2
  grind
def DE (e:Nat) (q:Rat):Prop:=∃ D,Den D q∧D≤10 ^ e
theorem DE.mul {e f:Nat} {a b:Rat} (h:DE e a) (g:DE f b):DE (e+f) (a*b):=by
 obtain⟨D,h1,h2⟩:=h
 obtain⟨E,g1,g2⟩:=g
 exact⟨D*E,h1.mul g1,by rw[Nat.pow_add];exact Nat.mul_le_mul h2 g2⟩
theorem DE.add {e f:Nat} {a b:Rat} (h:DE e a) (g:DE f b):DE (e+f) (a+b):=by
 obtain⟨D,h1,h2⟩:=h
 obtain⟨E,g1,g2⟩:=g
 exact⟨D*E,h1.add g1,by rw[Nat.pow_add];exact Nat.mul_le_mul h2 g2⟩
theorem DE.mono {e f:Nat} {a:Rat} (h:DE e a) (hf:e≤f):DE f a:=by
 obtain⟨D,h1,h2⟩:=h
 exact⟨D,h1,Nat.le_trans h2 (Nat.pow_le_pow_right (by decide) hf)⟩
theorem DE.sz {k:Nat} {q:Rat} (h:Sz k q):DE k q:=⟨q.den,Den.own q,Nat.le_of_lt h.2⟩
theorem DE.int (n:Int):DE 0 ((n:Int):Rat):=⟨1,Den.one,Nat.le_refl _⟩
theorem DE.zero:DE 0 (0:Rat):=DE.int 0
theorem Zlh {t:TaskP} {p:List (List Int)} (ok:TaskOk t) {i:Nat} (hi:i<t.sites.length):∀ k,k≤t.rates.length→DE (9*k) (Zar t p i k)
 | 0,_=>DE.zero
 | k+1,h=>by
  have h1:=Zlh ok hi k (by omega) (p:=p)
  have h2:=(DE.sz (ZcF ok (u:=k) (by omega) hi).2).mul (DE.int (pN p k i))
  have h3:=h1.add h2
  unfold Zar
  exact h3.mono (by omega)
theorem Zmm {q:Rat} (h0:0≤q):((q.num:Int):Rat)=((q.num.toNat:Nat):Rat):=by
 have h:0≤q.num:=Rat.num_nonneg.2 h0
 obtain⟨k,hk⟩:=Int.eq_ofNat_of_zero_le h
 rw[hk]
 rfl
theorem ZjD {q:Rat} (h0:0≤q):q*((q.den:Nat):Rat)=((q.num.toNat:Nat):Rat):=by
 rw[ZcD q,Zmm h0]
theorem Zm7 {bs:List BB} (h:CurveP bs) {q:Rat} {m:Nat} (hq:DE m q):DE (72+m) (chF bs q):=by
 obtain⟨k,hk,hr⟩:=ZcJ h q
 rw[hr]
 obtain⟨hzC,hzH⟩:=h.sizes
 by_cases hi:k+1<bs.length
 ·have hlt:cR bs k<cR bs (k+1):=(h.up k hi).1
  obtain⟨Dq,hDq,hDm⟩:=hq
  have hC0:0≤cR bs k:=h.conc'.c_nn hk.1
  have hC1:0≤cR bs (k+1):=h.conc'.c_nn hi
  obtain⟨K,K0,K1,hK⟩:=ZkX (k:=18) (Den.own (hR bs k)) (Den.own (hR bs (k+1))) (Den.own (cR bs k)) (Den.own (cR bs (k+1))) hDq hlt hC0 (ZjD hC1) (hzC _ hi).1 (hzC _ hk.1).2
  unfold lin slo
  rw[if_pos hi]
  refine⟨_,hK,?_⟩
  have e1:=Nat.mul_le_mul (Nat.le_of_lt (hzH _ hk.1).2) (Nat.le_of_lt (hzH _ hi).2)
  have e2:=Nat.mul_le_mul (Nat.le_of_lt K1) (Nat.mul_le_mul e1 hDm)
  refine Nat.le_trans e2 ?_
  rw[← Nat.pow_add,← Nat.pow_add,← Nat.pow_add]
  exact Nat.pow_le_pow_right (by decide) (by omega)
 ·have e:lin bs.length (cR bs) (hR bs) k q=hR bs k:=by
   unfold lin slo
   rw[if_neg hi]
   grind
  rw[e]
  exact(DE.sz (hzH _ hk.1)).mono (by omega)
theorem ZmR {q:Rat} (h0:0≤q) {k:Nat} (h:q.num.toNat<10 ^ k):q≤((10 ^ k:Nat):Rat):=by
 have h1:=ZjD h0
 have h2:((1:Nat):Rat)≤((q.den:Nat):Rat):=Rat.natCast_le_natCast.2 q.den_pos
 have h3:=Rat.mul_le_mul_of_nonneg_left h2 h0
 rw[h1] at h3
 have h4:((q.num.toNat:Nat):Rat)≤((10 ^ k:Nat):Rat):=Rat.natCast_le_natCast.2 (Nat.le_of_lt h)
 have e:((1:Nat):Rat)=1:=rfl
 rw[e,Rat.mul_one] at h3
 exact Rat.le_trans h3 h4
theorem Zf7 {t:TaskP} (ok:TaskOk t):∀ n,n≤t.sites.length→sumF (wR t) n≤((n*10 ^ 9:Nat):Rat)
 | 0,_=>by
  rw[Nat.zero_mul]
  exact Rat.le_refl
 | n+1,h=>by
  have h1:=Zf7 ok n (by omega)
  obtain⟨w1,w2⟩:=Zco ok (i:=n) (by omega)
  have h2:=ZmR w1.nn w2.1
  show sumF (wR t) n+wR t n≤_
  rw[Nat.add_mul,Nat.one_mul,Rat.natCast_add]
  grind
theorem Zh1 {t:TaskP} {p:List (List Int)} (ok:TaskOk t) (inn:ZaV t p) (hT:t.hours.length≤3):∀ n,n≤t.sites.length→DE (108*n) (sumF (valF t p) n)
 | 0,_=>DE.zero
 | n+1,h=>by
  have h1:=Zh1 ok inn hT n (by omega)
  have hi:n<t.sites.length:=by omega
  have h2:=(Zlh (p:=p) ok hi p.length (by rw[inn.1,ok.rates];exact Nat.le_refl _)).mono (f:=27) (by have:=inn.1;omega)
  have h3:=(DE.sz (Zco ok hi).2).mul (Zm7 (ok.site n hi).2 h2)
  have h4:=h1.add h3
  show DE _ (sumF (valF t p) n+valF t p n)
  exact h4.mono (by omega)
theorem DE.fits {e m:Nat} {q:Rat} (h:DE e q) (h0:0≤q) (hM:q≤((10 ^ m:Nat):Rat)):Sz (m+e+1) q:=by
 obtain⟨D,hD,hle⟩:=h
 have hD2:D<10 ^ (e+1):=Nat.lt_of_le_of_lt hle (Nat.pow_lt_pow_right (by decide) (Nat.lt_succ_self e))
 obtain⟨z1,z2⟩:=hD.sz h0 hD2 hM
 refine⟨?_,Nat.lt_of_lt_of_le z1 (Nat.pow_le_pow_right (by decide) (by omega))⟩
 refine Nat.lt_of_le_of_lt z2 ?_
 have h3:10 ^ m*q.den<10 ^ m*10 ^ (e+1):=Nat.mul_lt_mul_of_pos_left z1 (Nat.pow_pos (by decide))
 rw[← Nat.pow_add] at h3
 exact h3
theorem ZgD {t:TaskP} {p:List (List Int)} (ok:TaskOk t) (inn:ZaV t p) (hN:t.sites.length≤4) (hT:t.hours.length≤3):ZT (valF t p) t.sites.length:=fun k hk=>by
 have hde:=Zh1 ok inn hT k hk
 have h0:0≤sumF (valF t p) k:=Zjw fun i hi=>by
  have hi':i<t.sites.length:=by omega
  obtain⟨_,_,c3⟩:=Zcw ok inn hi' (Nat.le_refl p.length)
  exact Rat.mul_nonneg (Zco ok hi').1.nn (Zv.nn (ok.site i hi').2.conc' c3 (ZcJ (ok.site i hi').2 _))
 have hM:sumF (valF t p) k≤((10 ^ 10:Nat):Rat):=by
  refine Rat.le_trans (Zb5 fun i hi=>?_) (Rat.le_trans (Zf7 ok k hk) (Rat.natCast_le_natCast.2 ?_))
  ·have hi':i<t.sites.length:=by omega
   have h1:=Rat.mul_le_mul_of_nonneg_left (Zmu (ok.site i hi').2 (covR t p i)) (Zco ok hi').1.nn
   rw[Rat.mul_one] at h1
   exact h1
  ·have:k≤4:=by omega
   have h1:=Nat.mul_le_mul_right (10 ^ 9) this
   exact Nat.le_trans h1 (by decide)
 exact(hde.fits h0 hM).fits (by omega) (by omega)
noncomputable def valR (t:TaskP) (p:List (List Int)):Rat:=sumF (valF t p) t.sites.length
def mvU (t:TaskP) (j:Nat):Nat:=j/t.sites.length/t.sites.length
def mvI (t:TaskP) (j:Nat):Nat:=j/t.sites.length % t.sites.length
def mvK (t:TaskP) (j:Nat):Nat:=j % t.sites.length
def mvB (t:TaskP) (p:List (List Int)) (j:Nat):Bool:=decide (0<pN p (mvU t j) (mvI t j)) && (decide (mvI t j≠mvK t j) && decide (rR t (mvU t j) (mvK t j)≠0))
def ZaB (t:TaskP) (p:List (List Int)) (j:Nat):List (List Int):=bump (bump p (mvU t j) (mvI t j) (-1)) (mvU t j) (mvK t j) 1
def mvN (t:TaskP):Nat:=t.hours.length*t.sites.length*t.sites.length
inductive MoveR (t:TaskP) (p:List (List Int)):Option (List (List Int))→Prop
 | no (h:∀ j,j<mvN t→mvB t p j=true→valR t (ZaB t p j)≤valR t p):MoveR t p none
 | yes (j:Nat) (hj:j<mvN t) (hm:mvB t p j=true) (hv:valR t p<valR t (ZaB t p j)) (hf:∀ i,i<j→mvB t p i=true→valR t (ZaB t p i)≤valR t p):MoveR t p (some (ZaB t p j))
theorem MoveR.det {t:TaskP} {p:List (List Int)} {r s:Option (List (List Int))} (h:MoveR t p r) (g:MoveR t p s):r=s:=by
 cases h with
 | no h=>
  cases g with
  | no _=>rfl
  | yes j hj hm hv _=>exact absurd hv (Rat.not_lt.2 (h j hj hm))
 | yes j hj hm hv hf=>
  cases g with
  | no g=>exact absurd hv (Rat.not_lt.2 (g j hj hm))
  | yes i hi gm gv gf=>
   rcases Nat.lt_trichotomy i j with h | rfl | h
   ·exact absurd gv (Rat.not_lt.2 (hf i h gm))
   ·rfl
   ·exact absurd hv (Rat.not_lt.2 (gf j h hm))
inductive ImproveR (t:TaskP):Nat→List (List Int)→List (List Int)→Nat→Prop
 | stop (p:List (List Int)):ImproveR t 0 p p 0
 | rest {n:Nat} {p:List (List Int)} (h:MoveR t p none):ImproveR t (n+1) p p 0
 | more {n k:Nat} {p q r:List (List Int)} (h:MoveR t p (some q)) (g:ImproveR t n q r k):ImproveR t (n+1) p r (k+1)
theorem ImproveR.det {t:TaskP} {n k l:Nat} {p q r:List (List Int)} (h:ImproveR t n p q k) (g:ImproveR t n p r l):q=r∧k=l:=by
 induction h generalizing r l with
 | stop _=>cases g;exact⟨rfl,rfl⟩
 | rest h=>
  cases g with
  | rest _=>exact⟨rfl,rfl⟩
  | more g _=>cases h.det g
 | more h _ ih=>
  cases g with
  | rest g=>cases h.det g
  | more g1 g2=>
   obtain rfl:=Option.some.inj (h.det g1)
   obtain⟨e1,e2⟩:=ih g2
   exact⟨e1,by rw[e2]⟩
theorem ZkH {t:TaskP} {j:Nat} (h:j<mvN t):mvU t j<t.hours.length∧mvI t j<t.sites.length∧mvK t j<t.sites.length:=by
 have h0:0<t.sites.length:=by
  refine Nat.pos_of_ne_zero fun e=>?_
  unfold mvN at h
  rw[e,Nat.mul_zero] at h
  exact absurd h (Nat.not_lt_zero _)
 unfold mvN at h
 exact⟨Nat.div_lt_of_lt_mul (Nat.div_lt_of_lt_mul (by rw[Nat.mul_comm] at h;rwa [Nat.mul_comm t.sites.length t.hours.length])),Nat.mod_lt _ h0,Nat.mod_lt _ h0⟩
section
variable {t:TaskP} {p:List (List Int)}
theorem Za4 (j:Nat):(ZaB t p j).length=p.length:=by unfold ZaB;rw[ZV,ZV]
theorem ZcH {u i:Nat} {d:Int} {v N:Nat} (hv:v<p.length) (h:p[v].length=N):∃ h2:v<(bump p u i d).length,(bump p u i d)[v].length=N:=by
 have h2:v<(bump p u i d).length:=by rw[ZV];exact hv
 exact⟨h2,by rw[ZfI h2];exact h⟩
theorem Zha (ok:PlanOk t p) {j:Nat} (hj:j<mvN t) (v:Nat):ZA (ZaB t p j) v t.sites.length=ZA p v t.sites.length:=by
 obtain⟨h1,h2,h3⟩:=ZkH hj
 have hu:mvU t j<p.length:=by rw[ok.teams];exact h1
 have hr:=ok.row _ hu
 obtain⟨hu2,hr2⟩:=ZcH (u:=mvU t j) (i:=mvI t j) (d:=-1) hu hr
 unfold ZaB
 rw[Zcn 1 hu2 (by rw[hr2];exact h3),Zcn (-1) hu (by rw[hr];exact h2)]
 by_cases e:v=mvU t j
 ·rw[if_pos ⟨e,h2⟩,if_pos ⟨e,h3⟩]
  omega
 ·rw[if_neg (fun h=>e h.1),if_neg (fun h=>e h.1)]
  omega
theorem PlanOk.moved (ok:PlanOk t p) {j:Nat} (hj:j<mvN t) (hm:mvB t p j=true):PlanOk t (ZaB t p j):=by
 obtain⟨h1,h2,h3⟩:=ZkH hj
 have hu:mvU t j<p.length:=by rw[ok.teams];exact h1
 have hr:=ok.row _ hu
 obtain⟨hu2,hr2⟩:=ZcH (u:=mvU t j) (i:=mvI t j) (d:=-1) hu hr
 have hs:=Zha ok hj
 have h48:∀ v,v<p.length→eH t v≤48:=fun v hv=>(ok.task.team v (by rw[ok.task.rates,← ok.teams];exact hv)).1.2
 unfold mvB at hm
 simp only[Bool.and_eq_true,decide_eq_true_eq] at hm
 obtain⟨m1,m2,m3⟩:=hm
 have hval:∀ v i,pN (Go.Proofs.YtmpaflidennnoaaGreatDoor.ZaB t p j) v i=if v=mvU t j∧i=mvK t j then pN p v i+1 else if v=mvU t j∧i=mvI t j then pN p v i-1 else pN p v i:=fun v i=>by
  unfold Go.Proofs.YtmpaflidennnoaaGreatDoor.ZaB
  by_cases e:v=mvU t j∧i=mvK t j
  ·obtain⟨rfl,rfl⟩:=e
   rw[if_pos ⟨rfl,rfl⟩,ZdG hu2 (by rw[hr2];exact h3),Zbe (.inr fun e=>m2 e.symm)]
  ·rw[if_neg e,Zbe (by by_cases h:v=mvU t j;exact .inr fun h2=>e ⟨h,h2⟩;exact .inl h)]
   by_cases e2:v=mvU t j∧i=mvI t j
   ·obtain⟨rfl,rfl⟩:=e2
    rw[if_pos ⟨rfl,rfl⟩,ZdG hu (by rw[hr];exact h2)]
    omega
   ·rw[if_neg e2,Zbe (by by_cases h:v=mvU t j;exact .inr fun h2=>e2 ⟨h,h2⟩;exact .inl h)]
 have hnn:∀ v i,v<p.length→i<t.sites.length→0≤pN (Go.Proofs.YtmpaflidennnoaaGreatDoor.ZaB t p j) v i:=fun v i hv hi=>by
  have:=(ok.hour v i hv hi).1.1
  rw[hval]
  split
  ·omega
  ·split
   ·rename_i h
    obtain⟨rfl,rfl⟩:=h
    omega
   ·exact this
 refine⟨ok.task,by rw[Za4];exact ok.teams,fun v hv=>?_,fun v i hv hi=>?_,fun v hv=>?_⟩
 ·rw[Za4] at hv
  obtain⟨g1,g2⟩:=ZcH (u:=mvU t j) (i:=mvI t j) (d:=-1) hv (ok.row v hv)
  obtain⟨_,g3⟩:=ZcH (u:=mvU t j) (i:=mvK t j) (d:=1) g1 g2
  exact g3
 ·rw[Za4] at hv
  have h0:=ok.hour v i hv hi
  have hle:=(Zd7 (p:=Go.Proofs.YtmpaflidennnoaaGreatDoor.ZaB t p j) (u:=v) (n:=t.sites.length) fun k hk=>hnn v k hv hk).2 i hi
  rw[hs v] at hle
  have:=ok.sum v hv
  have:=h48 v hv
  refine⟨⟨hnn v i hv hi,by omega⟩,fun hp=>?_⟩
  rw[hval] at hp
  split at hp
  ·rename_i h
   obtain⟨rfl,rfl⟩:=h
   exact m3
  ·split at hp
   ·exact h0.2 (by omega)
   ·exact h0.2 hp
 ·rw[Za4] at hv
  rw[hs v]
  exact ok.sum v hv
theorem MoveR.plan {q:List (List Int)} (h:MoveR t p (some q)) (ok:PlanOk t p):PlanOk t q∧valR t p<valR t q∧∀ v,ZA q v t.sites.length=ZA p v t.sites.length:=by
 cases h with
 | yes j hj hm hv hf=>exact⟨ok.moved hj hm,hv,Zha ok hj⟩
theorem ImproveR.law {n k:Nat} {q:List (List Int)} (h:ImproveR t n p q k) (ok:PlanOk t p) :
  PlanOk t q∧k≤n∧valR t p≤valR t q∧(valR t p<valR t q↔0<k)∧(∀ v,ZA q v t.sites.length=ZA p v t.sites.length)∧(k<n→MoveR t q none):=by
 induction h with
 | stop p=>exact⟨ok,Nat.le_refl _,Rat.le_refl,⟨fun h=>absurd h Rat.lt_irrefl,fun h=>absurd h (Nat.lt_irrefl _)⟩,fun _=>rfl,fun h=>absurd h (Nat.lt_irrefl _)⟩
 | rest h=>exact⟨ok,Nat.zero_le _,Rat.le_refl,⟨fun h=>absurd h Rat.lt_irrefl,fun h=>absurd h (Nat.lt_irrefl _)⟩,fun _=>rfl,fun _=>h⟩
 | @more n k p q1 q h _ ih=>
  obtain⟨m1,m2,m3⟩:=h.plan ok
  obtain⟨i1,i2,i3,i4,i5,i6⟩:=ih m1
  have hlt:valR t p<valR t q:=by grind
  exact⟨i1,by omega,Rat.le_of_lt hlt,⟨fun _=>by omega,fun _=>hlt⟩,fun v=>by rw[i5,m3],fun hk=>i6 (by omega)⟩
end
end Go.Proofs.YtmpaflidennnoaaGreatDoor
namespace Go.Proofs.YtmpaflidennnoaaGreatDoor
open Go.RowKit
section
variable {F:Fence} {n:Nat} {P:Program} {ops:Array Oper} {Q:Exit→Act→World→Prop} {md:Region.Mode} {S:World→Prop} {bar:Nat→Bool}
def ZaQ (P:Program) (ops:Array Oper) (S:World→Prop) (o:Oper) (v:Value) (a:Act):Prop:=YieldsIf P ops S o v a∧∀ w,o.about P w a.eval=none
theorem ZaQ.wpOpIn {i:Nat} {o:Oper} {v:Value} {a:Act} (hro:F.round=none) (hi:ops[i]?=some o) (hy:ZaQ P ops S o v a) {K:Act→World→Prop} {w:World} (hS:S w) (h:K (a.put o.dst v) w):wpOpIn F n P ops Q i K a w:=by
 unfold Go.wpOpIn
 simp only[hi]
 have hab:∀ f,o.about P w a.eval=some f→F.fn f:=fun f hf=>by rw[hy.2 w] at hf;cases hf
 rcases hy.1 with ⟨hw,hv⟩ | ⟨hw,rfl⟩
 ·simp only[hw,if_true,Oper.wpIn,hro,Oper.semAt_none,hv w hS,Oper.uponIn];exact⟨hab,h⟩
 ·simp only[hw,Bool.false_eq_true,if_false];exact⟨hab,h⟩
theorem ZaQ.of_same {o:Oper} {v:Value} {a a':Act} (hy:ZaQ P ops S o v a) (he:execOp a'.eval o=execOp a.eval o)
  (hw:Region.wanted o (yielded ops a'.tmps)=Region.wanted o (yielded ops a.tmps)) (hb:∀ w,o.about P w a'.eval=o.about P w a.eval):ZaQ P ops S o v a':=
 ⟨hy.1.of_same he hw,fun w=>by rw[hb w];exact hy.2 w⟩
theorem ZiL {j:Nat} {oi oj:Oper} {v:Value} (hro:F.round=none) (hj:ops[j]?=some oj) (hap:oi.apart ops oj=true)
  (hsi:∀ cs b,oi.op≠.select cs b) (hsj:∀ cs b,oj.op≠.select cs b)
  (hQ:∀ c a w,Q (.panic c) (a.put oi.dst v) w→Q (.panic c) a w) {K:Act→World→Prop} {a:Act} {w:World}
  (hy:ZaQ P ops S oi v a) (h:wpOpIn F n P ops Q j K (a.put oi.dst v) w) :
  wpOpIn F n P ops Q j (fun a' w'=>ZaQ P ops S oi v a'∧K (a'.put oi.dst v) w') a w:=by
 obtain⟨h1,h2,h3⟩:=Oper.apart_spec hap
 have keep:∀ (a:Act),ZaQ P ops S oi v a→∀ u,ZaQ P ops S oi v (a.put oj.dst u):=fun a hy u=>
  hy.of_same (execOp_put oi hsi a oj.dst u h3) (wanted_put oi a oj.dst u h3) (fun w=>about_put oi w a oj.dst u h3)
 have keepD:∀ d,ZaQ P ops S oi v { a with defers:=d::a.defers }:=fun d=>hy.of_same rfl rfl (fun _=>rfl)
 unfold wpOpIn at *
 simp only[hj] at *
 rw[wanted_put oj a oi.dst v h1,about_put oj w a oi.dst v h1] at h
 split
 ·rename_i hw
  simp only[hw,if_true] at h
  unfold Oper.wpIn at *
  rw[about_put oj w a oi.dst v h1] at h
  refine⟨h.1,?_⟩
  have h:=h.2
  rw[hro,Oper.semAt_none,execOp_put oj hsj a oi.dst v h1] at h
  rw[hro,Oper.semAt_none]
  generalize (execOp a.eval oj).run P w=r at *
  cases r with
  | ok x w'=>
   cases x<;>simp only[Oper.uponIn] at h ⊢
   case value u=>exact⟨keep a hy u,by rw[← Act.put_comm a v u h2];exact h⟩
   case skip=>exact⟨keep a hy _,by rw[← Act.put_comm a v undef h2];exact h⟩
   case defer d=>
    refine⟨keep _ (keepD d) _,?_⟩
    rw[← Act.put_comm _ v undef h2,← Act.put_defers]
    exact h
   case enter f args=>
    refine⟨h.1,CallsIn.mono h.2 fun e w'' he=>?_⟩
    cases e with
    | returned u=>exact⟨keep a hy u,by rw[← Act.put_comm a v u h2];exact he⟩
    | panicked c=>exact hQ _ _ _ he
    | outgrown=>exact he
   case row row args=>exact⟨h.1,RowsIn.mono h.2 fun u w'' he=>⟨keep a hy u,by rw[← Act.put_comm a v u h2];exact he⟩⟩
   case round l f tmps assign body=>
    refine⟨h.1,RoundIn.mono h.2 fun e w'' he=>?_⟩
    cases e with
    | returned u=>exact⟨keep a hy u,by rw[← Act.put_comm a v u h2];exact he⟩
    | panicked c=>exact hQ _ _ _ he
    | outgrown=>exact he
  | halt x w'=>
   cases x<;>simp only[Oper.uponIn] at h ⊢
   case panic u=>exact hQ _ _ _ h
 ·rename_i hw
  simp only[hw] at h
  exact⟨h.1,keep a hy _,by rw[← Act.put_comm a v undef h2];exact h.2⟩
def wpJI (F:Fence) (n:Nat) (P:Program) (md:Region.Mode) (ops:Array Oper) (Q:Exit→Act→World→Prop) (S:World→Prop) (bar:Nat→Bool):Nat→Array Bool→Act→World→Prop
 | 0,listed,a,w=>Region.ready md ops listed=[]∧Q .normal a w
 | fuel+1,listed,a,w=>(Region.ready md ops listed=[]→Q .normal a w)∧
  ∀ i ∈ Region.ready md ops listed,wpOpIn F n P ops Q i (fun a' w'=>(bar i=true∨S w')∧wpJI F n P md ops Q S bar fuel (listed.setIfInBounds i true) a' w') a w
theorem Zex:∀ (fuel:Nat) (listed:Array Bool) (a:Act) (w:World),wpJI F n P md ops Q S bar fuel listed a w→wpAnyIn F n P md ops Q fuel listed a w
 | 0,_,_,_,h=>h
 | fuel+1,_,_,_,h=>⟨h.1,fun i hi=>wpOpIn_mono (fun a' w' h'=>Zex fuel _ a' w' h'.2) (h.2 i hi)⟩
theorem Zf0 {i:Nat} {oi:Oper} {v:Value} (hro:F.round=none) (hi:ops[i]?=some oi) (hsel:Region.noSelect ops=true) (hQ:∀ c a w,Q (.panic c) (a.put oi.dst v) w→Q (.panic c) a w) (hbar:ZbU md ops bar i) (hbi:bar i=false) :
  ∀ (fuel:Nat) (listed:Array Bool) (a:Act) (w:World),Z0 md ops listed→
   (∀ j oj,ops[j]?=some oj→j≠i→listed.getD j true=false→(∀ e ∈ oj.after,Region.binds md e=true→e.on≠i)→oi.apart ops oj=true)→
   i ∈ Region.ready md ops listed→ZaQ P ops S oi v a→S w→
   wpJI F n P md ops Q S bar fuel (listed.setIfInBounds i true) (a.put oi.dst v) w→wpJI F n P md ops Q S bar (fuel+1) listed a w
 | 0,listed,a,w,_,_,hr,hy,hS,H=>by
  refine⟨fun h=>(by rw[h] at hr;cases hr),fun j hj=>?_⟩
  by_cases hji:j=i
  ·subst hji;exact hy.wpOpIn hro hi hS ⟨.inr hS,H⟩
  ·have:=ready_mono hj hji
   rw[H.1] at this
   cases this
 | fuel+1,listed,a,w,hcl,hfree,hr,hy,hS,H=>by
  refine⟨fun h=>(by rw[h] at hr;cases hr),fun j hj=>?_⟩
  by_cases hji:j=i
  ·subst hji;exact hy.wpOpIn hro hi hS ⟨.inr hS,H⟩
  ·have hbj:bar j=false:=by
    cases hb:bar j with
    | false=>rfl
    | true=>exact absurd hj (ZbK hcl (mem_ready.1 hr).1 _ _ (hbar j hb hji)).2
   obtain⟨hjun,oj,hoj,hall⟩:=mem_ready.1 hj
   have hnot:∀ e ∈ oj.after,Region.binds md e=true→e.on≠i:=fun e he hb heq=>by
    have:Region.waitsFor md ops j i=true:=by
     unfold Region.waitsFor
     rw[hoj]
     exact Array.any_eq_true'.2 ⟨e,he,by simp[hb,heq]⟩
    exact Zac hr this hj
   have h2:=ZiL hro hoj (hfree j oj hoj hji hjun hnot) (fun cs b=>Region.noSelect_spec hsel i oi cs b hi) (fun cs b=>Region.noSelect_spec hsel j oj cs b hoj) hQ hy (H.2 j (ready_mono hj hji))
   refine wpOpIn_mono (fun a' w' h3=>?_) h2
   have hS':S w':=by
    rcases h3.2.1 with h4 | h4
    ·rw[hbj] at h4;cases h4
    ·exact h4
   refine⟨.inr hS',Zf0 hro hi hsel hQ hbar hbi fuel (listed.setIfInBounds j true) a' w' (hcl.step hj) (fun k ok hk hki hun hno=>?_) (ready_mono hr (Ne.symm hji)) h3.1 hS' ?_⟩
   ·refine hfree k ok hk hki ?_ hno
    by_cases hjk:j=k
    ·subst hjk;exact hjun
    ·rw[getD_set_ne true hjk] at hun;exact hun
   ·rw[Array.setIfInBounds_comm _ _ hji]
    exact h3.2.2
def ZaW (F:Fence) (n:Nat) (P:Program) (ops:Array Oper) (Q:Exit→Act→World→Prop) (S:World→Prop) (bar:Nat→Bool):List (Nat×Nat)→Act→World→Prop
 | [],a,w=>Q .normal a w
 | (0,i)::ks,a,w=>∃ o,ops[i]?=some o∧(if Region.wanted o (yielded ops a.tmps) then o.wpIn F n P a w (fun a' w'=>(bar i=true∨S w')∧ZaW F n P ops Q S bar ks a' w') Q
   else (bar i=true∨S w)∧ZaW F n P ops Q S bar ks (a.put o.dst undef) w)
 | (_+1,i)::ks,a,w=>∃ o v,ops[i]?=some o∧ZaQ P ops S o v a∧ZaW F n P ops Q S bar ks (a.put o.dst v) w
def Zdh (md:Region.Mode) (ops:Array Oper) (bar:Nat→Bool):List (Nat×Nat)→Array Bool→Bool
 | [],listed=>decide (Region.ready md ops listed=[])
 | (0,k)::ks,listed=>decide (Region.ready md ops listed=[k]) && (!bar k || ks.all fun b=>b.1==0) && Zdh md ops bar ks (listed.setIfInBounds k true)
 | (_+1,k)::ks,listed=>(Region.ready md ops listed).contains k && Region.free md ops listed k && !bar k && ((List.range ops.size).all fun j=>!bar j || decide (j=k) || ZbV md ops ops.size j k) && Zdh md ops bar ks (listed.setIfInBounds k true)
theorem Zcx (hro:F.round=none) (hfn:∀ k,F.fn k) (hsel:Region.noSelect ops=true) (hQ:∀ c a o v w,Q (.panic c) (a.put o v) w→Q (.panic c) a w) (hbo:∀ j,ops.size≤j→bar j=false) :
  ∀ (ks:List (Nat×Nat)) (listed:Array Bool) (a:Act) (w:World),Zdh md ops bar ks listed=true→Z0 md ops listed→
   (S w∨ks.all (fun b=>b.1==0)=true)→ZaW F n P ops Q S bar ks a w→wpJI F n P md ops Q S bar ks.length listed a w
 | [],listed,a,w,hB,_,_,h=>⟨of_decide_eq_true hB,h⟩
 | (m+1,k)::ks,listed,a,w,hB,hC,hS,h=>by
  simp only[Zdh,Bool.and_eq_true] at hB
  obtain⟨⟨⟨⟨hr,hf⟩,hbk⟩,hw⟩,hB'⟩:=hB
  have hSw:S w:=by
   rcases hS with hS | hS
   ·exact hS
   ·simp at hS
  obtain⟨o,v,h0,hy,hrest⟩:=h
  have hbk':bar k=false:=by simpa using hbk
  have hwait:ZbU md ops bar k:=fun j hj hne=>by
   have hjl:j<ops.size:=by
    rcases Nat.lt_or_ge j ops.size with h' | h'
    ·exact h'
    ·rw[hbo j h'] at hj;cases hj
   rw[List.all_eq_true] at hw
   have:=hw j (List.mem_range.2 hjl)
   rw[hj] at this
   simpa[hne] using this
  have ih:=Zcx hro hfn hsel hQ hbo ks (listed.setIfInBounds k true) (a.put o.dst v) w hB' (hC.step (by simpa using hr)) (.inl hSw) hrest
  rw[List.length_cons]
  exact Zf0 hro h0 hsel (fun c a w=>hQ c a o.dst v w) hwait hbk' ks.length listed a w hC (Region.free_spec h0 hf) (by simpa using hr) hy hSw ih
 | (0,k)::ks,listed,a,w,hB,hC,hS,h=>by
  simp only[Zdh,Bool.and_eq_true,decide_eq_true_eq] at hB
  obtain⟨⟨hr,hbk⟩,hB'⟩:=hB
  obtain⟨o,h0,h⟩:=h
  refine⟨fun h1=>(by rw[hr] at h1;cases h1),fun i hi=>?_⟩
  rw[hr] at hi
  obtain rfl:i=k:=by simpa using hi
  have ih:=fun a' w' (hs:bar i=true∨S w') h'=>Zcx hro hfn hsel hQ hbo ks (listed.setIfInBounds i true) a' w' hB' (hC.step (by rw[hr];simp)) (by
   rcases hs with hs | hs
   ·rw[hs] at hbk
    exact .inr (by simpa using hbk)
   ·exact .inl hs) h'
  unfold wpOpIn
  simp only[h0]
  split at h
  ·rename_i hw;simp only[hw,if_true];exact Oper.wpIn_mono (fun a' w' h'=>⟨h'.1,ih a' w' h'.1 h'.2⟩) h
  ·rename_i hw;simp only[hw];exact⟨fun f _=>hfn f,h.1,ih _ _ h.1 h.2⟩
def ZiF (l:List Oper) (ks:List (Nat×Nat)) (bar:Nat→Bool):Bool:=
 Region.noSelect l.toArray && decide (ks.length=l.length) && Zdh .any l.toArray bar ks (Array.replicate l.toArray.size false)
theorem Zdx {id:Nat} {a:Act} {w:World} {l:List Oper} (ks:List (Nat×Nat)) (S:World→Prop) (bar:Nat→Bool) (hro:F.round=none) (hfn:∀ k,F.fn k) (hm:P.follows .mixedOrders=true)
  (hB:ZiF l ks bar=true) (hbo:∀ j,l.length≤j→bar j=false) (hQ:∀ c a o v w,Q (.panic c) (a.put o v) w→Q (.panic c) a w) (hS:S w.drew)
  (H:ZaW F n P l.toArray Q S bar ks a w.drew):(Code.region id l.toArray true).wpIn F n P Q a w:=by
 simp only[ZiF,Bool.and_eq_true,decide_eq_true_eq] at hB
 obtain⟨⟨hsel,hn⟩,hm2⟩:=hB
 have:=Zex _ _ _ _ (Zcx hro hfn hsel hQ (fun j hj=>hbo j (by simpa using hj)) ks _ a w.drew hm2 Z0.start (.inl hS) H)
 rw[hn] at this
 exact wpIn_region_any hm (by simpa using this)
theorem ZaZ {i k:Nat} {o:Oper} {ks:List (Nat×Nat)} {a:Act} {w:World} (v:Value) (ho:ops[i]?=some o) (hw:Region.wanted o (yielded ops a.tmps)=true) (hv:∀ w,S w→(execOp a.eval o).run P w=.ok (.value v) w) (hb:∀ w,o.about P w a.eval=none)
  (h:ZaW F n P ops Q S bar ks (a.put o.dst v) w):ZaW F n P ops Q S bar ((k+1,i)::ks) a w:=⟨o,v,ho,⟨.inl ⟨hw,hv⟩,hb⟩,h⟩
theorem Zbp {i k:Nat} {o:Oper} {ks:List (Nat×Nat)} {a:Act} {w:World} (ho:ops[i]?=some o) (hw:Region.wanted o (yielded ops a.tmps)=false) (hb:∀ w,o.about P w a.eval=none)
  (h:ZaW F n P ops Q S bar ks (a.put o.dst undef) w):ZaW F n P ops Q S bar ((k+1,i)::ks) a w:=⟨o,undef,ho,⟨.inr ⟨hw,rfl⟩,hb⟩,h⟩
theorem Zaz {i:Nat} {o:Oper} {ks:List (Nat×Nat)} {a:Act} {w:World} (ho:ops[i]?=some o) (hw:Region.wanted o (yielded ops a.tmps)=true)
  (h:∀ K:Act→World→Prop,(∀ a' w',(bar i=true∨S w')→ZaW F n P ops Q S bar ks a' w'→K a' w')→o.wpIn F n P a w K Q):ZaW F n P ops Q S bar ((0,i)::ks) a w:=by
 refine⟨o,ho,?_⟩
 rw[if_pos hw]
 exact h _ fun _ _ h1 h2=>⟨h1,h2⟩
theorem Zdi {i:Nat} {o:Oper} {ks:List (Nat×Nat)} {a:Act} {w:World} (ho:ops[i]?=some o) (hw:Region.wanted o (yielded ops a.tmps)=false) (hS:bar i=true∨S w)
  (h:ZaW F n P ops Q S bar ks (a.put o.dst undef) w):ZaW F n P ops Q S bar ((0,i)::ks) a w:=by
 refine⟨o,ho,?_⟩
 rw[if_neg (by rw[hw];exact Bool.false_ne_true)]
 exact⟨hS,h⟩
theorem Zcj {a:Act} {w:World} (h:Q .normal a w):ZaW F n P ops Q S bar [] a w:=h
end
end Go.Proofs.YtmpaflidennnoaaGreatDoor
