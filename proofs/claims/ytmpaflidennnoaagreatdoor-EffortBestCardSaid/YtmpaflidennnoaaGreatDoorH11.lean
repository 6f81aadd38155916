/- The parts EffL, Missed, Upto, Chances, MissL, EffM, EffG, Made, Ratio of a proof, put together by program (merge7.py). -/
import Derived.Test.YtmpaflidennnoaaGreatDoorH01
import Derived.Test.YtmpaflidennnoaaGreatDoorH10
import Derived.Test.YtmpaflidennnoaaGreatDoorH08
import Derived.Test.YtmpaflidennnoaaGreatDoorH02
set_option maxRecDepth 100000
set_option maxHeartbeats 4000000
set_option linter.unusedVariables false
set_option linter.unusedSimpArgs false
namespace Go.Proofs.YtmpaflidennnoaaGreatDoor
open Go.RowKit Go.Shelf
structure SiteP where
 weight:PP
 curve:List BB
structure TaskP where
 sites:List SiteP
 hours:List Int
 rates:List (List PP)
def ZcW (w:World) (b o:Nat) (s:SiteP):Prop:=w.cell? ⟨b,o,none⟩=some (.string s.weight.1)∧w.cell? ⟨b,o+1,none⟩=some (.string s.weight.2)∧∃ v,w.cell? ⟨b,o+2,none⟩=some v∧BL w v s.curve
theorem ZcW.stays:Zd4 ZcW:=fun w w' b o x B ⟨h1,h2,v,h3,h4⟩ hb hw hB=>by
 have hbB:b<B:=Nat.lt_of_lt_of_le hb hB
 exact⟨(hw.cell (p:=⟨b,o,none⟩) hbB).trans h1,(hw.cell (p:=⟨b,o+1,none⟩) hbB).trans h2,v,(hw.cell (p:=⟨b,o+2,none⟩) hbB).trans h3,h4.after hw hB⟩
abbrev Zkv (w:World) (v:Value) (l:List SiteP):Prop:=LL 3 ZcW w v l
abbrev PPL (w:World) (v:Value) (l:List (List PP)):Prop:=LL 1 (InR PL) w v l
theorem PPL.stays:Zd4 (InR PL):=InR.stays fun _ _ _ _ _ h hb hB=>h.after hb hB
def EffV (w:World) (v:Value) (t:TaskP):Prop:=∃ a b c,v=.agg #[a,b,c]∧Zkv w a t.sites∧IL w b t.hours∧PPL w c t.rates
theorem EffV.after {w w':World} {v:Value} {t:TaskP} {B:Nat} (h:EffV w v t) (hb:Below B w w') (hB:w.heap.size≤B):EffV w' v t:=by
 obtain⟨a,b,c,h1,h2,h3,h4⟩:=h
 exact⟨a,b,c,h1,h2.after ZcW.stays hb hB,h3.after IntR.stays hb hB,h4.after PPL.stays hb hB⟩
def ZmQ:SiteP:=⟨(⟨#[]⟩,⟨#[]⟩),[]⟩
def eS (t:TaskP) (i:Nat):SiteP:=t.sites.getD i ZmQ
def eH (t:TaskP) (u:Nat):Int:=t.hours.getD u 0
def eR (t:TaskP) (u i:Nat):PP:=(t.rates.getD u []).getD i (⟨#[]⟩,⟨#[]⟩)
def pN (p:List (List Int)) (u i:Nat):Int:=(p.getD u []).getD i 0
theorem Zie {t:TaskP} {i:Nat} (h:i<t.sites.length):t.sites[i]=eS t i:=by simp[eS,List.getD,h]
theorem Zk0 {t:TaskP} {u:Nat} (h:u<t.hours.length):t.hours[u]=eH t u:=by simp[eH,List.getD,h]
theorem Zh2 {t:TaskP} {u i:Nat} (h:u<t.rates.length) (g:i<t.rates[u].length):t.rates[u][i]=eR t u i:=by simp[eR,List.getD,h,g]
structure TaskOk (t:TaskP):Prop where
 sites:1≤t.sites.length∧t.sites.length≤24
 teams:1≤t.hours.length∧t.hours.length≤8
 rates:t.rates.length=t.hours.length
 site:∀ i,i<t.sites.length→Zk 9 (eS t i).weight=true∧CurveP (eS t i).curve
 team:∀ u (h:u<t.rates.length),(0≤eH t u∧eH t u≤48)∧t.rates[u].length=t.sites.length∧∀ i,i<t.sites.length→Zk 9 (eR t u i)=true
def Zcf (t:TaskP) (p:List (List Int)) (u i:Nat):Prop:=(0≤pN p u i∧pN p u i≤48)∧(0<pN p u i→ratP (eR t u i).1 (eR t u i).2≠0)
def ZI (p:List (List Int)) (u:Nat):Nat→Int
 | 0=>0
 | k+1=>ZI p u k+pN p u k
structure PlanOk (t:TaskP) (p:List (List Int)):Prop where
 task:TaskOk t
 teams:p.length=t.hours.length
 row:∀ u (h:u<p.length),p[u].length=t.sites.length
 hour:∀ u i,u<p.length→i<t.sites.length→Zcf t p u i
 sum:∀ u,u<p.length→ZI p u t.sites.length≤eH t u
end Go.Proofs.YtmpaflidennnoaaGreatDoor
namespace Go.Proofs.YtmpaflidennnoaaGreatDoor
def ZdX:Rat→List Rat→Option Rat
 | a,[]=>some a
 | a,c::cs=>if Fits (a*(1-c)) then ZdX (a*(1-c)) cs else none
def Ze6:List Rat→Rat
 | []=>1
 | c::cs=>(1-c)*Ze6 cs
theorem Zgg:∀ (cs:List Rat) {a r:Rat},ZdX a cs=some r→r=a*Ze6 cs
 | [],a,r,h=>by
  have:a=r:=Option.some.inj h
  unfold Ze6
  grind
 | c::cs,a,r,h=>by
  unfold ZdX at h
  split at h
  ·have:=Zgg cs h
   unfold Ze6
   grind
  ·cases h
theorem Zeb {n:Nat} {C H:Nat→Rat} (h:Conc n C H) (hc:∀ i,i<n→Sz 18 (C i)) (hh:∀ i,i<n→Sz 18 (H i)) {i:Nat} (hi:i+1<n) :
  Sz 36 (H (i+1)-H i)∧Sz 36 (C (i+1)-C i)∧0<C (i+1)-C i∧0≤H (i+1)-H i∧0≤slp C H i∧Sz 72 (slp C H i):=by
 obtain⟨u1,u2⟩:=h.up i hi
 have a:=Sz.sub (h.h_nn (i:=i+1) hi) (h.h_nn (i:=i) (by omega)) u2 (hh _ hi) (hh i (by omega))
 have b:=Sz.sub (h.c_nn (i:=i+1) hi) (h.c_nn (i:=i) (by omega)) (Rat.le_of_lt u1) (hc _ hi) (hc i (by omega))
 have c:0<C (i+1)-C i:=by grind
 have d:0≤H (i+1)-H i:=by grind
 exact⟨a,b,c,d,Zlb u1 u2,Sz.div d c a b⟩
theorem ZhQ {n k:Nat} {C H:Nat→Rat} {q:Rat} (h:Conc n C H) (hc:∀ i,i<n→Sz 18 (C i)) (hh:∀ i,i<n→Sz 18 (H i)) (hq:0≤q) (hz:Sz k q) {i:Nat} (hi:i+1<n) (hp:ZaX n C q i) :
  0≤q-C i∧Sz (k+18) (q-C i)∧0≤slp C H i*(q-C i)∧Sz (72+(k+18)) (slp C H i*(q-C i))∧lin n C H i q=H i+slp C H i*(q-C i)∧Sz (18+(72+(k+18))+1) (lin n C H i q):=by
 have h1:=hp.low h hq
 obtain⟨_,_,_,_,s0,sz⟩:=Zeb h hc hh hi
 have a:=Sz.sub hq (h.c_nn (i:=i) (by omega)) h1 hz (hc i (by omega))
 have b:0≤q-C i:=by grind
 have c:=Rat.mul_nonneg s0 b
 have d:=Sz.mul s0 b sz a
 have e:lin n C H i q=H i+slp C H i*(q-C i):=by
  unfold lin slo
  rw[if_pos hi]
 refine⟨b,a,c,d,e,?_⟩
 rw[e]
 exact Sz.add (h.h_nn (i:=i) (by omega)) c (hh i (by omega)) d
end Go.Proofs.YtmpaflidennnoaaGreatDoor
namespace Go.Proofs.YtmpaflidennnoaaGreatDoor
open Go.RowKit Go.Shelf
structure Upto (bs:List BB) (k:Nat):Prop where
 small:∀ i,i<k→Zk 18 (bAt bs i).1=true∧Zk 18 (bAt bs i).2=true
 top:∀ i,i<k→hR bs i≤1
 up:∀ i,i+1<k→cR bs i<cR bs (i+1)∧hR bs i≤hR bs (i+1)
 conc:∀ i,i+2<k→slp (cR bs) (hR bs) (i+1)≤slp (cR bs) (hR bs) i
theorem Upto.zero (bs:List BB):Upto bs 0:=⟨fun i h=>by omega,fun i h=>by omega,fun i h=>by omega,fun i h=>by omega⟩
theorem Upto.mono {bs:List BB} {k m:Nat} (h:Upto bs k) (hm:m≤k):Upto bs m:=
 ⟨fun i hi=>h.small i (by omega),fun i hi=>h.top i (by omega),fun i hi=>h.up i (by omega),fun i hi=>h.conc i (by omega)⟩
theorem Upto.succ {bs:List BB} {k:Nat} (h:Upto bs k) (h1:Zk 18 (bAt bs k).1=true∧Zk 18 (bAt bs k).2=true) (h2:hR bs k≤1)
  (h3:∀ i,i+1=k→cR bs i<cR bs (i+1)∧hR bs i≤hR bs (i+1)) (h4:∀ i,i+2=k→slp (cR bs) (hR bs) (i+1)≤slp (cR bs) (hR bs) i):Upto bs (k+1):=by
 refine⟨fun i hi=>?_,fun i hi=>?_,fun i hi=>?_,fun i hi=>?_⟩
 ·by_cases e:i=k
  ·subst e;exact h1
  ·exact h.small i (by omega)
 ·by_cases e:i=k
  ·subst e;exact h2
  ·exact h.top i (by omega)
 ·by_cases e:i+1=k
  ·exact h3 i e
  ·exact h.up i (by omega)
 ·by_cases e:i+2=k
  ·exact h4 i e
  ·exact h.conc i (by omega)
theorem Upto.curve {bs:List BB} (h:Upto bs bs.length) (hl:2≤bs.length∧bs.length≤64) (hf:bAt bs 0=ZcS):CurveP bs:=⟨hl,hf,h.small,h.top,h.up,h.conc⟩
structure Pieces (bs:List BB) (k:Nat):Prop where
 up:∀ i,i<k→cR bs i<cR bs (i+1)∧hR bs i≤hR bs (i+1)
 conc:∀ i,i+1<k→slp (cR bs) (hR bs) (i+1)≤slp (cR bs) (hR bs) i
theorem Pieces.zero (bs:List BB):Pieces bs 0:=⟨fun i h=>by omega,fun i h=>by omega⟩
theorem Pieces.succ {bs:List BB} {k:Nat} (h:Pieces bs k) (h1:cR bs k<cR bs (k+1)∧hR bs k≤hR bs (k+1)) (h2:∀ i,i+1=k→slp (cR bs) (hR bs) (i+1)≤slp (cR bs) (hR bs) i):Pieces bs (k+1):=by
 refine⟨fun i hi=>?_,fun i hi=>?_⟩
 ·by_cases e:i=k
  ·subst e;exact h1
  ·exact h.up i (by omega)
 ·by_cases e:i+1=k
  ·exact h2 i e
  ·exact h.conc i (by omega)
theorem Pieces.rise {bs:List BB} {k:Nat} (h:Pieces bs k) {i:Nat} : ∀ d,i+d≤k→hR bs i≤hR bs (i+d)
 | 0,_=>Rat.le_refl
 | d+1,hd=>Rat.le_trans (h.rise d (by omega)) (h.up (i+d) (by omega)).2
theorem Pieces.curve {bs:List BB} {m:Nat} (h:Pieces bs m) (hm:bs.length=m+1) (hl:2≤bs.length∧bs.length≤64) (hf:bAt bs 0=ZcS)
  (hs:∀ i,i<bs.length→Zk 18 (bAt bs i).1=true∧Zk 18 (bAt bs i).2=true) (ht:hR bs m≤1):CurveP bs:=by
 refine⟨hl,hf,hs,fun i hi=>?_,fun i hi=>h.up i (by omega),fun i hi=>h.conc i (by omega)⟩
 have:=h.rise (i:=i) (m-i) (by omega)
 rw[Nat.add_sub_cancel' (by omega)] at this
 exact Rat.le_trans this ht
theorem CurveP.pieces {bs:List BB} (h:CurveP bs) {m:Nat} (hm:bs.length=m+1):Pieces bs m:=⟨fun i hi=>h.up i (by omega),fun i hi=>h.conc i (by omega)⟩
theorem Za3 {k:Nat} {p:PP} (h:Zk k p=true):IsP (ratP p.1 p.2) p.1 p.2∧Sz k (ratP p.1 p.2):=by
 obtain⟨h1,h2,h3⟩:=Zae.1 h
 have:=Zax h3
 exact⟨this,this.sz h1 h2⟩
theorem ZJ {q:Rat} {k:Nat} (h0:0≤q) (h:Sz k q) (hk:0<k) (hk2:k≤600):∃ x y,IsP q x y:=⟨_,_,h0,rfl,rfl,h.fits hk hk2⟩
theorem ZlL {a b c d:Rat} (ha:0≤a) (hc:0≤c) (h1:c<d) (h2:a≤b) (sa:Sz 18 a) (sb:Sz 18 b) (sc:Sz 18 c) (sd:Sz 18 d) :
  (∃ x y,IsP (b-a) x y)∧(∃ x y,IsP (d-c) x y)∧(∃ x y,IsP ((b-a)/(d-c)) x y)∧0<d-c∧0≤(b-a)/(d-c)∧Sz 72 ((b-a)/(d-c)):=by
 have z1:=Sz.sub (a:=b) (b:=a) (by grind) ha h2 sb sa
 have z2:=Sz.sub (a:=d) (b:=c) (by grind) hc (Rat.le_of_lt h1) sd sc
 have p:0<d-c:=by grind
 have q:0≤b-a:=by grind
 have z3:=Sz.div q p z1 z2
 have r:=ZdS q (Rat.le_of_lt p)
 exact⟨ZJ q z1 (by decide) (by decide),ZJ (Rat.le_of_lt p) z2 (by decide) (by decide),ZJ r z3 (by decide) (by decide),p,r,z3⟩
theorem CurveP.sizes {bs:List BB} (h:CurveP bs):(∀ i,i<bs.length→Sz 18 (cR bs i))∧∀ i,i<bs.length→Sz 18 (hR bs i):=⟨fun _ hi=>(h.isC hi).2,fun _ hi=>(h.isH hi).2⟩
theorem ZhN {bs:List BB} {q:Rat} {k:Nat} (h:CurveP bs) (hq0:0≤q) (hz:Sz 300 q) (hp:ZaX bs.length (cR bs) q k) (hk:k+1<bs.length) :
  (∃ x y,IsP (hR bs (k+1)-hR bs k) x y)∧(∃ x y,IsP (cR bs (k+1)-cR bs k) x y)∧(∃ x y,IsP (slp (cR bs) (hR bs) k) x y)∧(∃ x y,IsP (q-cR bs k) x y)∧
   (∃ x y,IsP (slp (cR bs) (hR bs) k*(q-cR bs k)) x y)∧(∃ x y,IsP (lin bs.length (cR bs) (hR bs) k q) x y)∧
   lin bs.length (cR bs) (hR bs) k q=hR bs k+slp (cR bs) (hR bs) k*(q-cR bs k)∧0<cR bs (k+1)-cR bs k:=by
 obtain⟨a1,a2,a3,a4,a5,a6⟩:=Zeb h.conc' h.sizes.1 h.sizes.2 hk
 obtain⟨b1,b2,b3,b4,b5,b6⟩:=ZhQ h.conc' h.sizes.1 h.sizes.2 hq0 hz hk hp
 have l0:0≤lin bs.length (cR bs) (hR bs) k q:=by
  rw[b5]
  have:=h.conc'.h_nn (i:=k) (by omega)
  grind
 exact⟨ZJ a4 a1 (by decide) (by decide),ZJ (Rat.le_of_lt a3) a2 (by decide) (by decide),ZJ a5 a6 (by decide) (by decide),ZJ b1 b2 (by decide) (by decide),ZJ b3 b4 (by decide) (by decide),ZJ l0 b6 (by decide) (by decide),b5,a3⟩
theorem Zlv {bs:List BB} (h:CurveP bs) {k:Nat} (hk:k+1<bs.length):(∃ x y,IsP (hR bs (k+1)-hR bs k) x y)∧(∃ x y,IsP (cR bs (k+1)-cR bs k) x y)∧(∃ x y,IsP (slp (cR bs) (hR bs) k) x y)∧0<cR bs (k+1)-cR bs k:=by
 obtain⟨a1,a2,a3,a4,a5,a6⟩:=Zeb h.conc' h.sizes.1 h.sizes.2 hk
 exact⟨ZJ a4 a1 (by decide) (by decide),ZJ (Rat.le_of_lt a3) a2 (by decide) (by decide),ZJ a5 a6 (by decide) (by decide),a3⟩
def Zc2 (bs:List BB) (s t:ByteArray) (x y:ByteArray) (n:Int):Prop:=
 (¬ (CurveP bs∧Zk 300 (s,t)=true)∧x=⟨#[]⟩∧y=⟨#[]⟩∧n=2)∨((CurveP bs∧Zk 300 (s,t)=true)∧n=0∧∃ r,Zu bs.length (cR bs) (hR bs) (ratP s t) r∧IsP r x y)
def Zdd (bs:List BB) (s t:ByteArray) (x y:ByteArray) (n:Int):Prop:=
 (¬ (CurveP bs∧Zk 300 (s,t)=true)∧x=⟨#[]⟩∧y=⟨#[]⟩∧n=2)∨((CurveP bs∧Zk 300 (s,t)=true)∧n=0∧∃ r,Zbx bs.length (cR bs) (hR bs) (ratP s t) r∧IsP r x y)
def ZjB (bs:List BB) (s t:ByteArray) (x y:ByteArray) (n:Int):Prop:=
 (¬ (CurveP bs∧Zk 300 (s,t)=true)∧x=⟨#[]⟩∧y=⟨#[]⟩∧n=2)∨((CurveP bs∧Zk 300 (s,t)=true)∧hR bs (bs.length-1)<ratP s t∧x=⟨#[]⟩∧y=⟨#[]⟩∧n=7)∨
  ((CurveP bs∧Zk 300 (s,t)=true)∧ratP s t≤hR bs (bs.length-1)∧n=0∧∃ c,Zdo bs.length (cR bs) (hR bs) (ratP s t) c∧IsP c x y)
theorem Zbx.unique {n:Nat} {C H:Nat→Rat} {q r s:Rat} (h:Zbx n C H q r) (g:Zbx n C H q s):r=s:=by
 obtain⟨k,h1,h2⟩:=h
 obtain⟨m,g1,g2⟩:=g
 obtain rfl:=h1.unique g1
 rw[h2,g2]
theorem Zdo.unique {n:Nat} {C H:Nat→Rat} {p c d:Rat} (h:Conc n C H) (h1:Zdo n C H p c) (h2:Zdo n C H p d):c=d:=by
 rcases h1 with ⟨hp,rfl⟩ | ⟨i,hi,a1,a2,rfl⟩
 ·rcases h2 with ⟨_,rfl⟩ | ⟨j,hj,b1,b2,rfl⟩
  ·rfl
  ·have:=h.h_nn (i:=j) (by omega)
   grind
 ·rcases h2 with ⟨hp,rfl⟩ | ⟨j,hj,b1,b2,rfl⟩
  ·have:=h.h_nn (i:=i) (by omega)
   grind
  ·have e:i=j:=by
    rcases Nat.lt_trichotomy i j with hl | hl | hl
    ·have:=h.h_mono (i:=i+1) (j-(i+1)) (by omega)
     rw[Nat.add_sub_cancel' (by omega)] at this
     grind
    ·exact hl
    ·have:=h.h_mono (i:=j+1) (i-(j+1)) (by omega)
     rw[Nat.add_sub_cancel' (by omega)] at this
     grind
   subst e
   rfl
theorem Zaq {q r:Rat} {x y u v:ByteArray} (h:IsP q x y) (g:IsP r u v) (e:q=r):x=u∧y=v:=by
 subst e
 exact⟨by rw[h.num,g.num],by rw[h.den,g.den]⟩
theorem Zc2.det {bs:List BB} {s t x y u v:ByteArray} {n m:Int} (h:Zc2 bs s t x y n) (g:Zc2 bs s t u v m):x=u∧y=v∧n=m:=by
 rcases h with ⟨h,rfl,rfl,rfl⟩ | ⟨h,rfl,r,h1,h2⟩
 ·rcases g with ⟨_,rfl,rfl,rfl⟩ | ⟨g,_⟩
  ·exact⟨rfl,rfl,rfl⟩
  ·exact absurd g h
 ·rcases g with ⟨g,_⟩ | ⟨_,rfl,r',g1,g2⟩
  ·exact absurd h g
  ·obtain⟨e1,e2⟩:=Zaq h2 g2 (h1.unique g1)
   exact⟨e1,e2,rfl⟩
theorem Zdd.det {bs:List BB} {s t x y u v:ByteArray} {n m:Int} (h:Zdd bs s t x y n) (g:Zdd bs s t u v m):x=u∧y=v∧n=m:=by
 rcases h with ⟨h,rfl,rfl,rfl⟩ | ⟨h,rfl,r,h1,h2⟩
 ·rcases g with ⟨_,rfl,rfl,rfl⟩ | ⟨g,_⟩
  ·exact⟨rfl,rfl,rfl⟩
  ·exact absurd g h
 ·rcases g with ⟨g,_⟩ | ⟨_,rfl,r',g1,g2⟩
  ·exact absurd h g
  ·obtain⟨e1,e2⟩:=Zaq h2 g2 (h1.unique g1)
   exact⟨e1,e2,rfl⟩
theorem ZjB.det {bs:List BB} {s t x y u v:ByteArray} {n m:Int} (h:ZjB bs s t x y n) (g:ZjB bs s t u v m):x=u∧y=v∧n=m:=by
 rcases h with ⟨h,rfl,rfl,rfl⟩ | ⟨h,h0,rfl,rfl,rfl⟩ | ⟨h,h0,rfl,r,h1,h2⟩
 ·rcases g with ⟨_,rfl,rfl,rfl⟩ | ⟨g,_⟩ | ⟨g,_⟩
  ·exact⟨rfl,rfl,rfl⟩
  ·exact absurd g h
  ·exact absurd g h
 ·rcases g with ⟨g,_⟩ | ⟨_,_,rfl,rfl,rfl⟩ | ⟨_,g0,_⟩
  ·exact absurd h g
  ·exact⟨rfl,rfl,rfl⟩
  ·grind
 ·rcases g with ⟨g,_⟩ | ⟨_,g0,_⟩ | ⟨_,_,rfl,r',g1,g2⟩
  ·exact absurd h g
  ·grind
  ·obtain⟨e1,e2⟩:=Zaq h2 g2 (h1.unique h.1.conc' g1)
   exact⟨e1,e2,rfl⟩
def ZK (bs:List BB):List PP→List Rat→Prop
 | [],cs=>cs=[]
 | p::ps,cs=>∃ c r,cs=c::r∧Zu bs.length (cR bs) (hR bs) (ratP p.1 p.2) c∧ZK bs ps r
theorem ZbH {bs:List BB} (h:CurveP bs) (q:Rat):∃ c,Zu bs.length (cR bs) (hR bs) q c:=by
 have hl:=h.len
 obtain⟨k,hk⟩:=ZaX.exists (n:=bs.length) (C:=cR bs) q (bs.length-1) (by omega)
 rw[Nat.sub_add_cancel (by omega)] at hk
 exact⟨_,k,hk,rfl⟩
theorem ZK.exists {bs:List BB} (h:CurveP bs):∀ ps,∃ cs,ZK bs ps cs
 | []=>⟨[],rfl⟩
 | p::ps=>by
  obtain⟨c,hc⟩:=ZbH h (ratP p.1 p.2)
  obtain⟨r,hr⟩:=ZK.exists h ps
  exact⟨c::r,c,r,rfl,hc,hr⟩
theorem ZK.unique {bs:List BB} : ∀ {ps:List PP} {cs ds:List Rat},ZK bs ps cs→ZK bs ps ds→cs=ds
 | [],cs,ds,h,g=>by rw[show cs=[] from h,show ds=[] from g]
 | p::ps,cs,ds,h,g=>by
  obtain⟨c,r,rfl,h1,h2⟩:=h
  obtain⟨d,s,rfl,g1,g2⟩:=g
  rw[h1.unique g1,ZK.unique h2 g2]
theorem ZK.append {bs:List BB} : ∀ {ps qs:List PP} {cs ds:List Rat},ZK bs ps cs→ZK bs qs ds→ZK bs (ps++qs) (cs++ds)
 | [],qs,cs,ds,h,g=>by rw[show cs=[] from h];exact g
 | p::ps,qs,cs,ds,h,g=>by
  obtain⟨c,r,rfl,h1,h2⟩:=h
  exact⟨c,r++ds,rfl,h1,h2.append g⟩
theorem ZK.reverse {bs:List BB} : ∀ {ps:List PP} {cs:List Rat},ZK bs ps cs→ZK bs ps.reverse cs.reverse
 | [],cs,h=>by rw[show cs=[] from h];exact rfl
 | p::ps,cs,h=>by
  obtain⟨c,r,rfl,h1,h2⟩:=h
  rw[List.reverse_cons,List.reverse_cons]
  exact h2.reverse.append ⟨c,[],rfl,h1,rfl⟩
theorem ZK.range {bs:List BB} (hC:CurveP bs):∀ {ps:List PP} {cs:List Rat},ZK bs ps cs→∀ c ∈ cs,0≤c∧c≤1
 | [],cs,h,c,hc=>by rw[show cs=[] from h] at hc;cases hc
 | p::ps,cs,h,c,hc=>by
  obtain⟨d,r,rfl,h1,h2⟩:=h
  rcases List.mem_cons.1 hc with rfl | hc
  ·exact⟨h1.nn hC.conc' (Zca _ _),h1.top hC.conc'⟩
  ·exact h2.range hC c hc
def ZcV (a:Rat) (cs:List Rat) (x y:ByteArray) (n:Int):Prop:=(∃ r,ZdX a cs=some r∧IsP r x y∧n=0)∨(ZdX a cs=none∧x=⟨#[]⟩∧y=⟨#[]⟩∧n=4)
def ZhY (bs:List BB) (ps:List PP):Prop:=(CurveP bs∧ps.all (Zk 300)=true)∧ps.length≤512
def Zd0 (bs:List BB) (ps:List PP) (x y:ByteArray) (n:Int):Prop:=
 (¬ ZhY bs ps∧x=⟨#[]⟩∧y=⟨#[]⟩∧n=2)∨(ZhY bs ps∧∃ cs,ZK bs ps cs∧ZcV 1 cs x y n)
theorem ZcV.det {a:Rat} {cs:List Rat} {x y u v:ByteArray} {n m:Int} (h:ZcV a cs x y n) (g:ZcV a cs u v m):x=u∧y=v∧n=m:=by
 rcases h with ⟨r,h1,h2,rfl⟩ | ⟨h1,rfl,rfl,rfl⟩
 ·rcases g with ⟨s,g1,g2,rfl⟩ | ⟨g1,_⟩
  ·rw[h1] at g1
   obtain⟨e1,e2⟩:=Zaq h2 g2 (Option.some.inj g1)
   exact⟨e1,e2,rfl⟩
  ·rw[h1] at g1;cases g1
 ·rcases g with ⟨s,g1,_⟩ | ⟨_,rfl,rfl,rfl⟩
  ·rw[h1] at g1;cases g1
  ·exact⟨rfl,rfl,rfl⟩
theorem Zd0.det {bs:List BB} {ps:List PP} {x y u v:ByteArray} {n m:Int} (h:Zd0 bs ps x y n) (g:Zd0 bs ps u v m):x=u∧y=v∧n=m:=by
 rcases h with ⟨h,rfl,rfl,rfl⟩ | ⟨h,cs,h1,h2⟩
 ·rcases g with ⟨_,rfl,rfl,rfl⟩ | ⟨g,_⟩
  ·exact⟨rfl,rfl,rfl⟩
  ·exact absurd g h
 ·rcases g with ⟨g,_⟩ | ⟨_,ds,g1,g2⟩
  ·exact absurd h g
  ·rw[h1.unique g1] at h2
   exact h2.det g2
def ZcT (bs:List BB) (ps:List PP) (k:Nat) (a:Rat):Prop:=∀ x y n,(∃ cs,ZK bs (ps.drop k) cs∧ZcV a cs x y n)→∃ cs,ZK bs ps cs∧ZcV 1 cs x y n
theorem ZcT.zero (bs:List BB) (ps:List PP):ZcT bs ps 0 1:=fun _ _ _ h=>h
theorem Zhf {ps:List PP} {k:Nat} (hk:k<ps.length):ps.drop k=ps[k]::ps.drop (k+1):=(List.drop_eq_getElem_cons hk)
theorem ZcT.step {bs:List BB} {ps:List PP} {k:Nat} {a c:Rat} (h:ZcT bs ps k a) (hk:k<ps.length) (hc:Zu bs.length (cR bs) (hR bs) (ratP ps[k].1 ps[k].2) c) (hf:Fits (a*(1-c))):ZcT bs ps (k+1) (a*(1-c)):=by
 rintro x y n ⟨cs,h1,h2⟩
 refine h x y n ⟨c::cs,?_,?_⟩
 ·rw[Zhf hk]
  exact⟨c,cs,rfl,hc,h1⟩
 ·unfold ZcV ZdX
  rw[if_pos hf]
  exact h2
theorem ZcT.stop {bs:List BB} {ps:List PP} {k:Nat} {a c:Rat} (h:ZcT bs ps k a) (hC:CurveP bs) (hk:k<ps.length) (hc:Zu bs.length (cR bs) (hR bs) (ratP ps[k].1 ps[k].2) c) (hf:¬ Fits (a*(1-c))) :
  ∃ cs,ZK bs ps cs∧ZcV 1 cs ⟨#[]⟩ ⟨#[]⟩ 4:=by
 obtain⟨cs,h1⟩:=ZK.exists hC (ps.drop (k+1))
 refine h _ _ _ ⟨c::cs,?_,.inr ⟨?_,rfl,rfl,rfl⟩⟩
 ·rw[Zhf hk]
  exact⟨c,cs,rfl,hc,h1⟩
 ·unfold ZdX
  rw[if_neg hf]
theorem ZcT.done {bs:List BB} {ps:List PP} {a:Rat} (h:ZcT bs ps ps.length a) {x y:ByteArray} (hx:IsP a x y):∃ cs,ZK bs ps cs∧ZcV 1 cs x y 0:=by
 refine h x y 0 ⟨[],?_,.inl ⟨a,rfl,hx,rfl⟩⟩
 rw[List.drop_length]
 exact rfl
theorem Zd0.nums {bs:List BB} {ps:List PP} {x y:ByteArray} {n:Int} (h:Zd0 bs ps x y n):n=2∨n=0∨n=4:=by
 rcases h with ⟨_,_,_,h⟩ | ⟨_,cs,_,⟨_,_,_,h⟩ | ⟨_,_,_,h⟩⟩
 ·exact .inl h
 ·exact .inr (.inl h)
 ·exact .inr (.inr h)
theorem Zd0.fine {bs:List BB} {ps:List PP} {x y:ByteArray} (h:Zd0 bs ps x y 0):ZhY bs ps∧∃ cs,ZK bs ps cs∧IsP (Ze6 cs) x y:=by
 rcases h with ⟨_,_,_,h⟩ | ⟨h0,cs,h1,⟨r,h2,h3,_⟩ | ⟨_,_,_,h⟩⟩
 ·cases h
 ·refine⟨h0,cs,h1,?_⟩
  have e:=Zgg cs h2
  have e2:r=Ze6 cs:=by grind
  rwa [e2] at h3
 ·cases h
open Classical in
noncomputable def chF (bs:List BB) (q:Rat):Rat:=if h:∃ r,Zu bs.length (cR bs) (hR bs) q r then Classical.choose h else 0
theorem Zcy {bs:List BB} (h:CurveP bs) (q:Rat):Zu bs.length (cR bs) (hR bs) q (chF bs q):=by
 have hex:=ZbH h q
 unfold chF
 rw[dif_pos hex]
 exact Classical.choose_spec hex
theorem ZeW {bs:List BB} (h:CurveP bs) {q r:Rat} (hr:Zu bs.length (cR bs) (hR bs) q r):chF bs q=r:=(Zcy h q).unique hr
def rR (t:TaskP) (u i:Nat):Rat:=ratP (eR t u i).1 (eR t u i).2
def wR (t:TaskP) (i:Nat):Rat:=ratP (eS t i).weight.1 (eS t i).weight.2
def Zao (t:TaskP) (p:List (List Int)) (i:Nat):Nat→Rat
 | 0=>0
 | k+1=>Zao t p i k+rR t k i*((pN p k i:Int):Rat)
def covR (t:TaskP) (p:List (List Int)) (i:Nat):Rat:=Zao t p i p.length
def sumF (f:Nat→Rat):Nat→Rat
 | 0=>0
 | k+1=>sumF f k+f k
theorem Zb1 {f g:Nat→Rat} : ∀ {n:Nat},(∀ i,i<n→f i≤g i)→sumF f n≤sumF g n
 | 0,_=>Rat.le_refl
 | n+1,h=>by
  have h1:=Zb1 (f:=f) (g:=g) (n:=n) fun i hi=>h i (by omega)
  have h2:=h n (by omega)
  unfold sumF
  grind
theorem ZfD (f g:Nat→Rat):∀ n,sumF (fun i=>f i+g i) n=sumF f n+sumF g n
 | 0=>by unfold sumF;grind
 | n+1=>by
  have h:=ZfD f g n
  unfold sumF
  grind
theorem Zhe:∀ n,sumF (fun _=>0) n=0
 | 0=>rfl
 | n+1=>by
  have h:=Zhe n
  unfold sumF
  grind
theorem ZgX (f:Nat→Nat→Rat) (n:Nat):∀ m,sumF (fun i=>sumF (fun u=>f i u) m) n=sumF (fun u=>sumF (fun i=>f i u) n) m
 | 0=>by
  show sumF (fun _=>0) n=0
  exact Zhe n
 | m+1=>by
  have h:=ZgX f n m
  have e:(fun i=>sumF (fun u=>f i u) (m+1))=fun i=>sumF (fun u=>f i u) m+f i m:=rfl
  rw[e,ZfD,h]
  rfl
theorem ZfM (c:Rat) (f:Nat→Rat):∀ n,sumF (fun i=>c*f i) n=c*sumF f n
 | 0=>by unfold sumF;grind
 | n+1=>by
  have h:=ZfM c f n
  unfold sumF
  grind
theorem ZeJ (t:TaskP) (p:List (List Int)) (i:Nat):∀ k,Zao t p i k=sumF (fun u=>rR t u i*((pN p u i:Int):Rat)) k
 | 0=>rfl
 | k+1=>by
  have h:=ZeJ t p i k
  unfold Zao sumF
  rw[h]
theorem ZgP (p:List (List Int)) (u:Nat):∀ k,((ZI p u k:Int):Rat)=sumF (fun i=>((pN p u i:Int):Rat)) k
 | 0=>rfl
 | k+1=>by
  have h:=ZgP p u k
  unfold ZI sumF
  rw[← h,Rat.intCast_add]
theorem Zkg {bs:List BB} (hC:CurveP bs) {w lam s q:Rat} (hw:0≤w) (hl:0≤lam) (hs:∀ j,j<bs.length→w*hR bs j≤lam*cR bs j+s) (hq:0≤q):w*chF bs q≤lam*q+s:=by
 obtain⟨k,hk,hr⟩:=Zcy hC q
 rw[hr]
 have hlow:=hk.low hC.conc' hq
 by_cases hi:k+1<bs.length
 ·have h1:=hs k hk.1
  have h2:=hs (k+1) hi
  have hup:=hk.2.2 hi
  have d0:0<cR bs (k+1)-cR bs k:=by grind
  unfold lin slo
  rw[if_pos hi]
  obtain⟨th,hth⟩:∃ th,(q-cR bs k)/(cR bs (k+1)-cR bs k)=th:=⟨_,rfl⟩
  have e1:q-cR bs k=th*(cR bs (k+1)-cR bs k):=by rw[← hth];grind
  have t0:0≤th:=by
   rw[← hth]
   exact ZdS (by grind) (Rat.le_of_lt d0)
  have t1:th≤1:=by
   rcases(Rat.le_total:th≤1∨1≤th) with h | h
   ·exact h
   ·exfalso
    have:=Rat.mul_le_mul_of_nonneg_right h (Rat.le_of_lt d0)
    grind
  have e2:slp (cR bs) (hR bs) k*(q-cR bs k)=th*(hR bs (k+1)-hR bs k):=by
   have:=Zjg (C:=cR bs) (H:=hR bs) (i:=k) (by grind)
   rw[e1]
   grind
  rw[e2]
  have m1:=Rat.mul_le_mul_of_nonneg_left h1 (c:=1-th) (by grind)
  have m2:=Rat.mul_le_mul_of_nonneg_left h2 t0
  have e3:q=cR bs k+th*(cR bs (k+1)-cR bs k):=by grind
  rw[e3]
  grind
 ·have h1:=hs k hk.1
  unfold lin slo
  rw[if_neg hi]
  have m1:=Rat.mul_le_mul_of_nonneg_left hlow hl
  grind
theorem Zi1 {N T:Nat} {f s c lam p H:Nat→Rat} {rate n:Nat→Nat→Rat} (hc:∀ i,i<N→c i=sumF (fun u=>rate u i*n u i) T)
  (h1:∀ i,i<N→f i≤lam i*c i+s i) (h2:∀ u i,u<T→i<N→lam i*(rate u i*n u i)≤p u*n u i) (h3:∀ u,u<T→sumF (fun i=>n u i) N≤H u∧0≤p u) :
  sumF f N≤sumF (fun u=>p u*H u) T+sumF s N:=by
 have a1:sumF f N≤sumF (fun i=>lam i*c i+s i) N:=Zb1 h1
 rw[ZfD] at a1
 have a2:sumF (fun i=>lam i*c i) N≤sumF (fun i=>sumF (fun u=>p u*n u i) T) N:=Zb1 fun i hi=>by
  rw[hc i hi,← ZfM]
  exact Zb1 fun u hu=>h2 u i hu hi
 rw[ZgX] at a2
 have a3:sumF (fun u=>sumF (fun i=>p u*n u i) N) T≤sumF (fun u=>p u*H u) T:=Zb1 fun u hu=>by
  rw[ZfM]
  exact Rat.mul_le_mul_of_nonneg_left (h3 u hu).1 (h3 u hu).2
 grind
def marg (f:Nat→Nat→Rat) (i k:Nat):Rat:=f i (k+1)-f i k
def GInv (f:Nat→Nat→Rat) (n:Nat) (g:Nat→Nat):Prop:=∀ i j k,i<n→j<n→k<g i→marg f j (g j)≤marg f i k
theorem GInv.zero (f:Nat→Nat→Rat) (n:Nat):GInv f n (fun _=>0):=fun i j k _ _ h=>absurd h (Nat.not_lt_zero _)
theorem GInv.step {f:Nat→Nat→Rat} {n:Nat} {g:Nat→Nat} (hc:∀ i k,i<n→marg f i (k+1)≤marg f i k) (h:GInv f n g) {a:Nat} (ha:a<n) (hmax:∀ j,j<n→marg f j (g j)≤marg f a (g a)) :
  GInv f n (fun i=>if i=a then g i+1 else g i):=fun i j k hi hj hk=>by
 have h1:marg f j (if j=a then g j+1 else g j)≤marg f j (g j):=by
  split
  ·exact hc j _ hj
  ·exact Rat.le_refl
 refine Rat.le_trans h1 ?_
 by_cases e:i=a
 ·subst e
  simp only[if_true] at hk
  rcases Nat.lt_or_ge k (g i) with hlt | hge
  ·exact h i j k hi hj hlt
  ·obtain rfl:k=g i:=by omega
   exact hmax j hj
 ·simp only[if_neg e] at hk
  exact h i j k hi hj hk
def Made (s t x y:ByteArray) (e:Int):Prop:=
 ((ZW s.data.toList && ZW t.data.toList)=false∧x=str []∧y=str []∧e=2)∨
 ((ZW s.data.toList && ZW t.data.toList)=true∧Zg t.data.toList=0∧x=str []∧y=str []∧e=10)∨
 ((ZW s.data.toList && ZW t.data.toList)=true∧0<Zg t.data.toList∧Ans (ratP s t) x y e)
theorem Zl3 (s t:ByteArray) (w:World) (hs:s.size≤1000000) (ht:t.size≤1000000) (hT:Tabs w) :
  Calls Tryz.prog 159 #[.string s,.string t] w (ZE (Made s t) w):=by
 have HT:=Lib.hid hT
 clear hT
 cases h1:ZW s.data.toList
 ·have H1:=Lib.hid h1
  clear h1
  go_enter Tryz.func159,Tryz.ntmps159
  go_wp2_with fail
  obtain⟨w1,hw1⟩:∃ w1,w.alloc (.cells #[.string ⟨#[]⟩,.string ⟨#[]⟩] 41)=w1:=⟨_,rfl⟩
  rw[hw1]
  have HX1:Hid (Zh w.heap.size [.cells #[.string ⟨#[]⟩,.string ⟨#[]⟩] 41] w1):=by rw[← hw1];exact Zh.one w _
  have HB1:Hid (Below w.heap.size w w1):=by rw[← hw1];exact(Below.refl _ w).alloc (Nat.le_refl _) _
  clear hw1
  refine(Zai s _ hs).mono ?_
  rintro e w2 ⟨rfl,hb2⟩
  rw[H1.out]
  have HX2:=Lib.hid (HX1.out.below hb2 HX1.out.lt)
  have HB2:=Lib.hid (HB1.out.trans (hb2.mono HB1.out.size))
  clear hb2
  have r0:=HX2.out.cell 0 0 (b:=w.heap.size) rfl rfl rfl
  have r1:=HX2.out.cell 0 1 (b:=w.heap.size) rfl rfl rfl
  have f0:=HX2.out.free 0 0 (b:=w.heap.size) rfl rfl
  have f1:=HX2.out.free 0 1 (b:=w.heap.size) rfl rfl
  go_wp2
  have q:=Zf (HX2.out.block 0 (b:=w.heap.size) rfl rfl) (.string ⟨#[]⟩) (.string ⟨#[]⟩)
  have HBQ:=Lib.hid (Ze HB2.out (b:=w.heap.size) (by omega) (.string ⟨#[]⟩) (.string ⟨#[]⟩))
  obtain⟨w9,hw9⟩:∃ w9,(w2.setCell ⟨w.heap.size,0,none⟩ (.string ⟨#[]⟩)).setCell ⟨w.heap.size,1,none⟩ (.string ⟨#[]⟩)=w9:=⟨_,rfl⟩
  rw[hw9] at q HBQ
  obtain⟨q0,q1⟩:=q
  rw[hw9]
  clear r0 r1 f0 f1 hw9
  go_wp2
  refine bodyPost_ret (v:=.tuple #[.agg #[.string ⟨#[]⟩,.string ⟨#[]⟩],.int .i64 2]) (by simp[results,Tryz.f159,go_sem,q0,q1]) rfl ⟨_,_,_,rfl,?_,HBQ.out⟩
  exact .inl ⟨by rw[H1.out];rfl,rfl,rfl,rfl⟩
 ·have H1:=Lib.hid h1
  clear h1
  cases h2:ZW t.data.toList
  ·have H2:=Lib.hid h2
   clear h2
   go_enter Tryz.func159,Tryz.ntmps159
   go_wp2_with fail
   obtain⟨w1,hw1⟩:∃ w1,w.alloc (.cells #[.string ⟨#[]⟩,.string ⟨#[]⟩] 41)=w1:=⟨_,rfl⟩
   rw[hw1]
   have HX1:Hid (Zh w.heap.size [.cells #[.string ⟨#[]⟩,.string ⟨#[]⟩] 41] w1):=by rw[← hw1];exact Zh.one w _
   have HB1:Hid (Below w.heap.size w w1):=by rw[← hw1];exact(Below.refl _ w).alloc (Nat.le_refl _) _
   clear hw1
   refine(Zai s _ hs).mono ?_
   rintro e w2 ⟨rfl,hb2⟩
   rw[H1.out]
   have HX2:=Lib.hid (HX1.out.below hb2 HX1.out.lt)
   have HB2:=Lib.hid (HB1.out.trans (hb2.mono HB1.out.size))
   clear hb2
   go_wp2_with fail
   refine(Zai t _ ht).mono ?_
   rintro e w3 ⟨rfl,hb3⟩
   rw[H2.out]
   have HX3:=Lib.hid (HX2.out.below hb3 HX2.out.lt)
   have HB3:=Lib.hid (HB2.out.trans (hb3.mono HB2.out.size))
   clear hb3
   have r0:=HX3.out.cell 0 0 (b:=w.heap.size) rfl rfl rfl
   have r1:=HX3.out.cell 0 1 (b:=w.heap.size) rfl rfl rfl
   have f0:=HX3.out.free 0 0 (b:=w.heap.size) rfl rfl
   have f1:=HX3.out.free 0 1 (b:=w.heap.size) rfl rfl
   go_wp2
   have q:=Zf (HX3.out.block 0 (b:=w.heap.size) rfl rfl) (.string ⟨#[]⟩) (.string ⟨#[]⟩)
   have HBQ:=Lib.hid (Ze HB3.out (b:=w.heap.size) (by omega) (.string ⟨#[]⟩) (.string ⟨#[]⟩))
   obtain⟨w9,hw9⟩:∃ w9,(w3.setCell ⟨w.heap.size,0,none⟩ (.string ⟨#[]⟩)).setCell ⟨w.heap.size,1,none⟩ (.string ⟨#[]⟩)=w9:=⟨_,rfl⟩
   rw[hw9] at q HBQ
   obtain⟨q0,q1⟩:=q
   rw[hw9]
   clear r0 r1 f0 f1 hw9
   go_wp2
   refine bodyPost_ret (v:=.tuple #[.agg #[.string ⟨#[]⟩,.string ⟨#[]⟩],.int .i64 2]) (by simp[results,Tryz.f159,go_sem,q0,q1]) rfl ⟨_,_,_,rfl,?_,HBQ.out⟩
   exact .inl ⟨by rw[H2.out,Bool.and_false],rfl,rfl,rfl⟩
  ·have HZ:=Lib.hid (Zh9 h2)
   have H2:=Lib.hid h2
   clear h2
   have dl:t.toList=t.data.toList:=ByteArray.toList_eq ..
   by_cases h0:Zg t.data.toList=0
   ·have hz:(t.toList==[48])=true:=by
     rw[dl,HZ.out.2 h0];rfl
    have H0:=Lib.hid h0
    clear h0 dl
    go_enter Tryz.func159,Tryz.ntmps159
    go_wp2_with fail
    obtain⟨w1,hw1⟩:∃ w1,w.alloc (.cells #[.string ⟨#[]⟩,.string ⟨#[]⟩] 41)=w1:=⟨_,rfl⟩
    rw[hw1]
    have HX1:Hid (Zh w.heap.size [.cells #[.string ⟨#[]⟩,.string ⟨#[]⟩] 41] w1):=by rw[← hw1];exact Zh.one w _
    have HB1:Hid (Below w.heap.size w w1):=by rw[← hw1];exact(Below.refl _ w).alloc (Nat.le_refl _) _
    clear hw1
    refine(Zai s _ hs).mono ?_
    rintro e w2 ⟨rfl,hb2⟩
    rw[H1.out]
    have HX2:=Lib.hid (HX1.out.below hb2 HX1.out.lt)
    have HB2:=Lib.hid (HB1.out.trans (hb2.mono HB1.out.size))
    clear hb2
    go_wp2_with fail
    refine(Zai t _ ht).mono ?_
    rintro e w3 ⟨rfl,hb3⟩
    rw[H2.out]
    have HX3:=Lib.hid (HX2.out.below hb3 HX2.out.lt)
    have HB3:=Lib.hid (HB2.out.trans (hb3.mono HB2.out.size))
    clear hb3
    have r0:=HX3.out.cell 0 0 (b:=w.heap.size) rfl rfl rfl
    have r1:=HX3.out.cell 0 1 (b:=w.heap.size) rfl rfl rfl
    have f0:=HX3.out.free 0 0 (b:=w.heap.size) rfl rfl
    have f1:=HX3.out.free 0 1 (b:=w.heap.size) rfl rfl
    go_wp2
    have q:=Zf (HX3.out.block 0 (b:=w.heap.size) rfl rfl) (.string ⟨#[]⟩) (.string ⟨#[]⟩)
    have HBQ:=Lib.hid (Ze HB3.out (b:=w.heap.size) (by omega) (.string ⟨#[]⟩) (.string ⟨#[]⟩))
    obtain⟨w9,hw9⟩:∃ w9,(w3.setCell ⟨w.heap.size,0,none⟩ (.string ⟨#[]⟩)).setCell ⟨w.heap.size,1,none⟩ (.string ⟨#[]⟩)=w9:=⟨_,rfl⟩
    rw[hw9] at q HBQ
    obtain⟨q0,q1⟩:=q
    rw[hw9]
    clear r0 r1 f0 f1 hw9
    go_wp2
    refine bodyPost_ret (v:=.tuple #[.agg #[.string ⟨#[]⟩,.string ⟨#[]⟩],.int .i64 10]) (by simp[results,Tryz.f159,go_sem,q0,q1]) rfl ⟨_,_,_,rfl,?_,HBQ.out⟩
    exact .inr (.inl ⟨by rw[H1.out,H2.out];rfl,H0.out,rfl,rfl,rfl⟩)
   ·have hz:(t.toList==[48])=false:=by
     rw[beq_eq_false_iff_ne,dl]
     intro hc
     refine h0 (HZ.out.1 ?_)
     rw[← Zbe t,hc];rfl
    have H0:=Lib.hid h0
    clear h0 dl
    obtain⟨cs1,cs2⟩:=Z1 H1.out
    obtain⟨ct1,ct2⟩:=Z1 H2.out
    have hls:=ZbF cs1.dig (j:=70) (by rw[← Zs];omega)
    have hlt:=ZbF ct1.dig (j:=70) (by rw[← Zs];omega)
    have HDS:=Lib.hid cs1.dig
    have HDT:=Lib.hid ct1.dig
    clear cs1 cs2 ct1 ct2
    go_enter Tryz.func159,Tryz.ntmps159
    go_wp2_with fail
    obtain⟨w1,hw1⟩:∃ w1,w.alloc (.cells #[.string ⟨#[]⟩,.string ⟨#[]⟩] 41)=w1:=⟨_,rfl⟩
    rw[hw1]
    have HX1:Hid (Zh w.heap.size [.cells #[.string ⟨#[]⟩,.string ⟨#[]⟩] 41] w1):=by rw[← hw1];exact Zh.one w _
    have HB1:Hid (Below w.heap.size w w1):=by rw[← hw1];exact(Below.refl _ w).alloc (Nat.le_refl _) _
    clear hw1
    refine(Zai s _ hs).mono ?_
    rintro e w2 ⟨rfl,hb2⟩
    rw[H1.out]
    have HX2:=Lib.hid (HX1.out.below hb2 HX1.out.lt)
    have HB2:=Lib.hid (HB1.out.trans (hb2.mono HB1.out.size))
    clear hb2
    go_wp2_with fail
    refine(Zai t _ ht).mono ?_
    rintro e w3 ⟨rfl,hb3⟩
    rw[H2.out]
    have HX3:=Lib.hid (HX2.out.below hb3 HX2.out.lt)
    have HB3:=Lib.hid (HB2.out.trans (hb3.mono HB2.out.size))
    clear hb3
    go_wp2_with fail
    refine(Zgk s hs HDS.out _).mono ?_
    rintro e w4 ⟨vn,rfl,hN,hb4⟩
    obtain⟨pn,ln,cn,rfl⟩:=hN.form'
    have HN4:=Lib.hid hN
    have HX4:=Lib.hid (HX3.out.below hb4 HX3.out.lt)
    have HB4:=Lib.hid (HB3.out.trans (hb4.mono HB3.out.size))
    clear hN hb4
    go_wp2_with fail
    refine(Zgk t ht HDT.out _).mono ?_
    rintro e w5 ⟨vd,rfl,hD,hb5⟩
    obtain⟨pd,ld,cd,rfl⟩:=hD.form'
    have HD5:=Lib.hid hD
    have HN5:=Lib.hid (HN4.out.after hb5 (Nat.le_refl _))
    have HX5:=Lib.hid (HX4.out.below hb5 HX4.out.lt)
    have HB5:=Lib.hid (HB4.out.trans (hb5.mono HB4.out.size))
    clear hD hb5
    go_wp2_with fail
    refine(Zdh HN5.out HD5.out (by omega) (by omega) (by have:=H0.out;omega) (HT.out.below HB5.out (Nat.le_refl _))).mono ?_
    rintro e w6 ⟨x,y,n,rfl,hR,hb6⟩
    have HR:=Lib.hid hR
    have HX6:=Lib.hid (HX5.out.below hb6 HX5.out.lt)
    have HB6:=Lib.hid (HB5.out.trans (hb6.mono HB5.out.size))
    clear hR hb6
    have r0:=HX6.out.cell 0 0 (b:=w.heap.size) rfl rfl rfl
    have r1:=HX6.out.cell 0 1 (b:=w.heap.size) rfl rfl rfl
    have f0:=HX6.out.free 0 0 (b:=w.heap.size) rfl rfl
    have f1:=HX6.out.free 0 1 (b:=w.heap.size) rfl rfl
    go_wp2
    have q:=Zf (HX6.out.block 0 (b:=w.heap.size) rfl rfl) (.string x) (.string y)
    have HBQ:=Lib.hid (Ze HB6.out (b:=w.heap.size) (by omega) (.string x) (.string y))
    obtain⟨w9,hw9⟩:∃ w9,(w6.setCell ⟨w.heap.size,0,none⟩ (.string x)).setCell ⟨w.heap.size,1,none⟩ (.string y)=w9:=⟨_,rfl⟩
    rw[hw9] at q HBQ
    obtain⟨q0,q1⟩:=q
    rw[hw9]
    clear r0 r1 f0 f1 hw9
    go_wp2
    refine bodyPost_ret (v:=.tuple #[.agg #[.string x,.string y],.int .i64 n]) (by simp[results,Tryz.f159,go_sem,q0,q1]) rfl ⟨_,_,_,rfl,?_,HBQ.out⟩
    exact .inr (.inr ⟨by rw[H1.out,H2.out];rfl,by have:=H0.out;omega,HR.out⟩)
def ZmU (n:Int) (w:World) (e:Ending) (w':World):Prop:=
 ∃ s r,e=.returned (.tuple #[.string s,.int .i64 r])∧((n<0∧s=str []∧r=11)∨(0≤n∧s=str (Lib.decDigits n.toNat)∧r=0))∧Below w.heap.size w w'
theorem Zi6 {n:Int} (h:0≤n):Lib.itoa n=Lib.decDigits n.toNat:=by
 unfold Lib.itoa
 rw[if_neg (by omega)]
theorem ZgW (n:Int) (h0 : -9223372036854775808≤n) (h1:n≤9223372036854775807) (w:World) (hT:Tabs w) :
  Calls Tryz.prog 158 #[.int .i64 n] w (ZmU n w):=by
 have HI:=Lib.hid (Tryz.strconv_Itoa n h0 h1 w hT)
 have HT:=Lib.hid hT
 have H01:=Lib.hid (And.intro h0 h1)
 clear hT h0 h1
 by_cases hn:n<0
 ·go_enter Tryz.func158,Tryz.ntmps158
  go_wp2
  go_ret2
  exact⟨_,_,rfl,.inl ⟨hn,rfl,rfl⟩,Below.refl _ _⟩
 ·go_enter Tryz.func158,Tryz.ntmps158
  go_wp2_with fail
  refine HI.out.mono ?_
  rintro e w2 ⟨rfl,k,os,hw⟩
  have HB:Hid (Below w.heap.size w w2):=by rw[hw];exact Lib.below_grow _ _ (Nat.le_refl _) _ _
  clear hw
  obtain⟨s,hs⟩:∃ s,(⟨(Lib.itoa n).toArray⟩:ByteArray)=s:=⟨_,rfl⟩
  rw[hs]
  have HS:Hid (s=str (Lib.decDigits n.toNat)):=by show _=_;rw[← hs,Zi6 (by omega)];rfl
  clear hs
  go_wp2
  go_ret2
  exact⟨_,_,rfl,.inr ⟨by omega,HS.out,rfl⟩,HB.out⟩
def Zlu (a b:Int) (x y:ByteArray) (e:Int):Prop:=
 ((a<0∨b<0)∧x=str []∧y=str []∧e=11)∨(0≤a∧b=0∧x=str []∧y=str []∧e=10)∨(0≤a∧0<b∧Ans (mkRat (a.toNat:Nat) b.toNat) x y e)
theorem Zeu {n:Nat} (h:(Lib.decDigits n).length≤600):ZW (Lib.decDigits n)=true:=Zco (Zce n) h
theorem Ziz {a b:Nat} (ha:(Lib.decDigits a).length≤600) (hb:(Lib.decDigits b).length≤600) {x y:ByteArray} {e:Int} (h:Made (str (Lib.decDigits a)) (str (Lib.decDigits b)) x y e) :
  (b=0∧x=str []∧y=str []∧e=10)∨(0<b∧Ans (mkRat (a:Nat) b) x y e):=by
 unfold Made ratP at h
 rw[Za5,Za5,Zeu ha,Zeu hb,Zaa,Zaa] at h
 rcases h with ⟨h,_⟩ | ⟨_,h0,h1,h2,h3⟩ | ⟨_,h0,h1⟩
 ·cases h
 ·exact .inl ⟨h0,h1,h2,h3⟩
 ·exact .inr ⟨h0,h1⟩
theorem Ze4 {n:Int} (h:n≤9223372036854775807):(Lib.decDigits n.toNat).length≤600:=Nat.le_trans (ZH (k:=20) (by omega) (by omega)) (by omega)
theorem ZkB {a b:Int} (h0:0≤a) (h1:0≤b) (ha:a≤9223372036854775807) (hb:b≤9223372036854775807) {s t x y:ByteArray} {e:Int} (hs:s=str (Lib.decDigits a.toNat)) (ht:t=str (Lib.decDigits b.toNat)) (h:Made s t x y e):Zlu a b x y e:=by
 subst hs;subst ht
 rcases Ziz (Ze4 ha) (Ze4 hb) h with ⟨k1,k2,k3,k4⟩ | ⟨k1,k2⟩
 ·exact .inr (.inl ⟨h0,by omega,k2,k3,k4⟩)
 ·exact .inr (.inr ⟨h0,by omega,k2⟩)
theorem Zg8 (a b:Int) (ha0 : -9223372036854775808≤a) (ha1:a≤9223372036854775807) (hb0 : -9223372036854775808≤b) (hb1:b≤9223372036854775807) (w:World) (hT:Tabs w) :
  Calls Tryz.prog 107 #[.int .i64 a,.int .i64 b] w (ZE (Zlu a b) w):=by
 have HT:=Lib.hid hT
 clear hT
 go_enter Tryz.func107,Tryz.ntmps107
 go_wp2_with fail
 obtain⟨w1,hw1⟩:∃ w1,w.alloc (.cells #[.string ⟨#[]⟩,.string ⟨#[]⟩] 41)=w1:=⟨_,rfl⟩
 rw[hw1]
 have HX1:Hid (Zh w.heap.size [.cells #[.string ⟨#[]⟩,.string ⟨#[]⟩] 41] w1):=by rw[← hw1];exact Zh.one w _
 have HB1:Hid (Below w.heap.size w w1):=by rw[← hw1];exact(Below.refl _ w).alloc (Nat.le_refl _) _
 clear hw1
 refine(ZgW a ha0 ha1 _ (HT.out.below HB1.out (Nat.le_refl _))).mono ?_
 rintro e w2 ⟨s,r1,rfl,hR1,hb2⟩
 have HX2:=Lib.hid (HX1.out.below hb2 HX1.out.lt)
 have HB2:=Lib.hid (HB1.out.trans (hb2.mono HB1.out.size))
 have HR1:=Lib.hid hR1
 clear hb2 hR1
 go_wp2_with fail
 refine(ZgW b hb0 hb1 _ (HT.out.below HB2.out (Nat.le_refl _))).mono ?_
 rintro e w3 ⟨t,r2,rfl,hR2,hb3⟩
 have HX3:=Lib.hid (HX2.out.below hb3 HX2.out.lt)
 have HB3:=Lib.hid (HB2.out.trans (hb3.mono HB2.out.size))
 have HR2:=Lib.hid hR2
 clear hb3 hR2
 by_cases hneg:a<0∨b<0
 ·
  have r0:=HX3.out.cell 0 0 (b:=w.heap.size) rfl rfl rfl
  have r1:=HX3.out.cell 0 1 (b:=w.heap.size) rfl rfl rfl
  have f0:=HX3.out.free 0 0 (b:=w.heap.size) rfl rfl
  have f1:=HX3.out.free 0 1 (b:=w.heap.size) rfl rfl
  rcases HR1.out with ⟨k1,k2,rfl⟩ | ⟨k1,k2,rfl⟩
  ·clear k1 k2
   go_wp2
   have q:=Zf (HX3.out.block 0 (b:=w.heap.size) rfl rfl) (.string ⟨#[]⟩) (.string ⟨#[]⟩)
   have HBQ:=Lib.hid (Ze HB3.out (b:=w.heap.size) (by omega) (.string ⟨#[]⟩) (.string ⟨#[]⟩))
   obtain⟨w9,hw9⟩:∃ w9,(w3.setCell ⟨w.heap.size,0,none⟩ (.string ⟨#[]⟩)).setCell ⟨w.heap.size,1,none⟩ (.string ⟨#[]⟩)=w9:=⟨_,rfl⟩
   rw[hw9] at q HBQ
   obtain⟨q0,q1⟩:=q
   rw[hw9]
   clear r0 r1 f0 f1 hw9
   go_wp2
   refine bodyPost_ret (v:=.tuple #[.agg #[.string ⟨#[]⟩,.string ⟨#[]⟩],.int .i64 11]) (by simp[results,Tryz.f107,go_sem,q0,q1]) rfl ⟨_,_,_,rfl,?_,HBQ.out⟩
   exact .inl ⟨hneg,rfl,rfl,rfl⟩
  ·rcases HR2.out with ⟨m1,m2,rfl⟩ | ⟨m1,m2,rfl⟩
   ·clear k1 k2 m1 m2
    go_wp2
    have q:=Zf (HX3.out.block 0 (b:=w.heap.size) rfl rfl) (.string ⟨#[]⟩) (.string ⟨#[]⟩)
    have HBQ:=Lib.hid (Ze HB3.out (b:=w.heap.size) (by omega) (.string ⟨#[]⟩) (.string ⟨#[]⟩))
    obtain⟨w9,hw9⟩:∃ w9,(w3.setCell ⟨w.heap.size,0,none⟩ (.string ⟨#[]⟩)).setCell ⟨w.heap.size,1,none⟩ (.string ⟨#[]⟩)=w9:=⟨_,rfl⟩
    rw[hw9] at q HBQ
    obtain⟨q0,q1⟩:=q
    rw[hw9]
    clear r0 r1 f0 f1 hw9
    go_wp2
    refine bodyPost_ret (v:=.tuple #[.agg #[.string ⟨#[]⟩,.string ⟨#[]⟩],.int .i64 11]) (by simp[results,Tryz.f107,go_sem,q0,q1]) rfl ⟨_,_,_,rfl,?_,HBQ.out⟩
    exact .inl ⟨hneg,rfl,rfl,rfl⟩
   ·exfalso;omega
 ·have hz:r1=0∧r2=0∧Hid (s=str (Lib.decDigits a.toNat))∧Hid (t=str (Lib.decDigits b.toNat))∧0≤a∧0≤b:=by
   rcases HR1.out with ⟨k1,k2,k3⟩ | ⟨k1,k2,k3⟩
   ·omega
   ·rcases HR2.out with ⟨m1,m2,m3⟩ | ⟨m1,m2,m3⟩
    ·omega
    ·exact⟨k3,m3,k2,m2,k1,m1⟩
  obtain⟨rfl,rfl,HS,HU,ka,kb⟩:=hz
  have hs:s.size≤1000000:=by rw[HS.out,ZaF];exact Nat.le_trans (Ze4 ha1) (by omega)
  have ht:t.size≤1000000:=by rw[HU.out,ZaF];exact Nat.le_trans (Ze4 hb1) (by omega)
  clear hneg
  go_wp2_with fail
  refine(Zl3 s t _ hs ht (HT.out.below HB3.out (Nat.le_refl _))).mono ?_
  rintro e w4 ⟨x,y,n,rfl,hR,hb4⟩
  have HR:=Lib.hid hR
  have HX4:=Lib.hid (HX3.out.below hb4 HX3.out.lt)
  have HB4:=Lib.hid (HB3.out.trans (hb4.mono HB3.out.size))
  clear hR hb4
  have r0:=HX4.out.cell 0 0 (b:=w.heap.size) rfl rfl rfl
  have r1:=HX4.out.cell 0 1 (b:=w.heap.size) rfl rfl rfl
  have f0:=HX4.out.free 0 0 (b:=w.heap.size) rfl rfl
  have f1:=HX4.out.free 0 1 (b:=w.heap.size) rfl rfl
  go_wp2
  have q:=Zf (HX4.out.block 0 (b:=w.heap.size) rfl rfl) (.string x) (.string y)
  have HBQ:=Lib.hid (Ze HB4.out (b:=w.heap.size) (by omega) (.string x) (.string y))
  obtain⟨w9,hw9⟩:∃ w9,(w4.setCell ⟨w.heap.size,0,none⟩ (.string x)).setCell ⟨w.heap.size,1,none⟩ (.string y)=w9:=⟨_,rfl⟩
  rw[hw9] at q HBQ
  obtain⟨q0,q1⟩:=q
  rw[hw9]
  clear r0 r1 f0 f1 hw9
  go_wp2
  refine bodyPost_ret (v:=.tuple #[.agg #[.string x,.string y],.int .i64 n]) (by simp[results,Tryz.f107,go_sem,q0,q1]) rfl ⟨_,_,_,rfl,?_,HBQ.out⟩
  exact ZkB ka kb ha1 hb1 HS.out HU.out HR.out
end Go.Proofs.YtmpaflidennnoaaGreatDoor
