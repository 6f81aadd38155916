/- The parts Upto, Chances, MissL, EffM, EffG, Made, Ratio, Vals of a proof, put together by program (merge7.py). -/
import Derived.Test.YtmpaflidennnoaaGreatDoorH10
import Derived.Test.YtmpaflidennnoaaGreatDoorH08
import Derived.Test.YtmpaflidennnoaaGreatDoorH02
set_option maxRecDepth 100000
set_option maxHeartbeats 4000000
set_option linter.unusedVariables false
set_option linter.unusedSimpArgs false
namespace Go.Proofs.YtmpaflidennnoaaGreatDoor
open Go.RowKit Go.Shelf
structure Upto (bs:List BB) (k:Nat):Prop where
 small:∀ i,i<k→Zm 18 (bAt bs i).1=true∧Zm 18 (bAt bs i).2=true
 top:∀ i,i<k→hR bs i≤1
 up:∀ i,i+1<k→cR bs i<cR bs (i+1)∧hR bs i≤hR bs (i+1)
 conc:∀ i,i+2<k→slp (cR bs) (hR bs) (i+1)≤slp (cR bs) (hR bs) i
theorem Upto.zero (bs:List BB):Upto bs 0:=⟨fun i h=>by omega,fun i h=>by omega,fun i h=>by omega,fun i h=>by omega⟩
theorem Upto.mono {bs:List BB} {k m:Nat} (h:Upto bs k) (hm:m≤k):Upto bs m:=
 ⟨fun i hi=>h.small i (by omega),fun i hi=>h.top i (by omega),fun i hi=>h.up i (by omega),fun i hi=>h.conc i (by omega)⟩
theorem Upto.succ {bs:List BB} {k:Nat} (h:Upto bs k) (h1:Zm 18 (bAt bs k).1=true∧Zm 18 (bAt bs k).2=true) (h2:hR bs k≤1)
  (h3:∀ i,i+1=k→cR bs i<cR bs (i+1)∧hR bs i≤hR bs (i+1)) (h4:∀ i,i+2=k→slp (cR bs) (hR bs) (i+1)≤slp (cR bs) (hR bs) i):Upto bs (k+1):=by
 refine⟨fun i hi=>?_,fun i hi=>?_,fun i hi=>?_,fun i hi=>?_⟩
 ·by_cases e:i=k
  ·subst e;exact h1
  ·exact h.small i (by omega)
 ·by_cases e:i=k
  ·subst e;exact h2
  ·exact h.top i (by omega)
 ·by_cases e:i+1=k
  ·exact h3 i e
  ·exact h.up i (by omega)
 ·by_cases e:i+2=k
  ·exact h4 i e
  ·exact h.conc i (by omega)
theorem Upto.curve {bs:List BB} (h:Upto bs bs.length) (hl:2≤bs.length∧bs.length≤64) (hf:bAt bs 0=Zc9):CurveP bs:=⟨hl,hf,h.small,h.top,h.up,h.conc⟩
structure Pieces (bs:List BB) (k:Nat):Prop where
 up:∀ i,i<k→cR bs i<cR bs (i+1)∧hR bs i≤hR bs (i+1)
 conc:∀ i,i+1<k→slp (cR bs) (hR bs) (i+1)≤slp (cR bs) (hR bs) i
theorem Pieces.zero (bs:List BB):Pieces bs 0:=⟨fun i h=>by omega,fun i h=>by omega⟩
theorem Pieces.succ {bs:List BB} {k:Nat} (h:Pieces bs k) (h1:cR bs k<cR bs (k+1)∧hR bs k≤hR bs (k+1)) (h2:∀ i,i+1=k→slp (cR bs) (hR bs) (i+1)≤slp (cR bs) (hR bs) i):Pieces bs (k+1):=by
 refine⟨fun i hi=>?_,fun i hi=>?_⟩
 ·by_cases e:i=k
  ·subst e;exact h1
  ·exact h.up i (by omega)
 ·by_cases e:i+1=k
  ·exact h2 i e
  ·exact h.conc i (by omega)
theorem Pieces.rise {bs:List BB} {k:Nat} (h:Pieces bs k) {i:Nat} : ∀ d,i+d≤k→hR bs i≤hR bs (i+d)
 | 0,_=>Rat.le_refl
 | d+1,hd=>Rat.le_trans (h.rise d (by omega)) (h.up (i+d) (by omega)).2
theorem Pieces.curve {bs:List BB} {m:Nat} (h:Pieces bs m) (hm:bs.length=m+1) (hl:2≤bs.length∧bs.length≤64) (hf:bAt bs 0=Zc9)
  (hs:∀ i,i<bs.length→Zm 18 (bAt bs i).1=true∧Zm 18 (bAt bs i).2=true) (ht:hR bs m≤1):CurveP bs:=by
 refine⟨hl,hf,hs,fun i hi=>?_,fun i hi=>h.up i (by omega),fun i hi=>h.conc i (by omega)⟩
 have:=h.rise (i:=i) (m-i) (by omega)
 rw[Nat.add_sub_cancel' (by omega)] at this
 exact Rat.le_trans this ht
theorem CurveP.pieces {bs:List BB} (h:CurveP bs) {m:Nat} (hm:bs.length=m+1):Pieces bs m:=⟨fun i hi=>h.up i (by omega),fun i hi=>h.conc i (by omega)⟩
theorem Za9 {k:Nat} {p:PP} (h:Zm k p=true):IsP (ratP p.1 p.2) p.1 p.2∧Sz k (ratP p.1 p.2):=by
 obtain⟨h1,h2,h3⟩:=Zaj.1 h
 have:=ZaA h3
 exact⟨this,this.sz h1 h2⟩
theorem ZL {q:Rat} {k:Nat} (h0:0≤q) (h:Sz k q) (hk:0<k) (hk2:k≤600):∃ x y,IsP q x y:=⟨_,_,h0,rfl,rfl,h.fits hk hk2⟩
theorem ZlS {a b c d:Rat} (ha:0≤a) (hc:0≤c) (h1:c<d) (h2:a≤b) (sa:Sz 18 a) (sb:Sz 18 b) (sc:Sz 18 c) (sd:Sz 18 d) :
  (∃ x y,IsP (b-a) x y)∧(∃ x y,IsP (d-c) x y)∧(∃ x y,IsP ((b-a)/(d-c)) x y)∧0<d-c∧0≤(b-a)/(d-c)∧Sz 72 ((b-a)/(d-c)):=by
 have z1:=Sz.sub (a:=b) (b:=a) (by grind) ha h2 sb sa
 have z2:=Sz.sub (a:=d) (b:=c) (by grind) hc (Rat.le_of_lt h1) sd sc
 have p:0<d-c:=by grind
 have q:0≤b-a:=by grind
 have z3:=Sz.div q p z1 z2
 have r:=ZdZ q (Rat.le_of_lt p)
 exact⟨ZL q z1 (by decide) (by decide),ZL (Rat.le_of_lt p) z2 (by decide) (by decide),ZL r z3 (by decide) (by decide),p,r,z3⟩
theorem CurveP.sizes {bs:List BB} (h:CurveP bs):(∀ i,i<bs.length→Sz 18 (cR bs i))∧∀ i,i<bs.length→Sz 18 (hR bs i):=⟨fun _ hi=>(h.isC hi).2,fun _ hi=>(h.isH hi).2⟩
theorem Zh7 {bs:List BB} {q:Rat} {k:Nat} (h:CurveP bs) (hq0:0≤q) (hz:Sz 300 q) (hp:Za2 bs.length (cR bs) q k) (hk:k+1<bs.length) :
  (∃ x y,IsP (hR bs (k+1)-hR bs k) x y)∧(∃ x y,IsP (cR bs (k+1)-cR bs k) x y)∧(∃ x y,IsP (slp (cR bs) (hR bs) k) x y)∧(∃ x y,IsP (q-cR bs k) x y)∧
   (∃ x y,IsP (slp (cR bs) (hR bs) k*(q-cR bs k)) x y)∧(∃ x y,IsP (lin bs.length (cR bs) (hR bs) k q) x y)∧
   lin bs.length (cR bs) (hR bs) k q=hR bs k+slp (cR bs) (hR bs) k*(q-cR bs k)∧0<cR bs (k+1)-cR bs k:=by
 obtain⟨a1,a2,a3,a4,a5,a6⟩:=Zd9 h.conc' h.sizes.1 h.sizes.2 hk
 obtain⟨b1,b2,b3,b4,b5,b6⟩:=Zh2 h.conc' h.sizes.1 h.sizes.2 hq0 hz hk hp
 have l0:0≤lin bs.length (cR bs) (hR bs) k q:=by
  rw[b5]
  have:=h.conc'.h_nn (i:=k) (by omega)
  grind
 exact⟨ZL a4 a1 (by decide) (by decide),ZL (Rat.le_of_lt a3) a2 (by decide) (by decide),ZL a5 a6 (by decide) (by decide),ZL b1 b2 (by decide) (by decide),ZL b3 b4 (by decide) (by decide),ZL l0 b6 (by decide) (by decide),b5,a3⟩
theorem Zln {bs:List BB} (h:CurveP bs) {k:Nat} (hk:k+1<bs.length):(∃ x y,IsP (hR bs (k+1)-hR bs k) x y)∧(∃ x y,IsP (cR bs (k+1)-cR bs k) x y)∧(∃ x y,IsP (slp (cR bs) (hR bs) k) x y)∧0<cR bs (k+1)-cR bs k:=by
 obtain⟨a1,a2,a3,a4,a5,a6⟩:=Zd9 h.conc' h.sizes.1 h.sizes.2 hk
 exact⟨ZL a4 a1 (by decide) (by decide),ZL (Rat.le_of_lt a3) a2 (by decide) (by decide),ZL a5 a6 (by decide) (by decide),a3⟩
def Zdf (bs:List BB) (s t:ByteArray) (x y:ByteArray) (n:Int):Prop:=
 (¬ (CurveP bs∧Zm 300 (s,t)=true)∧x=⟨#[]⟩∧y=⟨#[]⟩∧n=2)∨((CurveP bs∧Zm 300 (s,t)=true)∧n=0∧∃ r,Zv bs.length (cR bs) (hR bs) (ratP s t) r∧IsP r x y)
def Zdu (bs:List BB) (s t:ByteArray) (x y:ByteArray) (n:Int):Prop:=
 (¬ (CurveP bs∧Zm 300 (s,t)=true)∧x=⟨#[]⟩∧y=⟨#[]⟩∧n=2)∨((CurveP bs∧Zm 300 (s,t)=true)∧n=0∧∃ r,Zbx bs.length (cR bs) (hR bs) (ratP s t) r∧IsP r x y)
def ZjP (bs:List BB) (s t:ByteArray) (x y:ByteArray) (n:Int):Prop:=
 (¬ (CurveP bs∧Zm 300 (s,t)=true)∧x=⟨#[]⟩∧y=⟨#[]⟩∧n=2)∨((CurveP bs∧Zm 300 (s,t)=true)∧hR bs (bs.length-1)<ratP s t∧x=⟨#[]⟩∧y=⟨#[]⟩∧n=7)∨
  ((CurveP bs∧Zm 300 (s,t)=true)∧ratP s t≤hR bs (bs.length-1)∧n=0∧∃ c,ZdC bs.length (cR bs) (hR bs) (ratP s t) c∧IsP c x y)
theorem Zbx.unique {n:Nat} {C H:Nat→Rat} {q r s:Rat} (h:Zbx n C H q r) (g:Zbx n C H q s):r=s:=by
 obtain⟨k,h1,h2⟩:=h
 obtain⟨m,g1,g2⟩:=g
 obtain rfl:=h1.unique g1
 rw[h2,g2]
theorem ZdC.unique {n:Nat} {C H:Nat→Rat} {p c d:Rat} (h:Conc n C H) (h1:ZdC n C H p c) (h2:ZdC n C H p d):c=d:=by
 rcases h1 with ⟨hp,rfl⟩ | ⟨i,hi,a1,a2,rfl⟩
 ·rcases h2 with ⟨_,rfl⟩ | ⟨j,hj,b1,b2,rfl⟩
  ·rfl
  ·have:=h.h_nn (i:=j) (by omega)
   grind
 ·rcases h2 with ⟨hp,rfl⟩ | ⟨j,hj,b1,b2,rfl⟩
  ·have:=h.h_nn (i:=i) (by omega)
   grind
  ·have e:i=j:=by
    rcases Nat.lt_trichotomy i j with hl | hl | hl
    ·have:=h.h_mono (i:=i+1) (j-(i+1)) (by omega)
     rw[Nat.add_sub_cancel' (by omega)] at this
     grind
    ·exact hl
    ·have:=h.h_mono (i:=j+1) (i-(j+1)) (by omega)
     rw[Nat.add_sub_cancel' (by omega)] at this
     grind
   subst e
   rfl
theorem Z5 {q r:Rat} {x y u v:ByteArray} (h:IsP q x y) (g:IsP r u v) (e:q=r):x=u∧y=v:=by
 subst e
 exact⟨by rw[h.num,g.num],by rw[h.den,g.den]⟩
theorem Zdf.det {bs:List BB} {s t x y u v:ByteArray} {n m:Int} (h:Zdf bs s t x y n) (g:Zdf bs s t u v m):x=u∧y=v∧n=m:=by
 rcases h with ⟨h,rfl,rfl,rfl⟩ | ⟨h,rfl,r,h1,h2⟩
 ·rcases g with ⟨_,rfl,rfl,rfl⟩ | ⟨g,_⟩
  ·exact⟨rfl,rfl,rfl⟩
  ·exact absurd g h
 ·rcases g with ⟨g,_⟩ | ⟨_,rfl,r',g1,g2⟩
  ·exact absurd h g
  ·obtain⟨e1,e2⟩:=Z5 h2 g2 (h1.unique g1)
   exact⟨e1,e2,rfl⟩
theorem Zdu.det {bs:List BB} {s t x y u v:ByteArray} {n m:Int} (h:Zdu bs s t x y n) (g:Zdu bs s t u v m):x=u∧y=v∧n=m:=by
 rcases h with ⟨h,rfl,rfl,rfl⟩ | ⟨h,rfl,r,h1,h2⟩
 ·rcases g with ⟨_,rfl,rfl,rfl⟩ | ⟨g,_⟩
  ·exact⟨rfl,rfl,rfl⟩
  ·exact absurd g h
 ·rcases g with ⟨g,_⟩ | ⟨_,rfl,r',g1,g2⟩
  ·exact absurd h g
  ·obtain⟨e1,e2⟩:=Z5 h2 g2 (h1.unique g1)
   exact⟨e1,e2,rfl⟩
theorem ZjP.det {bs:List BB} {s t x y u v:ByteArray} {n m:Int} (h:ZjP bs s t x y n) (g:ZjP bs s t u v m):x=u∧y=v∧n=m:=by
 rcases h with ⟨h,rfl,rfl,rfl⟩ | ⟨h,h0,rfl,rfl,rfl⟩ | ⟨h,h0,rfl,r,h1,h2⟩
 ·rcases g with ⟨_,rfl,rfl,rfl⟩ | ⟨g,_⟩ | ⟨g,_⟩
  ·exact⟨rfl,rfl,rfl⟩
  ·exact absurd g h
  ·exact absurd g h
 ·rcases g with ⟨g,_⟩ | ⟨_,_,rfl,rfl,rfl⟩ | ⟨_,g0,_⟩
  ·exact absurd h g
  ·exact⟨rfl,rfl,rfl⟩
  ·grind
 ·rcases g with ⟨g,_⟩ | ⟨_,g0,_⟩ | ⟨_,_,rfl,r',g1,g2⟩
  ·exact absurd h g
  ·grind
  ·obtain⟨e1,e2⟩:=Z5 h2 g2 (h1.unique h.1.conc' g1)
   exact⟨e1,e2,rfl⟩
def ZN (bs:List BB):List PP→List Rat→Prop
 | [],cs=>cs=[]
 | p::ps,cs=>∃ c r,cs=c::r∧Zv bs.length (cR bs) (hR bs) (ratP p.1 p.2) c∧ZN bs ps r
theorem ZbN {bs:List BB} (h:CurveP bs) (q:Rat):∃ c,Zv bs.length (cR bs) (hR bs) q c:=by
 have hl:=h.len
 obtain⟨k,hk⟩:=Za2.exists (n:=bs.length) (C:=cR bs) q (bs.length-1) (by omega)
 rw[Nat.sub_add_cancel (by omega)] at hk
 exact⟨_,k,hk,rfl⟩
theorem ZN.exists {bs:List BB} (h:CurveP bs):∀ ps,∃ cs,ZN bs ps cs
 | []=>⟨[],rfl⟩
 | p::ps=>by
  obtain⟨c,hc⟩:=ZbN h (ratP p.1 p.2)
  obtain⟨r,hr⟩:=ZN.exists h ps
  exact⟨c::r,c,r,rfl,hc,hr⟩
theorem ZN.unique {bs:List BB} : ∀ {ps:List PP} {cs ds:List Rat},ZN bs ps cs→ZN bs ps ds→cs=ds
 | [],cs,ds,h,g=>by rw[show cs=[] from h,show ds=[] from g]
 | p::ps,cs,ds,h,g=>by
  obtain⟨c,r,rfl,h1,h2⟩:=h
  obtain⟨d,s,rfl,g1,g2⟩:=g
  rw[h1.unique g1,ZN.unique h2 g2]
theorem ZN.append {bs:List BB} : ∀ {ps qs:List PP} {cs ds:List Rat},ZN bs ps cs→ZN bs qs ds→ZN bs (ps++qs) (cs++ds)
 | [],qs,cs,ds,h,g=>by rw[show cs=[] from h];exact g
 | p::ps,qs,cs,ds,h,g=>by
  obtain⟨c,r,rfl,h1,h2⟩:=h
  exact⟨c,r++ds,rfl,h1,h2.append g⟩
theorem ZN.reverse {bs:List BB} : ∀ {ps:List PP} {cs:List Rat},ZN bs ps cs→ZN bs ps.reverse cs.reverse
 | [],cs,h=>by rw[show cs=[] from h];exact rfl
 | p::ps,cs,h=>by
  obtain⟨c,r,rfl,h1,h2⟩:=h
  rw[List.reverse_cons,List.reverse_cons]
  exact h2.reverse.append ⟨c,[],rfl,h1,rfl⟩
theorem ZN.range {bs:List BB} (hC:CurveP bs):∀ {ps:List PP} {cs:List Rat},ZN bs ps cs→∀ c ∈ cs,0≤c∧c≤1
 | [],cs,h,c,hc=>by rw[show cs=[] from h] at hc;cases hc
 | p::ps,cs,h,c,hc=>by
  obtain⟨d,r,rfl,h1,h2⟩:=h
  rcases List.mem_cons.1 hc with rfl | hc
  ·exact⟨h1.nn hC.conc' (Zcf _ _),h1.top hC.conc'⟩
  ·exact h2.range hC c hc
def Zc6 (a:Rat) (cs:List Rat) (x y:ByteArray) (n:Int):Prop:=(∃ r,ZgG a cs=some r∧IsP r x y∧n=0)∨(ZgG a cs=none∧x=⟨#[]⟩∧y=⟨#[]⟩∧n=4)
def Zk1 (bs:List BB) (ps:List PP):Prop:=(CurveP bs∧ps.all (Zm 300)=true)∧ps.length≤512
def Zgz (bs:List BB) (ps:List PP) (x y:ByteArray) (n:Int):Prop:=
 (¬ Zk1 bs ps∧x=⟨#[]⟩∧y=⟨#[]⟩∧n=2)∨(Zk1 bs ps∧∃ cs,ZN bs ps cs∧Zc6 1 cs x y n)
theorem Zc6.det {a:Rat} {cs:List Rat} {x y u v:ByteArray} {n m:Int} (h:Zc6 a cs x y n) (g:Zc6 a cs u v m):x=u∧y=v∧n=m:=by
 rcases h with ⟨r,h1,h2,rfl⟩ | ⟨h1,rfl,rfl,rfl⟩
 ·rcases g with ⟨s,g1,g2,rfl⟩ | ⟨g1,_⟩
  ·rw[h1] at g1
   obtain⟨e1,e2⟩:=Z5 h2 g2 (Option.some.inj g1)
   exact⟨e1,e2,rfl⟩
  ·rw[h1] at g1;cases g1
 ·rcases g with ⟨s,g1,_⟩ | ⟨_,rfl,rfl,rfl⟩
  ·rw[h1] at g1;cases g1
  ·exact⟨rfl,rfl,rfl⟩
theorem Zgz.det {bs:List BB} {ps:List PP} {x y u v:ByteArray} {n m:Int} (h:Zgz bs ps x y n) (g:Zgz bs ps u v m):x=u∧y=v∧n=m:=by
 rcases h with ⟨h,rfl,rfl,rfl⟩ | ⟨h,cs,h1,h2⟩
 ·rcases g with ⟨_,rfl,rfl,rfl⟩ | ⟨g,_⟩
  ·exact⟨rfl,rfl,rfl⟩
  ·exact absurd g h
 ·rcases g with ⟨g,_⟩ | ⟨_,ds,g1,g2⟩
  ·exact absurd h g
  ·rw[h1.unique g1] at h2
   exact h2.det g2
def Zc8 (bs:List BB) (ps:List PP) (k:Nat) (a:Rat):Prop:=∀ x y n,(∃ cs,ZN bs (ps.drop k) cs∧Zc6 a cs x y n)→∃ cs,ZN bs ps cs∧Zc6 1 cs x y n
theorem Zc8.zero (bs:List BB) (ps:List PP):Zc8 bs ps 0 1:=fun _ _ _ h=>h
theorem Zg3 {ps:List PP} {k:Nat} (hk:k<ps.length):ps.drop k=ps[k]::ps.drop (k+1):=(List.drop_eq_getElem_cons hk)
theorem Zc8.step {bs:List BB} {ps:List PP} {k:Nat} {a c:Rat} (h:Zc8 bs ps k a) (hk:k<ps.length) (hc:Zv bs.length (cR bs) (hR bs) (ratP ps[k].1 ps[k].2) c) (hf:Fits (a*(1-c))):Zc8 bs ps (k+1) (a*(1-c)):=by
 rintro x y n ⟨cs,h1,h2⟩
 refine h x y n ⟨c::cs,?_,?_⟩
 ·rw[Zg3 hk]
  exact⟨c,cs,rfl,hc,h1⟩
 ·unfold Zc6 ZgG
  rw[if_pos hf]
  exact h2
theorem Zc8.stop {bs:List BB} {ps:List PP} {k:Nat} {a c:Rat} (h:Zc8 bs ps k a) (hC:CurveP bs) (hk:k<ps.length) (hc:Zv bs.length (cR bs) (hR bs) (ratP ps[k].1 ps[k].2) c) (hf:¬ Fits (a*(1-c))) :
  ∃ cs,ZN bs ps cs∧Zc6 1 cs ⟨#[]⟩ ⟨#[]⟩ 4:=by
 obtain⟨cs,h1⟩:=ZN.exists hC (ps.drop (k+1))
 refine h _ _ _ ⟨c::cs,?_,.inr ⟨?_,rfl,rfl,rfl⟩⟩
 ·rw[Zg3 hk]
  exact⟨c,cs,rfl,hc,h1⟩
 ·unfold ZgG
  rw[if_neg hf]
theorem Zc8.done {bs:List BB} {ps:List PP} {a:Rat} (h:Zc8 bs ps ps.length a) {x y:ByteArray} (hx:IsP a x y):∃ cs,ZN bs ps cs∧Zc6 1 cs x y 0:=by
 refine h x y 0 ⟨[],?_,.inl ⟨a,rfl,hx,rfl⟩⟩
 rw[List.drop_length]
 exact rfl
theorem Zgz.nums {bs:List BB} {ps:List PP} {x y:ByteArray} {n:Int} (h:Zgz bs ps x y n):n=2∨n=0∨n=4:=by
 rcases h with ⟨_,_,_,h⟩ | ⟨_,cs,_,⟨_,_,_,h⟩ | ⟨_,_,_,h⟩⟩
 ·exact .inl h
 ·exact .inr (.inl h)
 ·exact .inr (.inr h)
open Classical in
noncomputable def chF (bs:List BB) (q:Rat):Rat:=if h:∃ r,Zv bs.length (cR bs) (hR bs) q r then Classical.choose h else 0
theorem ZcJ {bs:List BB} (h:CurveP bs) (q:Rat):Zv bs.length (cR bs) (hR bs) q (chF bs q):=by
 have hex:=ZbN h q
 unfold chF
 rw[dif_pos hex]
 exact Classical.choose_spec hex
theorem Ze7 {bs:List BB} (h:CurveP bs) {q r:Rat} (hr:Zv bs.length (cR bs) (hR bs) q r):chF bs q=r:=(ZcJ h q).unique hr
def rR (t:TaskP) (u i:Nat):Rat:=ratP (eR t u i).1 (eR t u i).2
def wR (t:TaskP) (i:Nat):Rat:=ratP (eS t i).weight.1 (eS t i).weight.2
def Zar (t:TaskP) (p:List (List Int)) (i:Nat):Nat→Rat
 | 0=>0
 | k+1=>Zar t p i k+rR t k i*((pN p k i:Int):Rat)
def covR (t:TaskP) (p:List (List Int)) (i:Nat):Rat:=Zar t p i p.length
def sumF (f:Nat→Rat):Nat→Rat
 | 0=>0
 | k+1=>sumF f k+f k
theorem Zb5 {f g:Nat→Rat} : ∀ {n:Nat},(∀ i,i<n→f i≤g i)→sumF f n≤sumF g n
 | 0,_=>Rat.le_refl
 | n+1,h=>by
  have h1:=Zb5 (f:=f) (g:=g) (n:=n) fun i hi=>h i (by omega)
  have h2:=h n (by omega)
  unfold sumF
  grind
theorem ZfN (f g:Nat→Rat):∀ n,sumF (fun i=>f i+g i) n=sumF f n+sumF g n
 | 0=>by unfold sumF;grind
 | n+1=>by
  have h:=ZfN f g n
  unfold sumF
  grind
theorem Zhh:∀ n,sumF (fun _=>0) n=0
 | 0=>rfl
 | n+1=>by
  have h:=Zhh n
  unfold sumF
  grind
theorem Zg9 (f:Nat→Nat→Rat) (n:Nat):∀ m,sumF (fun i=>sumF (fun u=>f i u) m) n=sumF (fun u=>sumF (fun i=>f i u) n) m
 | 0=>by
  show sumF (fun _=>0) n=0
  exact Zhh n
 | m+1=>by
  have h:=Zg9 f n m
  have e:(fun i=>sumF (fun u=>f i u) (m+1))=fun i=>sumF (fun u=>f i u) m+f i m:=rfl
  rw[e,ZfN,h]
  rfl
theorem ZfL (c:Rat) (f:Nat→Rat):∀ n,sumF (fun i=>c*f i) n=c*sumF f n
 | 0=>by unfold sumF;grind
 | n+1=>by
  have h:=ZfL c f n
  unfold sumF
  grind
theorem Ze5 (t:TaskP) (p:List (List Int)) (i:Nat):∀ k,Zar t p i k=sumF (fun u=>rR t u i*((pN p u i:Int):Rat)) k
 | 0=>rfl
 | k+1=>by
  have h:=Ze5 t p i k
  unfold Zar sumF
  rw[h]
theorem Zhd (p:List (List Int)) (u:Nat):∀ k,((ZA p u k:Int):Rat)=sumF (fun i=>((pN p u i:Int):Rat)) k
 | 0=>rfl
 | k+1=>by
  have h:=Zhd p u k
  unfold ZA sumF
  rw[← h,Rat.intCast_add]
theorem Zkt {bs:List BB} (hC:CurveP bs) {w lam s q:Rat} (hw:0≤w) (hl:0≤lam) (hs:∀ j,j<bs.length→w*hR bs j≤lam*cR bs j+s) (hq:0≤q):w*chF bs q≤lam*q+s:=by
 obtain⟨k,hk,hr⟩:=ZcJ hC q
 rw[hr]
 have hlow:=hk.low hC.conc' hq
 by_cases hi:k+1<bs.length
 ·have h1:=hs k hk.1
  have h2:=hs (k+1) hi
  have hup:=hk.2.2 hi
  have d0:0<cR bs (k+1)-cR bs k:=by grind
  unfold lin slo
  rw[if_pos hi]
  obtain⟨th,hth⟩:∃ th,(q-cR bs k)/(cR bs (k+1)-cR bs k)=th:=⟨_,rfl⟩
  have e1:q-cR bs k=th*(cR bs (k+1)-cR bs k):=by rw[← hth];grind
  have t0:0≤th:=by
   rw[← hth]
   exact ZdZ (by grind) (Rat.le_of_lt d0)
  have t1:th≤1:=by
   rcases(Rat.le_total:th≤1∨1≤th) with h | h
   ·exact h
   ·exfalso
    have:=Rat.mul_le_mul_of_nonneg_right h (Rat.le_of_lt d0)
    grind
  have e2:slp (cR bs) (hR bs) k*(q-cR bs k)=th*(hR bs (k+1)-hR bs k):=by
   have:=Zjx (C:=cR bs) (H:=hR bs) (i:=k) (by grind)
   rw[e1]
   grind
  rw[e2]
  have m1:=Rat.mul_le_mul_of_nonneg_left h1 (c:=1-th) (by grind)
  have m2:=Rat.mul_le_mul_of_nonneg_left h2 t0
  have e3:q=cR bs k+th*(cR bs (k+1)-cR bs k):=by grind
  rw[e3]
  grind
 ·have h1:=hs k hk.1
  unfold lin slo
  rw[if_neg hi]
  have m1:=Rat.mul_le_mul_of_nonneg_left hlow hl
  grind
theorem ZiT {N T:Nat} {f s c lam p H:Nat→Rat} {rate n:Nat→Nat→Rat} (hc:∀ i,i<N→c i=sumF (fun u=>rate u i*n u i) T)
  (h1:∀ i,i<N→f i≤lam i*c i+s i) (h2:∀ u i,u<T→i<N→lam i*(rate u i*n u i)≤p u*n u i) (h3:∀ u,u<T→sumF (fun i=>n u i) N≤H u∧0≤p u) :
  sumF f N≤sumF (fun u=>p u*H u) T+sumF s N:=by
 have a1:sumF f N≤sumF (fun i=>lam i*c i+s i) N:=Zb5 h1
 rw[ZfN] at a1
 have a2:sumF (fun i=>lam i*c i) N≤sumF (fun i=>sumF (fun u=>p u*n u i) T) N:=Zb5 fun i hi=>by
  rw[hc i hi,← ZfL]
  exact Zb5 fun u hu=>h2 u i hu hi
 rw[Zg9] at a2
 have a3:sumF (fun u=>sumF (fun i=>p u*n u i) N) T≤sumF (fun u=>p u*H u) T:=Zb5 fun u hu=>by
  rw[ZfL]
  exact Rat.mul_le_mul_of_nonneg_left (h3 u hu).1 (h3 u hu).2
 grind
def marg (f:Nat→Nat→Rat) (i k:Nat):Rat:=f i (k+1)-f i k
def GInv (f:Nat→Nat→Rat) (n:Nat) (g:Nat→Nat):Prop:=∀ i j k,i<n→j<n→k<g i→marg f j (g j)≤marg f i k
theorem GInv.zero (f:Nat→Nat→Rat) (n:Nat):GInv f n (fun _=>0):=fun i j k _ _ h=>absurd h (Nat.not_lt_zero _)
theorem GInv.step {f:Nat→Nat→Rat} {n:Nat} {g:Nat→Nat} (hc:∀ i k,i<n→marg f i (k+1)≤marg f i k) (h:GInv f n g) {a:Nat} (ha:a<n) (hmax:∀ j,j<n→marg f j (g j)≤marg f a (g a)) :
  GInv f n (fun i=>if i=a then g i+1 else g i):=fun i j k hi hj hk=>by
 have h1:marg f j (if j=a then g j+1 else g j)≤marg f j (g j):=by
  split
  ·exact hc j _ hj
  ·exact Rat.le_refl
 refine Rat.le_trans h1 ?_
 by_cases e:i=a
 ·subst e
  simp only[if_true] at hk
  rcases Nat.lt_or_ge k (g i) with hlt | hge
  ·exact h i j k hi hj hlt
  ·obtain rfl:k=g i:=by omega
   exact hmax j hj
 ·simp only[if_neg e] at hk
  exact h i j k hi hj hk
def Made (s t x y:ByteArray) (e:Int):Prop:=
 ((ZY s.data.toList && ZY t.data.toList)=false∧x=str []∧y=str []∧e=2)∨
 ((ZY s.data.toList && ZY t.data.toList)=true∧Zg t.data.toList=0∧x=str []∧y=str []∧e=10)∨
 ((ZY s.data.toList && ZY t.data.toList)=true∧0<Zg t.data.toList∧Ans (ratP s t) x y e)
theorem Zl0 (s t:ByteArray) (w:World) (hs:s.size≤1000000) (ht:t.size≤1000000) (hT:Tabs w) :
  Calls Tryz.prog 159 #[.string s,.string t] w (Zx (Made s t) w):=by
 have HT:=Lib.hid hT
 clear hT
 cases h1:ZY s.data.toList
 ·have H1:=Lib.hid h1
  clear h1
  go_enter Tryz.func159,Tryz.ntmps159
  go_wp2_with fail
  obtain⟨w1,hw1⟩:∃ w1,w.alloc (.cells #[.string ⟨#[]⟩,.string ⟨#[]⟩] 41)=w1:=⟨_,rfl⟩
  rw[hw1]
  have HX1:Hid (Zk w.heap.size [.cells #[.string ⟨#[]⟩,.string ⟨#[]⟩] 41] w1):=by rw[← hw1];exact Zk.one w _
  have HB1:Hid (Below w.heap.size w w1):=by rw[← hw1];exact(Below.refl _ w).alloc (Nat.le_refl _) _
  clear hw1
  refine(Zao s _ hs).mono ?_
  rintro e w2 ⟨rfl,hb2⟩
  rw[H1.out]
  have HX2:=Lib.hid (HX1.out.below hb2 HX1.out.lt)
  have HB2:=Lib.hid (HB1.out.trans (hb2.mono HB1.out.size))
  clear hb2
  have r0:=HX2.out.cell 0 0 (b:=w.heap.size) rfl rfl rfl
  have r1:=HX2.out.cell 0 1 (b:=w.heap.size) rfl rfl rfl
  have f0:=HX2.out.free 0 0 (b:=w.heap.size) rfl rfl
  have f1:=HX2.out.free 0 1 (b:=w.heap.size) rfl rfl
  go_wp2
  have q:=Zh (HX2.out.block 0 (b:=w.heap.size) rfl rfl) (.string ⟨#[]⟩) (.string ⟨#[]⟩)
  have HBQ:=Lib.hid (Zf HB2.out (b:=w.heap.size) (by omega) (.string ⟨#[]⟩) (.string ⟨#[]⟩))
  obtain⟨w9,hw9⟩:∃ w9,(w2.setCell ⟨w.heap.size,0,none⟩ (.string ⟨#[]⟩)).setCell ⟨w.heap.size,1,none⟩ (.string ⟨#[]⟩)=w9:=⟨_,rfl⟩
  rw[hw9] at q HBQ
  obtain⟨q0,q1⟩:=q
  rw[hw9]
  clear r0 r1 f0 f1 hw9
  go_wp2
  refine bodyPost_ret (v:=.tuple #[.agg #[.string ⟨#[]⟩,.string ⟨#[]⟩],.int .i64 2]) (by simp[results,Tryz.f159,go_sem,q0,q1]) rfl ⟨_,_,_,rfl,?_,HBQ.out⟩
  exact .inl ⟨by rw[H1.out];rfl,rfl,rfl,rfl⟩
 ·have H1:=Lib.hid h1
  clear h1
  cases h2:ZY t.data.toList
  ·have H2:=Lib.hid h2
   clear h2
   go_enter Tryz.func159,Tryz.ntmps159
   go_wp2_with fail
   obtain⟨w1,hw1⟩:∃ w1,w.alloc (.cells #[.string ⟨#[]⟩,.string ⟨#[]⟩] 41)=w1:=⟨_,rfl⟩
   rw[hw1]
   have HX1:Hid (Zk w.heap.size [.cells #[.string ⟨#[]⟩,.string ⟨#[]⟩] 41] w1):=by rw[← hw1];exact Zk.one w _
   have HB1:Hid (Below w.heap.size w w1):=by rw[← hw1];exact(Below.refl _ w).alloc (Nat.le_refl _) _
   clear hw1
   refine(Zao s _ hs).mono ?_
   rintro e w2 ⟨rfl,hb2⟩
   rw[H1.out]
   have HX2:=Lib.hid (HX1.out.below hb2 HX1.out.lt)
   have HB2:=Lib.hid (HB1.out.trans (hb2.mono HB1.out.size))
   clear hb2
   go_wp2_with fail
   refine(Zao t _ ht).mono ?_
   rintro e w3 ⟨rfl,hb3⟩
   rw[H2.out]
   have HX3:=Lib.hid (HX2.out.below hb3 HX2.out.lt)
   have HB3:=Lib.hid (HB2.out.trans (hb3.mono HB2.out.size))
   clear hb3
   have r0:=HX3.out.cell 0 0 (b:=w.heap.size) rfl rfl rfl
   have r1:=HX3.out.cell 0 1 (b:=w.heap.size) rfl rfl rfl
   have f0:=HX3.out.free 0 0 (b:=w.heap.size) rfl rfl
   have f1:=HX3.out.free 0 1 (b:=w.heap.size) rfl rfl
   go_wp2
   have q:=Zh (HX3.out.block 0 (b:=w.heap.size) rfl rfl) (.string ⟨#[]⟩) (.string ⟨#[]⟩)
   have HBQ:=Lib.hid (Zf HB3.out (b:=w.heap.size) (by omega) (.string ⟨#[]⟩) (.string ⟨#[]⟩))
   obtain⟨w9,hw9⟩:∃ w9,(w3.setCell ⟨w.heap.size,0,none⟩ (.string ⟨#[]⟩)).setCell ⟨w.heap.size,1,none⟩ (.string ⟨#[]⟩)=w9:=⟨_,rfl⟩
   rw[hw9] at q HBQ
   obtain⟨q0,q1⟩:=q
   rw[hw9]
   clear r0 r1 f0 f1 hw9
   go_wp2
   refine bodyPost_ret (v:=.tuple #[.agg #[.string ⟨#[]⟩,.string ⟨#[]⟩],.int .i64 2]) (by simp[results,Tryz.f159,go_sem,q0,q1]) rfl ⟨_,_,_,rfl,?_,HBQ.out⟩
   exact .inl ⟨by rw[H2.out,Bool.and_false],rfl,rfl,rfl⟩
  ·have HZ:=Lib.hid (Zid h2)
   have H2:=Lib.hid h2
   clear h2
   have dl:t.toList=t.data.toList:=ByteArray.toList_eq ..
   by_cases h0:Zg t.data.toList=0
   ·have hz:(t.toList==[48])=true:=by
     rw[dl,HZ.out.2 h0];rfl
    have H0:=Lib.hid h0
    clear h0 dl
    go_enter Tryz.func159,Tryz.ntmps159
    go_wp2_with fail
    obtain⟨w1,hw1⟩:∃ w1,w.alloc (.cells #[.string ⟨#[]⟩,.string ⟨#[]⟩] 41)=w1:=⟨_,rfl⟩
    rw[hw1]
    have HX1:Hid (Zk w.heap.size [.cells #[.string ⟨#[]⟩,.string ⟨#[]⟩] 41] w1):=by rw[← hw1];exact Zk.one w _
    have HB1:Hid (Below w.heap.size w w1):=by rw[← hw1];exact(Below.refl _ w).alloc (Nat.le_refl _) _
    clear hw1
    refine(Zao s _ hs).mono ?_
    rintro e w2 ⟨rfl,hb2⟩
    rw[H1.out]
    have HX2:=Lib.hid (HX1.out.below hb2 HX1.out.lt)
    have HB2:=Lib.hid (HB1.out.trans (hb2.mono HB1.out.size))
    clear hb2
    go_wp2_with fail
    refine(Zao t _ ht).mono ?_
    rintro e w3 ⟨rfl,hb3⟩
    rw[H2.out]
    have HX3:=Lib.hid (HX2.out.below hb3 HX2.out.lt)
    have HB3:=Lib.hid (HB2.out.trans (hb3.mono HB2.out.size))
    clear hb3
    have r0:=HX3.out.cell 0 0 (b:=w.heap.size) rfl rfl rfl
    have r1:=HX3.out.cell 0 1 (b:=w.heap.size) rfl rfl rfl
    have f0:=HX3.out.free 0 0 (b:=w.heap.size) rfl rfl
    have f1:=HX3.out.free 0 1 (b:=w.heap.size) rfl rfl
    go_wp2
    have q:=Zh (HX3.out.block 0 (b:=w.heap.size) rfl rfl) (.string ⟨#[]⟩) (.string ⟨#[]⟩)
    have HBQ:=Lib.hid (Zf HB3.out (b:=w.heap.size) (by omega) (.string ⟨#[]⟩) (.string ⟨#[]⟩))
    obtain⟨w9,hw9⟩:∃ w9,(w3.setCell ⟨w.heap.size,0,none⟩ (.string ⟨#[]⟩)).setCell ⟨w.heap.size,1,none⟩ (.string ⟨#[]⟩)=w9:=⟨_,rfl⟩
    rw[hw9] at q HBQ
    obtain⟨q0,q1⟩:=q
    rw[hw9]
    clear r0 r1 f0 f1 hw9
    go_wp2
    refine bodyPost_ret (v:=.tuple #[.agg #[.string ⟨#[]⟩,.string ⟨#[]⟩],.int .i64 10]) (by simp[results,Tryz.f159,go_sem,q0,q1]) rfl ⟨_,_,_,rfl,?_,HBQ.out⟩
    exact .inr (.inl ⟨by rw[H1.out,H2.out];rfl,H0.out,rfl,rfl,rfl⟩)
   ·have hz:(t.toList==[48])=false:=by
     rw[beq_eq_false_iff_ne,dl]
     intro hc
     refine h0 (HZ.out.1 ?_)
     rw[← Zbi t,hc];rfl
    have H0:=Lib.hid h0
    clear h0 dl
    obtain⟨cs1,cs2⟩:=Z6 H1.out
    obtain⟨ct1,ct2⟩:=Z6 H2.out
    have hls:=ZbG cs1.dig (j:=70) (by rw[← Zs];omega)
    have hlt:=ZbG ct1.dig (j:=70) (by rw[← Zs];omega)
    have HDS:=Lib.hid cs1.dig
    have HDT:=Lib.hid ct1.dig
    clear cs1 cs2 ct1 ct2
    go_enter Tryz.func159,Tryz.ntmps159
    go_wp2_with fail
    obtain⟨w1,hw1⟩:∃ w1,w.alloc (.cells #[.string ⟨#[]⟩,.string ⟨#[]⟩] 41)=w1:=⟨_,rfl⟩
    rw[hw1]
    have HX1:Hid (Zk w.heap.size [.cells #[.string ⟨#[]⟩,.string ⟨#[]⟩] 41] w1):=by rw[← hw1];exact Zk.one w _
    have HB1:Hid (Below w.heap.size w w1):=by rw[← hw1];exact(Below.refl _ w).alloc (Nat.le_refl _) _
    clear hw1
    refine(Zao s _ hs).mono ?_
    rintro e w2 ⟨rfl,hb2⟩
    rw[H1.out]
    have HX2:=Lib.hid (HX1.out.below hb2 HX1.out.lt)
    have HB2:=Lib.hid (HB1.out.trans (hb2.mono HB1.out.size))
    clear hb2
    go_wp2_with fail
    refine(Zao t _ ht).mono ?_
    rintro e w3 ⟨rfl,hb3⟩
    rw[H2.out]
    have HX3:=Lib.hid (HX2.out.below hb3 HX2.out.lt)
    have HB3:=Lib.hid (HB2.out.trans (hb3.mono HB2.out.size))
    clear hb3
    go_wp2_with fail
    refine(Zgo s hs HDS.out _).mono ?_
    rintro e w4 ⟨vn,rfl,hN,hb4⟩
    obtain⟨pn,ln,cn,rfl⟩:=hN.form'
    have HN4:=Lib.hid hN
    have HX4:=Lib.hid (HX3.out.below hb4 HX3.out.lt)
    have HB4:=Lib.hid (HB3.out.trans (hb4.mono HB3.out.size))
    clear hN hb4
    go_wp2_with fail
    refine(Zgo t ht HDT.out _).mono ?_
    rintro e w5 ⟨vd,rfl,hD,hb5⟩
    obtain⟨pd,ld,cd,rfl⟩:=hD.form'
    have HD5:=Lib.hid hD
    have HN5:=Lib.hid (HN4.out.after hb5 (Nat.le_refl _))
    have HX5:=Lib.hid (HX4.out.below hb5 HX4.out.lt)
    have HB5:=Lib.hid (HB4.out.trans (hb5.mono HB4.out.size))
    clear hD hb5
    go_wp2_with fail
    refine(Zdp HN5.out HD5.out (by omega) (by omega) (by have:=H0.out;omega) (HT.out.below HB5.out (Nat.le_refl _))).mono ?_
    rintro e w6 ⟨x,y,n,rfl,hR,hb6⟩
    have HR:=Lib.hid hR
    have HX6:=Lib.hid (HX5.out.below hb6 HX5.out.lt)
    have HB6:=Lib.hid (HB5.out.trans (hb6.mono HB5.out.size))
    clear hR hb6
    have r0:=HX6.out.cell 0 0 (b:=w.heap.size) rfl rfl rfl
    have r1:=HX6.out.cell 0 1 (b:=w.heap.size) rfl rfl rfl
    have f0:=HX6.out.free 0 0 (b:=w.heap.size) rfl rfl
    have f1:=HX6.out.free 0 1 (b:=w.heap.size) rfl rfl
    go_wp2
    have q:=Zh (HX6.out.block 0 (b:=w.heap.size) rfl rfl) (.string x) (.string y)
    have HBQ:=Lib.hid (Zf HB6.out (b:=w.heap.size) (by omega) (.string x) (.string y))
    obtain⟨w9,hw9⟩:∃ w9,(w6.setCell ⟨w.heap.size,0,none⟩ (.string x)).setCell ⟨w.heap.size,1,none⟩ (.string y)=w9:=⟨_,rfl⟩
    rw[hw9] at q HBQ
    obtain⟨q0,q1⟩:=q
    rw[hw9]
    clear r0 r1 f0 f1 hw9
    go_wp2
    refine bodyPost_ret (v:=.tuple #[.agg #[.string x,.string y],.int .i64 n]) (by simp[results,Tryz.f159,go_sem,q0,q1]) rfl ⟨_,_,_,rfl,?_,HBQ.out⟩
    exact .inr (.inr ⟨by rw[H1.out,H2.out];rfl,by have:=H0.out;omega,HR.out⟩)
def ZmT (n:Int) (w:World) (e:Ending) (w':World):Prop:=
 ∃ s r,e=.returned (.tuple #[.string s,.int .i64 r])∧((n<0∧s=str []∧r=11)∨(0≤n∧s=str (Lib.decDigits n.toNat)∧r=0))∧Below w.heap.size w w'
theorem Zi8 {n:Int} (h:0≤n):Lib.itoa n=Lib.decDigits n.toNat:=by
 unfold Lib.itoa
 rw[if_neg (by omega)]
theorem Zhj (n:Int) (h0 : -9223372036854775808≤n) (h1:n≤9223372036854775807) (w:World) (hT:Tabs w) :
  Calls Tryz.prog 158 #[.int .i64 n] w (ZmT n w):=by
 have HI:=Lib.hid (Tryz.strconv_Itoa n h0 h1 w hT)
 have HT:=Lib.hid hT
 have H01:=Lib.hid (And.intro h0 h1)
 clear hT h0 h1
 by_cases hn:n<0
 ·go_enter Tryz.func158,Tryz.ntmps158
  go_wp2
  go_ret2
  exact⟨_,_,rfl,.inl ⟨hn,rfl,rfl⟩,Below.refl _ _⟩
 ·go_enter Tryz.func158,Tryz.ntmps158
  go_wp2_with fail
  refine HI.out.mono ?_
  rintro e w2 ⟨rfl,k,os,hw⟩
  have HB:Hid (Below w.heap.size w w2):=by rw[hw];exact Lib.below_grow _ _ (Nat.le_refl _) _ _
  clear hw
  obtain⟨s,hs⟩:∃ s,(⟨(Lib.itoa n).toArray⟩:ByteArray)=s:=⟨_,rfl⟩
  rw[hs]
  have HS:Hid (s=str (Lib.decDigits n.toNat)):=by show _=_;rw[← hs,Zi8 (by omega)];rfl
  clear hs
  go_wp2
  go_ret2
  exact⟨_,_,rfl,.inr ⟨by omega,HS.out,rfl⟩,HB.out⟩
def Zk0 (a b:Int) (x y:ByteArray) (e:Int):Prop:=
 ((a<0∨b<0)∧x=str []∧y=str []∧e=11)∨(0≤a∧b=0∧x=str []∧y=str []∧e=10)∨(0≤a∧0<b∧Ans (mkRat (a.toNat:Nat) b.toNat) x y e)
theorem ZeS {n:Nat} (h:(Lib.decDigits n).length≤600):ZY (Lib.decDigits n)=true:=Zcy (Zca n) h
theorem ZiR {a b:Nat} (ha:(Lib.decDigits a).length≤600) (hb:(Lib.decDigits b).length≤600) {x y:ByteArray} {e:Int} (h:Made (str (Lib.decDigits a)) (str (Lib.decDigits b)) x y e) :
  (b=0∧x=str []∧y=str []∧e=10)∨(0<b∧Ans (mkRat (a:Nat) b) x y e):=by
 unfold Made ratP at h
 rw[Zbf,Zbf,ZeS ha,ZeS hb,Zaa,Zaa] at h
 rcases h with ⟨h,_⟩ | ⟨_,h0,h1,h2,h3⟩ | ⟨_,h0,h1⟩
 ·cases h
 ·exact .inl ⟨h0,h1,h2,h3⟩
 ·exact .inr ⟨h0,h1⟩
theorem Zfa {n:Int} (h:n≤9223372036854775807):(Lib.decDigits n.toNat).length≤600:=Nat.le_trans (ZK (k:=20) (by omega) (by omega)) (by omega)
theorem ZjV {a b:Int} (h0:0≤a) (h1:0≤b) (ha:a≤9223372036854775807) (hb:b≤9223372036854775807) {s t x y:ByteArray} {e:Int} (hs:s=str (Lib.decDigits a.toNat)) (ht:t=str (Lib.decDigits b.toNat)) (h:Made s t x y e):Zk0 a b x y e:=by
 subst hs;subst ht
 rcases ZiR (Zfa ha) (Zfa hb) h with ⟨k1,k2,k3,k4⟩ | ⟨k1,k2⟩
 ·exact .inr (.inl ⟨h0,by omega,k2,k3,k4⟩)
 ·exact .inr (.inr ⟨h0,by omega,k2⟩)
theorem Zhl (a b:Int) (ha0 : -9223372036854775808≤a) (ha1:a≤9223372036854775807) (hb0 : -9223372036854775808≤b) (hb1:b≤9223372036854775807) (w:World) (hT:Tabs w) :
  Calls Tryz.prog 107 #[.int .i64 a,.int .i64 b] w (Zx (Zk0 a b) w):=by
 have HT:=Lib.hid hT
 clear hT
 go_enter Tryz.func107,Tryz.ntmps107
 go_wp2_with fail
 obtain⟨w1,hw1⟩:∃ w1,w.alloc (.cells #[.string ⟨#[]⟩,.string ⟨#[]⟩] 41)=w1:=⟨_,rfl⟩
 rw[hw1]
 have HX1:Hid (Zk w.heap.size [.cells #[.string ⟨#[]⟩,.string ⟨#[]⟩] 41] w1):=by rw[← hw1];exact Zk.one w _
 have HB1:Hid (Below w.heap.size w w1):=by rw[← hw1];exact(Below.refl _ w).alloc (Nat.le_refl _) _
 clear hw1
 refine(Zhj a ha0 ha1 _ (HT.out.below HB1.out (Nat.le_refl _))).mono ?_
 rintro e w2 ⟨s,r1,rfl,hR1,hb2⟩
 have HX2:=Lib.hid (HX1.out.below hb2 HX1.out.lt)
 have HB2:=Lib.hid (HB1.out.trans (hb2.mono HB1.out.size))
 have HR1:=Lib.hid hR1
 clear hb2 hR1
 go_wp2_with fail
 refine(Zhj b hb0 hb1 _ (HT.out.below HB2.out (Nat.le_refl _))).mono ?_
 rintro e w3 ⟨t,r2,rfl,hR2,hb3⟩
 have HX3:=Lib.hid (HX2.out.below hb3 HX2.out.lt)
 have HB3:=Lib.hid (HB2.out.trans (hb3.mono HB2.out.size))
 have HR2:=Lib.hid hR2
 clear hb3 hR2
 by_cases hneg:a<0∨b<0
 ·
  have r0:=HX3.out.cell 0 0 (b:=w.heap.size) rfl rfl rfl
  have r1:=HX3.out.cell 0 1 (b:=w.heap.size) rfl rfl rfl
  have f0:=HX3.out.free 0 0 (b:=w.heap.size) rfl rfl
  have f1:=HX3.out.free 0 1 (b:=w.heap.size) rfl rfl
  rcases HR1.out with ⟨k1,k2,rfl⟩ | ⟨k1,k2,rfl⟩
  ·clear k1 k2
   go_wp2
   have q:=Zh (HX3.out.block 0 (b:=w.heap.size) rfl rfl) (.string ⟨#[]⟩) (.string ⟨#[]⟩)
   have HBQ:=Lib.hid (Zf HB3.out (b:=w.heap.size) (by omega) (.string ⟨#[]⟩) (.string ⟨#[]⟩))
   obtain⟨w9,hw9⟩:∃ w9,(w3.setCell ⟨w.heap.size,0,none⟩ (.string ⟨#[]⟩)).setCell ⟨w.heap.size,1,none⟩ (.string ⟨#[]⟩)=w9:=⟨_,rfl⟩
   rw[hw9] at q HBQ
   obtain⟨q0,q1⟩:=q
   rw[hw9]
   clear r0 r1 f0 f1 hw9
   go_wp2
   refine bodyPost_ret (v:=.tuple #[.agg #[.string ⟨#[]⟩,.string ⟨#[]⟩],.int .i64 11]) (by simp[results,Tryz.f107,go_sem,q0,q1]) rfl ⟨_,_,_,rfl,?_,HBQ.out⟩
   exact .inl ⟨hneg,rfl,rfl,rfl⟩
  ·rcases HR2.out with ⟨m1,m2,rfl⟩ | ⟨m1,m2,rfl⟩
   ·clear k1 k2 m1 m2
    go_wp2
    have q:=Zh (HX3.out.block 0 (b:=w.heap.size) rfl rfl) (.string ⟨#[]⟩) (.string ⟨#[]⟩)
    have HBQ:=Lib.hid (Zf HB3.out (b:=w.heap.size) (by omega) (.string ⟨#[]⟩) (.string ⟨#[]⟩))
    obtain⟨w9,hw9⟩:∃ w9,(w3.setCell ⟨w.heap.size,0,none⟩ (.string ⟨#[]⟩)).setCell ⟨w.heap.size,1,none⟩ (.string ⟨#[]⟩)=w9:=⟨_,rfl⟩
    rw[hw9] at q HBQ
    obtain⟨q0,q1⟩:=q
    rw[hw9]
    clear r0 r1 f0 f1 hw9
    go_wp2
    refine bodyPost_ret (v:=.tuple #[.agg #[.string ⟨#[]⟩,.string ⟨#[]⟩],.int .i64 11]) (by simp[results,Tryz.f107,go_sem,q0,q1]) rfl ⟨_,_,_,rfl,?_,HBQ.out⟩
    exact .inl ⟨hneg,rfl,rfl,rfl⟩
   ·exfalso;omega
 ·have hz:r1=0∧r2=0∧Hid (s=str (Lib.decDigits a.toNat))∧Hid (t=str (Lib.decDigits b.toNat))∧0≤a∧0≤b:=by
   rcases HR1.out with ⟨k1,k2,k3⟩ | ⟨k1,k2,k3⟩
   ·omega
   ·rcases HR2.out with ⟨m1,m2,m3⟩ | ⟨m1,m2,m3⟩
    ·omega
    ·exact⟨k3,m3,k2,m2,k1,m1⟩
  obtain⟨rfl,rfl,HS,HU,ka,kb⟩:=hz
  have hs:s.size≤1000000:=by rw[HS.out,ZaG];exact Nat.le_trans (Zfa ha1) (by omega)
  have ht:t.size≤1000000:=by rw[HU.out,ZaG];exact Nat.le_trans (Zfa hb1) (by omega)
  clear hneg
  go_wp2_with fail
  refine(Zl0 s t _ hs ht (HT.out.below HB3.out (Nat.le_refl _))).mono ?_
  rintro e w4 ⟨x,y,n,rfl,hR,hb4⟩
  have HR:=Lib.hid hR
  have HX4:=Lib.hid (HX3.out.below hb4 HX3.out.lt)
  have HB4:=Lib.hid (HB3.out.trans (hb4.mono HB3.out.size))
  clear hR hb4
  have r0:=HX4.out.cell 0 0 (b:=w.heap.size) rfl rfl rfl
  have r1:=HX4.out.cell 0 1 (b:=w.heap.size) rfl rfl rfl
  have f0:=HX4.out.free 0 0 (b:=w.heap.size) rfl rfl
  have f1:=HX4.out.free 0 1 (b:=w.heap.size) rfl rfl
  go_wp2
  have q:=Zh (HX4.out.block 0 (b:=w.heap.size) rfl rfl) (.string x) (.string y)
  have HBQ:=Lib.hid (Zf HB4.out (b:=w.heap.size) (by omega) (.string x) (.string y))
  obtain⟨w9,hw9⟩:∃ w9,(w4.setCell ⟨w.heap.size,0,none⟩ (.string x)).setCell ⟨w.heap.size,1,none⟩ (.string y)=w9:=⟨_,rfl⟩
  rw[hw9] at q HBQ
  obtain⟨q0,q1⟩:=q
  rw[hw9]
  clear r0 r1 f0 f1 hw9
  go_wp2
  refine bodyPost_ret (v:=.tuple #[.agg #[.string x,.string y],.int .i64 n]) (by simp[results,Tryz.f107,go_sem,q0,q1]) rfl ⟨_,_,_,rfl,?_,HBQ.out⟩
  exact ZjV ka kb ha1 hb1 HS.out HU.out HR.out
abbrev pObj (x y:ByteArray):Obj:=.cells #[.string x,.string y] 41
def Z7 (v:Value) (w:World) (e:Ending) (w':World):Prop:=e=.returned v∧Below w.heap.size w w'
abbrev pV (s t:ByteArray):Value:=.agg #[.string s,.string t]
def Ats (l:List (Nat×ByteArray×ByteArray)) (w:World):Prop:=∀ (i:Nat) (p:Nat×ByteArray×ByteArray),l[i]?=some p→w.heap[p.1]?=some (pObj p.2.1 p.2.2)
theorem Ats.nil (w:World):Ats [] w:=fun i p h=>by simp at h
theorem Ats.after {l:List (Nat×ByteArray×ByteArray)} {w w':World} {B:Nat} (h:Ats l w) (hb:Below B w w') (hB:w.heap.size≤B):Ats l w':=fun i p hp=>by
 have h1:=h i p hp
 have h2:=(Array.getElem?_eq_some_iff.1 h1).1
 rw[hb.block p.1 (by omega)]
 exact h1
theorem Ats.push {l:List (Nat×ByteArray×ByteArray)} {w:World} (h:Ats l w) (x y:ByteArray):Ats ((w.heap.size,x,y)::l) (w.alloc (pObj x y)):=fun i p hp=>by
 cases i with
 | zero=>
  obtain rfl:=Option.some.inj hp
  exact World.alloc_heap_new w _
 | succ i=>
  have h1:=h i p (by simpa using hp)
  have h2:=(Array.getElem?_eq_some_iff.1 h1).1
  rw[Below.heap_alloc _ _ _ (by omega)]
  exact h1
theorem Ats.c0 {l:List (Nat×ByteArray×ByteArray)} {w:World} (h:Ats l w) (i:Nat) {b:Nat} {x y:ByteArray} (hp:l[i]?=some (b,x,y)):w.cell? ⟨b,0,none⟩=some (.string x):=Za (h i _ hp) 0 rfl
theorem Ats.c1 {l:List (Nat×ByteArray×ByteArray)} {w:World} (h:Ats l w) (i:Nat) {b:Nat} {x y:ByteArray} (hp:l[i]?=some (b,x,y)):w.cell? ⟨b,1,none⟩=some (.string y):=Za (h i _ hp) 1 rfl
theorem Ats.lt {l:List (Nat×ByteArray×ByteArray)} {w:World} (h:Ats l w) (i:Nat) {p:Nat×ByteArray×ByteArray} (hp:l[i]?=some p):p.1<w.heap.size:=(Array.getElem?_eq_some_iff.1 (h i _ hp)).1
theorem ZmN (w:World) (s t u v:ByteArray):PL (w.alloc (.cells #[.string s,.string t,.string u,.string v] 41)) (.slice (some ⟨w.heap.size,0,none⟩) 2 2) [(s,t),(u,v)]:=by
 refine⟨_,2,rfl,Nat.le_refl _,by simp[maxLen],fun _=>⟨_,0,rfl,by simp,fun j hj=>?_⟩⟩
 match j,hj with
 | 0,_=>exact⟨ZC _ _ _ 0 rfl,ZC _ _ _ 1 rfl⟩
 | 1,_=>exact⟨ZC _ _ _ 2 rfl,ZC _ _ _ 3 rfl⟩
 | j+2,h=>simp at h;try omega
end Go.Proofs.YtmpaflidennnoaaGreatDoor
