/- The parts EffS, EffB, EffP, EnvS, EMemo, EBase of a proof, put together by program (merge7.py). -/
import Derived.Test.YtmpaflidennnoaaGreatDoorH20
import Derived.DeepKeys4
import Derived.Maps.OwnOps
set_option maxRecDepth 100000
set_option maxHeartbeats 4000000
set_option linter.unusedVariables false
set_option linter.unusedSimpArgs false
namespace Go.Proofs.YtmpaflidennnoaaGreatDoor
open Go.RowKit Go.Shelf
theorem ZdA {n:Int} (h0:0≤n) (h1:n≤48):(∃ x y,IsP ((n:Int):Rat) x y)∧Sz 2 ((n:Int):Rat)∧0≤((n:Int):Rat):=by
 obtain⟨k,rfl⟩:∃ k:Nat,n=k:=⟨n.toNat,by omega⟩
 have e:(((k:Nat):Int):Rat)=mkRat (k:Nat) 1:=by
  have h:∀ k:Nat,k≤48→(((k:Nat):Int):Rat)=mkRat (k:Nat) 1:=by decide +kernel
  exact h k (by omega)
 have z:Sz 2 (mkRat (k:Nat) 1):=Sz.mk (by decide) (by omega) (by decide)
 have n0:0≤mkRat (k:Nat) 1:=ZbE _ _
 rw[e]
 exact⟨ZV n0 z (by decide) (by decide),z,n0⟩
theorem Zdu {t:TaskP} (h:TaskOk t) {u i:Nat} (hu:u<t.rates.length) (hi:i<t.sites.length):IsP (rR t u i) (eR t u i).1 (eR t u i).2∧Sz 9 (rR t u i):=by
 obtain⟨h1,h2,h3⟩:=Z7.1 ((h.team u hu).2.2 i hi)
 have:=Zak h3
 exact⟨this,this.sz h1 h2⟩
theorem Zgt {t:TaskP} (h:TaskOk t) {i:Nat} (hi:i<t.sites.length):IsP (wR t i) (eS t i).weight.1 (eS t i).weight.2∧Sz 9 (wR t i):=by
 obtain⟨h1,h2,h3⟩:=Z7.1 (h.site i hi).1
 have:=Zak h3
 exact⟨this,this.sz h1 h2⟩
def Zbt (t:TaskP) (p:List (List Int)):Prop:=p.length=t.hours.length∧(∀ u (h:u<p.length),p[u].length=t.sites.length)∧∀ u i,u<p.length→i<t.sites.length→0≤pN p u i∧pN p u i≤48
theorem PlanOk.inn {t:TaskP} {p:List (List Int)} (h:PlanOk t p):Zbt t p:=⟨h.teams,h.row,fun u i hu hi=>(h.hour u i hu hi).1⟩
theorem ZeH {t:TaskP} {p:List (List Int)} (h:TaskOk t) (hp:Zbt t p) {u i:Nat} (hu:u<p.length) (hi:i<t.sites.length) :
  (∃ x y,IsP (rR t u i*((pN p u i:Int):Rat)) x y)∧Sz 11 (rR t u i*((pN p u i:Int):Rat))∧0≤rR t u i*((pN p u i:Int):Rat):=by
 have hr:=h.rates
 have hpl:=hp.1
 obtain⟨r1,r2⟩:=Zdu h (u:=u) (i:=i) (by omega) hi
 obtain⟨_,w2,w3⟩:=ZdA (hp.2.2 u i hu hi).1 (hp.2.2 u i hu hi).2
 have n0:=Rat.mul_nonneg r1.nn w3
 have z:=Sz.mul r1.nn w3 r2 w2
 exact⟨ZV n0 z (by decide) (by decide),z,n0⟩
theorem ZhY {t:TaskP} {p:List (List Int)} (h:TaskOk t) (hp:Zbt t p) {i:Nat} (hi:i<t.sites.length):∀ k,k≤p.length→Sz (12*k+1) (ZaJ t p i k)∧0≤ZaJ t p i k
 | 0,_=>⟨(show Sz 1 (0:Rat) from ⟨by decide +kernel,by decide +kernel⟩),Rat.le_refl⟩
 | k+1,hk=>by
  obtain⟨z,n⟩:=ZhY h hp hi k (by omega)
  obtain⟨_,z2,n2⟩:=ZeH h hp (u:=k) (by omega) hi
  exact⟨(Sz.add n n2 z z2).mono (by omega),by unfold ZaJ;grind⟩
theorem Zc4 {t:TaskP} {p:List (List Int)} (h:TaskOk t) (hp:Zbt t p) {i:Nat} (hi:i<t.sites.length) {k:Nat} (hk:k≤p.length):(∃ x y,IsP (ZaJ t p i k) x y)∧Sz 97 (ZaJ t p i k)∧0≤ZaJ t p i k:=by
 obtain⟨z,n⟩:=ZhY h hp hi k hk
 have h1:=h.teams.2
 have h2:=hp.1
 have z2:Sz 97 (ZaJ t p i k):=z.mono (by omega)
 exact⟨ZV n z2 (by decide) (by decide),z2,n⟩
theorem Zc6 {t:TaskP} (h:TaskOk t) {i:Nat} (hi:i<t.sites.length) {q:Rat} {k:Nat} (hq:0≤q) (hz:Sz k q) (hk:k≤300):(∃ x y,IsP (chF (eS t i).curve q) x y)∧Sz (k+109) (chF (eS t i).curve q)∧0≤chF (eS t i).curve q∧chF (eS t i).curve q≤1:=by
 have hC:=(h.site i hi).2
 obtain⟨r,x,y,h1,h2,h3,h4,h5⟩:=Zl0 hC hq hz hk
 rw[ZeJ hC h1]
 exact⟨⟨x,y,h2⟩,h3,h4,h5⟩
def Zae (f:Nat→Rat) (n:Nat):Prop:=∀ k,k≤n→Fits (sumF f k)
def SumE (f:Nat→Rat) (n:Nat) (x y:ByteArray) (e:Int):Prop:=(Zae f n∧IsP (sumF f n) x y∧e=0)∨(¬ Zae f n∧x=⟨#[]⟩∧y=⟨#[]⟩∧e=4)
theorem SumE.det {f:Nat→Rat} {n:Nat} {x y u v:ByteArray} {e d:Int} (h:SumE f n x y e) (g:SumE f n u v d):x=u∧y=v∧e=d:=by
 rcases h with ⟨h1,h2,rfl⟩ | ⟨h1,rfl,rfl,rfl⟩
 ·rcases g with ⟨_,g2,rfl⟩ | ⟨g1,_⟩
  ·obtain⟨e1,e2⟩:=ZbC h2 g2 rfl
   exact⟨e1,e2,rfl⟩
  ·exact absurd h1 g1
 ·rcases g with ⟨g1,_⟩ | ⟨_,rfl,rfl,rfl⟩
  ·exact absurd g1 h1
  ·exact⟨rfl,rfl,rfl⟩
theorem ZlI:Fits (0:Rat):=ZY.fits
theorem Zae.zero (f:Nat→Rat):Zae f 0:=fun k hk=>by
 obtain rfl:k=0:=by omega
 exact ZlI
theorem Zae.step {f:Nat→Rat} {n:Nat} (h:Zae f n) (hf:Fits (sumF f n+f n)):Zae f (n+1):=fun k hk=>by
 rcases Nat.lt_or_ge n k with h1 | h1
 ·obtain rfl:k=n+1:=by omega
  exact hf
 ·exact h k h1
theorem Zae.not {f:Nat→Rat} {n m:Nat} (hf:¬ Fits (sumF f n+f n)) (hm:n<m):¬ Zae f m:=fun h=>hf (h (n+1) hm)
structure Best (g:Nat→Rat) (n:Nat) (r:Option Nat) (m:Rat):Prop where
 no:r=none→m=0∧∀ k,k<n→g k≤0
 yes:∀ j,r=some j→j<n∧m=g j∧0<m∧(∀ k,k<n→g k≤g j)∧∀ k,k<j→g k<g j
theorem Best.zero (g:Nat→Rat):Best g 0 none 0:=⟨fun _=>⟨rfl,fun k h=>absurd h (Nat.not_lt_zero _)⟩,fun j h=>by cases h⟩
theorem Best.nn {g:Nat→Rat} {n:Nat} {r:Option Nat} {m:Rat} (h:Best g n r m):0≤m:=by
 cases r with
 | none=>rw[(h.no rfl).1];exact Rat.le_refl
 | some j=>exact Rat.le_of_lt (h.yes j rfl).2.2.1
theorem Best.le {g:Nat→Rat} {n:Nat} {r:Option Nat} {m:Rat} (h:Best g n r m) {k:Nat} (hk:k<n):g k≤m:=by
 cases r with
 | none=>
  rw[(h.no rfl).1]
  exact(h.no rfl).2 k hk
 | some j=>
  obtain⟨_,e,_,h2,_⟩:=h.yes j rfl
  rw[e]
  exact h2 k hk
theorem Best.up {g:Nat→Rat} {n:Nat} {r:Option Nat} {m:Rat} (h:Best g n r m) (hlt:m<g n):Best g (n+1) (some n) (g n):=by
 refine⟨fun h=>(by cases h),fun j hj=>?_⟩
 obtain rfl:=Option.some.inj hj
 have h0:=h.nn
 refine⟨Nat.lt_succ_self _,rfl,by grind,fun k hk=>?_,fun k hk=>?_⟩
 ·rcases Nat.lt_or_ge k n with h1 | h1
  ·have:=h.le h1
   grind
  ·obtain rfl:k=n:=by omega
   exact Rat.le_refl
 ·have:=h.le hk
  grind
theorem Best.keep {g:Nat→Rat} {n:Nat} {r:Option Nat} {m:Rat} (h:Best g n r m) (hle:g n≤m):Best g (n+1) r m:=by
 refine⟨fun hr=>?_,fun j hj=>?_⟩
 ·obtain⟨h1,h2⟩:=h.no hr
  refine⟨h1,fun k hk=>?_⟩
  rcases Nat.lt_or_ge k n with h3 | h3
  ·exact h2 k h3
  ·obtain rfl:k=n:=by omega
   rw[← h1]
   exact hle
 ·obtain⟨h1,h2,h3,h4,h5⟩:=h.yes j hj
  refine⟨by omega,h2,h3,fun k hk=>?_,h5⟩
  rcases Nat.lt_or_ge k n with h6 | h6
  ·exact h4 k h6
  ·obtain rfl:k=n:=by omega
   rw[← h2]
   exact hle
theorem Best.det {g:Nat→Rat} {n:Nat} {r s:Option Nat} {m l:Rat} (h:Best g n r m) (k:Best g n s l):r=s∧m=l:=by
 cases r with
 | none=>
  obtain⟨h1,h2⟩:=h.no rfl
  cases s with
  | none=>exact⟨rfl,by rw[h1,(k.no rfl).1]⟩
  | some j=>
   obtain⟨k1,k2,k3,_⟩:=k.yes j rfl
   have:=h2 j k1
   exfalso
   grind
 | some i=>
  obtain⟨h1,h2,h3,h4,h5⟩:=h.yes i rfl
  cases s with
  | none=>
   have:=(k.no rfl).2 i h1
   exfalso
   grind
  | some j=>
   obtain⟨k1,k2,k3,k4,k5⟩:=k.yes j rfl
   have e1:=h4 j k1
   have e2:=k4 i h1
   rcases Nat.lt_trichotomy i j with h6 | rfl | h6
   ·have:=k5 i h6
    exfalso
    grind
   ·exact⟨rfl,by rw[h2,k2]⟩
   ·have:=h5 j h6
    exfalso
    grind
theorem Best.congr {f g:Nat→Rat} {n:Nat} {r:Option Nat} {m:Rat} (h:Best f n r m) (e:∀ k,k<n→f k=g k):Best g n r m:=by
 refine⟨fun hr=>⟨(h.no hr).1,fun k hk=>by rw[← e k hk];exact(h.no hr).2 k hk⟩,fun j hj=>?_⟩
 obtain⟨h1,h2,h3,h4,h5⟩:=h.yes j hj
 exact⟨h1,by rw[← e j h1];exact h2,h3,fun k hk=>by rw[← e k hk,← e j h1];exact h4 k hk,fun k hk=>by rw[← e k (by omega),← e j h1];exact h5 k hk⟩
structure LeastQ (q:Nat→Rat) (ok:Nat→Prop) (n:Nat) (r:Option Rat):Prop where
 no:r=none→∀ u,u<n→¬ ok u
 yes:∀ c,r=some c→(∃ u,u<n∧ok u∧c=q u)∧∀ u,u<n→ok u→c≤q u
theorem LeastQ.zero (q:Nat→Rat) (ok:Nat→Prop):LeastQ q ok 0 none:=⟨fun _ u h=>absurd h (Nat.not_lt_zero _),fun c h=>by cases h⟩
theorem LeastQ.skip {q:Nat→Rat} {ok:Nat→Prop} {n:Nat} {r:Option Rat} (h:LeastQ q ok n r) (hn:¬ ok n):LeastQ q ok (n+1) r:=by
 refine⟨fun hr u hu=>?_,fun c hc=>?_⟩
 ·rcases Nat.lt_or_ge u n with h1 | h1
  ·exact h.no hr u h1
  ·obtain rfl:u=n:=by omega
   exact hn
 ·obtain⟨⟨u,h1,h2,h3⟩,h4⟩:=h.yes c hc
  refine⟨⟨u,by omega,h2,h3⟩,fun v hv hv2=>?_⟩
  rcases Nat.lt_or_ge v n with h5 | h5
  ·exact h4 v h5 hv2
  ·obtain rfl:v=n:=by omega
   exact absurd hv2 hn
theorem LeastQ.take {q:Nat→Rat} {ok:Nat→Prop} {n:Nat} {r:Option Rat} (h:LeastQ q ok n r) (hn:ok n) (hl:∀ c,r=some c→q n<c):LeastQ q ok (n+1) (some (q n)):=by
 refine⟨fun h=>(by cases h),fun c hc=>?_⟩
 obtain rfl:=Option.some.inj hc
 refine⟨⟨n,by omega,hn,rfl⟩,fun v hv hv2=>?_⟩
 rcases Nat.lt_or_ge v n with h5 | h5
 ·cases hr:r with
  | none=>exact absurd hv2 (h.no hr v h5)
  | some c=>
   have h1:=(h.yes c hr).2 v h5 hv2
   have h2:=hl c hr
   grind
 ·obtain rfl:v=n:=by omega
  exact Rat.le_refl
theorem LeastQ.keep {q:Nat→Rat} {ok:Nat→Prop} {n:Nat} {c:Rat} (h:LeastQ q ok n (some c)) (hl:c≤q n):LeastQ q ok (n+1) (some c):=by
 refine⟨fun h=>(by cases h),fun d hd=>?_⟩
 obtain rfl:=Option.some.inj hd
 obtain⟨⟨u,h1,h2,h3⟩,h4⟩:=h.yes c rfl
 refine⟨⟨u,by omega,h2,h3⟩,fun v hv hv2=>?_⟩
 rcases Nat.lt_or_ge v n with h5 | h5
 ·exact h4 v h5 hv2
 ·obtain rfl:v=n:=by omega
  exact hl
theorem LeastQ.det {q:Nat→Rat} {ok:Nat→Prop} {n:Nat} {r s:Option Rat} (h:LeastQ q ok n r) (g:LeastQ q ok n s):r=s:=by
 cases r with
 | none=>
  cases s with
  | none=>rfl
  | some c=>
   obtain⟨⟨u,h1,h2,_⟩,_⟩:=g.yes c rfl
   exact absurd h2 (h.no rfl u h1)
 | some c=>
  obtain⟨⟨u,h1,h2,h3⟩,h4⟩:=h.yes c rfl
  cases s with
  | none=>exact absurd h2 (g.no rfl u h1)
  | some d=>
   obtain⟨⟨v,g1,g2,g3⟩,g4⟩:=g.yes d rfl
   have e1:=h4 v g1 g2
   have e2:=g4 u h1 h2
   congr 1
   grind
def pick (P:Nat→Bool) (n:Nat):List Nat:=(List.range n).filter P
theorem ZfD {P:Nat→Bool} {n:Nat} (h:P n=true):pick P (n+1)=pick P n++[n]:=by
 unfold pick
 rw[List.range_succ,List.filter_append]
 simp[h]
theorem Zjy {P:Nat→Bool} {n:Nat} (h:P n=false):pick P (n+1)=pick P n:=by
 unfold pick
 rw[List.range_succ,List.filter_append]
 simp[h]
theorem ZmD {P:Nat→Bool} {n j:Nat} : j ∈ pick P n↔j<n∧P j=true:=by simp[pick]
theorem Zfo (P:Nat→Bool):∀ {n m:Nat},n≤m→∃ l,pick P m=pick P n++l
 | n,0,h=>by
  obtain rfl:n=0:=by omega
  exact⟨[],by simp⟩
 | n,m+1,h=>by
  rcases Nat.lt_or_ge m n with h1 | h1
  ·obtain rfl:n=m+1:=by omega
   exact⟨[],by simp⟩
  ·obtain⟨l,hl⟩:=Zfo P h1
   cases hp:P m
   ·exact⟨l,by rw[Zjy hp,hl]⟩
   ·exact⟨l++[m],by rw[ZfD hp,hl,List.append_assoc]⟩
theorem ZgO {P:Nat→Bool} {n j:Nat} (hj:j<n) (hp:P j=true):(pick P j).length<(pick P n).length∧(pick P n).getD (pick P j).length 0=j:=by
 obtain⟨l,hl⟩:=Zfo P (show j+1≤n from hj)
 rw[hl,ZfD hp]
 simp[List.getD]
theorem Zmz (P:Nat→Bool) (n:Nat):(pick P n).length≤n:=by
 have:=List.length_filter_le P (List.range n)
 simpa[pick] using this
theorem Zg1 {P:Nat→Bool} {n k:Nat} (hk:k<(pick P n).length):(pick P n).getD k 0<n∧P ((pick P n).getD k 0)=true:=by
 have h:(pick P n).getD k 0=(pick P n)[k]:=by simp[List.getD,hk]
 rw[h]
 exact ZmD.1 (List.getElem_mem hk)
theorem Zlb {P:Nat→Bool} {n j k:Nat} (hk:k<(pick P n).length) (hjk:j<k):(pick P n).getD j 0<(pick P n).getD k 0:=by
 have hs:(pick P n).Pairwise (· < ·):=List.Pairwise.filter P List.pairwise_lt_range
 have e1:(pick P n).getD j 0=(pick P n)[j]:=by simp[List.getD,Nat.lt_trans hjk hk]
 have e2:(pick P n).getD k 0=(pick P n)[k]:=by simp[List.getD,hk]
 rw[e1,e2]
 exact List.pairwise_iff_getElem.1 hs j k (Nat.lt_trans hjk hk) hk hjk
theorem Best.ofPick {P:Nat→Bool} {g:Nat→Rat} {n:Nat} {r:Option Nat} {m:Rat} (h:Best (fun k=>g ((pick P n).getD k 0)) (pick P n).length r m) :
  Best (fun j=>if P j=true then g j else 0) n (r.map fun k=>(pick P n).getD k 0) m:=by
 have hall:∀ c,0≤c→(∀ k,k<(pick P n).length→g ((pick P n).getD k 0)≤c)→∀ j,j<n→(if P j=true then g j else 0)≤c:=fun c hc h2 j hj=>by
  split
  ·rename_i hp
   obtain⟨h3,h4⟩:=ZgO hj hp
   have:=h2 _ h3
   rwa [h4] at this
  ·exact hc
 refine⟨fun hr=>?_,fun j hj=>?_⟩
 ·cases r with
  | none=>
   obtain⟨h1,h2⟩:=h.no rfl
   exact⟨h1,hall 0 Rat.le_refl h2⟩
  | some k=>cases hr
 ·cases r with
  | none=>cases hj
  | some k=>
   obtain rfl:(pick P n).getD k 0=j:=Option.some.inj hj
   obtain⟨h1,h2,h3,h4,h5⟩:=h.yes k rfl
   obtain⟨h6,h7⟩:=Zg1 h1
   rw[if_pos h7]
   refine⟨h6,h2,h3,hall _ (by grind) h4,fun j hj=>?_⟩
   split
   ·rename_i hp
    obtain⟨h8,h9⟩:=ZgO (Nat.lt_trans hj h6) hp
    have h10:(pick P j).length<k:=by
     rcases Nat.lt_or_ge (pick P j).length k with h | h
     ·exact h
     ·exfalso
      rcases Nat.lt_or_ge k (pick P j).length with h11 | h11
      ·have:=Zlb h8 h11
       omega
      ·have e:k=(pick P j).length:=by omega
       rw[e] at hj
       omega
    have:=h5 _ h10
    rwa [h9] at this
   ·grind
def bump (p:List (List Int)) (u i:Nat) (d:Int):List (List Int):=p.modify u fun l=>l.modify i fun x=>x+d
theorem Zas (p:List (List Int)) (u i:Nat) (d:Int):(bump p u i d).length=p.length:=by simp[bump]
theorem Zib {p:List (List Int)} {u i:Nat} {d:Int} {v:Nat} (h:v<(bump p u i d).length):(bump p u i d)[v].length=(p[v]'(by simpa[bump] using h)).length:=by
 simp only[bump,List.getElem_modify]
 split<;>simp
theorem Zhl {p:List (List Int)} {u i:Nat} {d:Int} (hu:u<p.length) (hi:i<p[u].length):pN (bump p u i d) u i=pN p u i+d:=by
 simp[pN,bump,List.getD,hu,hi]
theorem Zee {p:List (List Int)} {u i v j:Nat} {d:Int} (h:v≠u∨j≠i):pN (bump p u i d) v j=pN p v j:=by
 unfold pN bump
 rw[List.getD_eq_getElem?_getD,List.getD_eq_getElem?_getD,List.getElem?_modify]
 by_cases hv:u=v
 ·subst hv
  have hj:¬ i=j:=by rcases h with h | h<;>omega
  rw[List.getD_eq_getElem?_getD,List.getD_eq_getElem?_getD]
  cases hp:p[u]? with
  | none=>simp
  | some l=>simp[List.getElem?_modify,hj]
 ·simp[hv]
def Zab (t:TaskP) (p:List (List Int)) (u:Nat):Int:=eH t u-ZR p u t.sites.length
noncomputable def Zai (t:TaskP) (p:List (List Int)) (u i:Nat):Rat:=wR t i*(chF (eS t i).curve (covR t p i+rR t u i)-chF (eS t i).curve (covR t p i))
noncomputable def Zac (t:TaskP) (p:List (List Int)) (j:Nat):Rat:=if 0<Zab t p (j/t.sites.length) then Zai t p (j/t.sites.length) (j % t.sites.length) else 0
inductive GreedyR (t:TaskP):List (List Int)→List (List Int)→Prop
 | done {p:List (List Int)} {m:Rat} (h:Best (Zac t p) (t.hours.length*t.sites.length) none m):GreedyR t p p
 | step {p q:List (List Int)} {j:Nat} {m:Rat} (h:Best (Zac t p) (t.hours.length*t.sites.length) (some j) m) (hq:GreedyR t (bump p (j/t.sites.length) (j % t.sites.length) 1) q):GreedyR t p q
theorem GreedyR.det {t:TaskP} {p q r:List (List Int)} (h:GreedyR t p q) (g:GreedyR t p r):q=r:=by
 induction h generalizing r with
 | done h=>
  cases g with
  | done _=>rfl
  | step g _=>cases (h.det g).1
 | step h _ ih=>
  cases g with
  | done g=>cases (h.det g).1
  | step g hq=>
   obtain rfl:=Option.some.inj (h.det g).1
   exact ih hq
def Zr (t:TaskP):List (List Int):=t.hours.map fun _=>List.replicate t.sites.length 0
noncomputable def valF (t:TaskP) (p:List (List Int)) (i:Nat):Rat:=wR t i*chF (eS t i).curve (covR t p i)
def Stay (S:Nat→Prop) (Q:World→Prop) (w:World):Prop:=∀ w',Keeps S w w'→Q w'
section
variable {S S':Nat→Prop} {Q Q':World→Prop} {w w':World}
theorem Stay.keep (h:Stay S Q w) (hk:Keeps S w w'):Stay S Q w':=fun w2 h2=>h w2 (hk.trans h2)
theorem Stay.wide (h:Stay S Q w) (hS:∀ b,S b→S' b):Stay S' Q w:=fun w2 h2=>h w2 (h2.mono fun b _ hb=>hS b hb)
theorem Stay.imp (h:Stay S Q w) (hq:∀ v,Q v→Q' v):Stay S Q' w:=fun w2 h2=>hq _ (h w2 h2)
theorem Stay.and (h:Stay S Q w) (h':Stay S Q' w):Stay S (fun v=>Q v∧Q' v) w:=fun w2 h2=>⟨h w2 h2,h' w2 h2⟩
theorem Keeps.toBelow {B:Nat} (h:Keeps (fun b=>b<B) w w') (hB:B≤w.heap.size):Below B w w':=⟨h.os,h.tape,h.output,h.size,fun k hk=>h.block k (by omega) hk⟩
theorem _root_.Go.RowKit.Below.keepsS (h:Below w.heap.size w w') (S:Nat→Prop):Keeps S w w':=⟨h.os,h.tape,h.output,h.size,fun k hk _=>h.block k hk⟩
theorem Stay.of {B:Nat} (hB:B≤w.heap.size) (h:∀ w',Below B w w'→Q w'):Stay (fun b=>b<B) Q w:=fun w2 h2=>h w2 (h2.toBelow hB)
end
structure EnvS (S:Nat→Prop) (w0:World) (bs:List (Nat×Obj)) (w:World):Prop where
 base:Keeps S w0 w
 up:∀ b,w0.heap.size≤b→S b
 cells:∀ (i:Nat) (p:Nat×Obj),bs[i]?=some p→w0.heap.size≤p.1∧w.heap[p.1]?=some p.2
 apart:∀ (i j:Nat) (p q:Nat×Obj),bs[i]?=some p→bs[j]?=some q→p.1=q.1→i=j
section
variable {S:Nat→Prop} {w0 w w':World} {bs:List (Nat×Obj)}
theorem EnvS.start (w:World) (hu:∀ b,w.heap.size≤b→S b):EnvS S w [] w:=⟨Keeps.refl _ w,hu,fun i p h=>by simp at h,fun i j p q h=>by simp at h⟩
theorem EnvS.own (h:EnvS S w0 bs w):w0.heap.size≤w.heap.size:=h.base.size
theorem EnvS.keep (h:EnvS S w0 bs w) (hk:Keeps S w w'):EnvS S w0 bs w' where
 base:=h.base.trans hk
 up:=h.up
 cells:=fun i p hp=>by
  obtain⟨h1,h2⟩:=h.cells i p hp
  exact⟨h1,(hk.block _ (Array.getElem?_eq_some_iff.1 h2).1 (h.up _ h1)).trans h2⟩
 apart:=h.apart
theorem EnvS.step (h:EnvS S w0 bs w) (hb:Below w.heap.size w w'):EnvS S w0 bs w':=h.keep (hb.keepsS S)
theorem EnvS.drew (h:EnvS S w0 bs w):EnvS S w0 bs w.drew:=h.step (Below.refl _ w).drew
theorem EnvS.push (h:EnvS S w0 bs w) (o:Obj) {g:Nat} (hg:g=w.heap.size):EnvS S w0 ((g,o)::bs) (w.alloc o):=by
 subst hg
 have h':=h.step ((Below.refl _ w).alloc ZnW o)
 have hlt:∀ (j:Nat) (p:Nat×Obj),bs[j]?=some p→p.1<w.heap.size:=fun j p hp=>(Array.getElem?_eq_some_iff.1 (h.cells j p hp).2).1
 refine⟨h'.base,h.up,fun i p hp=>?_,fun i j p q hp hq e=>?_⟩
 ·cases i with
  | zero=>
   obtain rfl:=Option.some.inj hp
   exact⟨h.own,World.alloc_heap_new w o⟩
  | succ i=>exact h'.cells i p (by simpa using hp)
 ·cases i with
  | zero=>
   cases j with
   | zero=>rfl
   | succ j=>
    obtain rfl:=Option.some.inj hp
    have:=hlt j q (by simpa using hq)
    simp only at e
    omega
  | succ i=>
   cases j with
   | zero=>
    obtain rfl:=Option.some.inj hq
    have:=hlt i p (by simpa using hp)
    simp only at e
    omega
   | succ j=>rw[h.apart i j p q (by simpa using hp) (by simpa using hq) e]
theorem EnvS.block (h:EnvS S w0 bs w) (i:Nat) {g:Nat} {o:Obj} (hi:bs[i]?=some (g,o)):w.heap[g]?=some o:=(h.cells i _ hi).2
theorem EnvS.lt (h:EnvS S w0 bs w) (i:Nat) {g:Nat} {o:Obj} (hi:bs[i]?=some (g,o)):g<w.heap.size:=(Array.getElem?_eq_some_iff.1 (h.block i hi)).1
theorem EnvS.le (h:EnvS S w0 bs w) (i:Nat) {g:Nat} {o:Obj} (hi:bs[i]?=some (g,o)):w0.heap.size≤g:=(h.cells i _ hi).1
theorem EnvS.cell (h:EnvS S w0 bs w) (i j:Nat) {g:Nat} {cs:Array Value} {T:TypeId} {v:Value} (hi:bs[i]?=some (g,.cells cs T (0,0))) (hv:cs[j]?=some v):w.cell? ⟨g,j,none⟩=some v:=Za (h.block i hi) j hv
theorem EnvS.free (h:EnvS S w0 bs w) (i j:Nat) {g:Nat} {cs:Array Value} {T:TypeId} (hi:bs[i]?=some (g,.cells cs T (0,0))):w.frozen? ⟨g,j,none⟩=false:=Zc (h.block i hi) j
theorem EnvS.put (h:EnvS S w0 bs w) (i:Nat) {g:Nat} {o:Obj} (o':Obj) (hi:bs[i]?=some (g,o)) (hw:w'.heap[g]?=some o') (hk:Keeps (fun b=>b≠g) w w'):EnvS S w0 (bs.set i (g,o')) w':=by
 have hil:i<bs.length:=(List.getElem?_eq_some_iff.1 hi).1
 have hget:∀ (j:Nat) (p:Nat×Obj),(bs.set i (g,o'))[j]?=some p→(j=i∧p=(g,o'))∨(j≠i∧bs[j]?=some p):=fun j p hp=>by
  by_cases e:j=i
  ·subst e
   rw[List.getElem?_set_self hil] at hp
   exact .inl ⟨rfl,(Option.some.inj hp).symm⟩
  ·rw[List.getElem?_set_ne (Ne.symm e)] at hp
   exact .inr ⟨e,hp⟩
 have hB:w0.heap.size≤g:=h.le i hi
 refine⟨⟨hk.os.trans h.base.os,hk.tape.trans h.base.tape,hk.output.trans h.base.output,Nat.le_trans h.own hk.size,fun k hlt hs=>(hk.block k (by have:=h.own;omega) (by omega)).trans (h.base.block k hlt hs)⟩,h.up,fun j p hp=>?_,fun j k p q hp hq e=>?_⟩
 ·rcases hget j p hp with ⟨rfl,rfl⟩ | ⟨hne,hp⟩
  ·exact⟨hB,hw⟩
  ·obtain⟨h1,h2⟩:=h.cells j p hp
   refine⟨h1,?_⟩
   rw[hk.block _ (Array.getElem?_eq_some_iff.1 h2).1 (fun e=>hne (h.apart j i p _ hp hi e))]
   exact h2
 ·rcases hget j p hp with ⟨e1,e2⟩ | ⟨hne,hp'⟩
  ·rcases hget k q hq with ⟨e3,e4⟩ | ⟨hne2,hq'⟩
   ·rw[e1,e3]
   ·rw[e2] at e
    rw[e1]
    exact h.apart i k _ q hi hq' e
  ·rcases hget k q hq with ⟨e3,e4⟩ | ⟨hne2,hq'⟩
   ·rw[e4] at e
    rw[e3]
    exact h.apart j i p _ hp' hi e
   ·exact h.apart j k p q hp' hq' e
theorem EnvS.store (h:EnvS S w0 bs w) (i j:Nat) {g:Nat} {cs:Array Value} {T:TypeId} (v:Value) (hi:bs[i]?=some (g,.cells cs T (0,0))):EnvS S w0 (bs.set i (g,.cells (cs.set! j v) T (0,0))) (w.setCell ⟨g,j,none⟩ v):=
 h.put i (.cells (cs.set! j v) T (0,0)) hi (Joins.block_setCell (h.block i hi) v) ((Keeps.refl _ w).setCell (by simp) v)
theorem EnvS.fill {g:Nat} {a b:Value} {T:TypeId} (h:EnvS S w0 ((g,.cells #[a,b] T (0,0))::bs) w) (x y:Value):EnvS S w0 ((g,.cells #[x,y] T (0,0))::bs) ((w.setCell ⟨g,0,none⟩ x).setCell ⟨g,1,none⟩ y):=
 h.put 0 (.cells #[x,y] T (0,0)) rfl (Z5 (h.block 0 rfl) x y) (((Keeps.refl _ w).setCell (by simp) x).setCell (by simp) y)
theorem EnvS.laid (h:EnvS S w0 bs w) (hb:Keeps S w w') {g:Nat} {o:Obj} (hg:w'.heap[g]?=some o) (hle:w.heap.size≤g):EnvS S w0 ((g,o)::bs) w':=by
 have h':=h.keep hb
 have hlt:∀ (j:Nat) (p:Nat×Obj),bs[j]?=some p→p.1<w.heap.size:=fun j p hp=>(Array.getElem?_eq_some_iff.1 (h.cells j p hp).2).1
 refine⟨h'.base,h.up,fun i p hp=>?_,fun i j p q hp hq e=>?_⟩
 ·cases i with
  | zero=>
   obtain rfl:=Option.some.inj hp
   exact⟨Nat.le_trans h.own hle,hg⟩
  | succ i=>exact h'.cells i p (by simpa using hp)
 ·cases i with
  | zero=>
   cases j with
   | zero=>rfl
   | succ j=>
    obtain rfl:=Option.some.inj hp
    have:=hlt j q (by simpa using hq)
    simp only at e
    omega
  | succ i=>
   cases j with
   | zero=>
    obtain rfl:=Option.some.inj hq
    have:=hlt i p (by simpa using hp)
    simp only at e
    omega
   | succ j=>rw[h.apart i j p q (by simpa using hp) (by simpa using hq) e]
theorem EnvS.only (h:EnvS S w0 bs w) (is:List Nat) (bs':List (Nat×Obj)) (hb:bs'=is.filterMap (fun i=>bs[i]?)) (hn:is.Nodup):EnvS S w0 bs' w:=by
 subst hb
 have hget:∀ (k:Nat) (p:Nat×Obj),(is.filterMap (fun i=>bs[i]?))[k]?=some p→∃ i ∈ is,bs[i]?=some p:=fun k p hp=>by
  have:=List.mem_of_getElem? hp
  rw[List.mem_filterMap] at this
  exact this
 refine⟨h.base,h.up,fun i p hp=>?_,?_⟩
 ·obtain⟨j,_,hj⟩:=hget i p hp
  exact h.cells j p hj
 ·have hp:(is.filterMap (fun i=>bs[i]?)).Pairwise (fun a b=>a.1≠b.1):=by
   rw[List.pairwise_filterMap]
   refine List.Pairwise.imp ?_ hn
   intro a b hab p hp q hq e
   exact hab (h.apart a b p q hp hq e)
  intro i j p q h1 h2 e
  rcases Nat.lt_trichotomy i j with hlt | rfl | hlt
  ·obtain⟨l1,e1⟩:=List.getElem?_eq_some_iff.1 h1
   obtain⟨l2,e2⟩:=List.getElem?_eq_some_iff.1 h2
   have:=(List.pairwise_iff_getElem.1 hp) i j l1 l2 hlt
   rw[e1,e2] at this
   exact absurd e this
  ·rfl
  ·obtain⟨l1,e1⟩:=List.getElem?_eq_some_iff.1 h1
   obtain⟨l2,e2⟩:=List.getElem?_eq_some_iff.1 h2
   have:=(List.pairwise_iff_getElem.1 hp) j i l2 l1 hlt
   rw[e1,e2] at this
   exact absurd e.symm this
end
end Go.Proofs.YtmpaflidennnoaaGreatDoor
namespace Go.Proofs.YtmpaflidennnoaaGreatDoor
open Go.RowKit Go.Shelf Go.ChangeMaps Go.MapKept Go.ChangeShapes
open Go.WideElems (Fit rd rg rd_val)
abbrev kA (i:Int) (s t:ByteArray):Value:=.agg #[.int .i64 i,.string s,.string t]
theorem Zkl:laidOutB Tryz.prog=true:=by kernel_rfl
theorem ZlG:(201:TypeId)<Tryz.prog.types.size:=of_decide_eq_true (by kernel_rfl)
theorem ZjS:(match Tryz.prog.underlying 201 with | some (.array _ _) | some (.struct _)=>true | _=>false)=true:=by rw[Tryz.underlying201]
theorem ZkX:Tryz.prog.keyTypeAt 3 201=true:=by kernel_rfl
theorem ZdF:Maps.Keyed Tryz.prog 201:=Maps.Keyed.of_law (deep_law_laid Zkl (m:=3) (by omega) ZlG ZkX ZjS)
theorem Zhy:Tryz.prog.keyType 201=true:=by kernel_rfl
theorem Zfq:Tryz.prog.cellsOf 201=3:=by kernel_rfl
theorem ZiP:Tryz.prog.cellsOf 41=2:=by kernel_rfl
theorem Zlv:Tryz.prog.cellsOf 39=1:=by kernel_rfl
theorem Zky:Tryz.prog.cellsOf 3=1:=by kernel_rfl
theorem ZfZ {i:Int} (s t:ByteArray) (h:0≤i∧i≤63) (hs:s.size≤maxLen) (ht:t.size≤maxLen):∃ kl,keyOf Tryz.prog 201 (kA i s t)=some kl:=by
 have w:(Lit.int .i64 i).wf=true:=by
  have e1:IntKind.i64.min = -9223372036854775808:=by decide
  have e2:IntKind.i64.max=9223372036854775807:=by decide
  simp only[Lit.wf,e1,e2,Bool.and_eq_true,decide_eq_true_eq]
  omega
 obtain⟨m,hm⟩:∃ m,Tryz.prog.types.size=m+1+1:=⟨Tryz.prog.types.size-2,by have h:2≤Tryz.prog.types.size:=of_decide_eq_true (by kernel_rfl);omega⟩
 have hf:(kA i s t).formed Tryz.prog 201=true:=by simp[Value.formed,Tryz.underlying201,Zfq]
 unfold keyOf
 rw[Tryz.underlying201]
 simp only[Zhy,hf,Bool.and_self,if_true,hm,Value.cells]
 simp[Program.keyLits,Tryz.underlying201,Tryz.underlying3,Tryz.underlying41,Tryz.underlying39,Zfq,ZiP,Zlv,Zky,List.range,List.range.loop,w]
 rw[if_pos (by intro i hi;rcases i with _ | _ | i<;>first | omega | (simp;done))]
 simp[hs,ht]
def noR:Value→Option (DataW Unit×List MemPlace):=fun _=>some (.nil,[])
def Znx (t:TaskP) (e:MapEntry):Prop:=∃ (i:Nat) (q:Rat) (s u x y:ByteArray),e.key=kA i s u∧e.val=pV x y∧i<t.sites.length∧IsP q s u∧IsP (chF (eS t i).curve q) x y
def Memo (w:World) (m:Nat) (t:TaskP) (n:Nat):Prop:=
 ∃ es clock,w.heap[m]?=some (.map es clock)∧Fit Tryz.prog 201 noR es clock∧es.size≤n∧∀ e ∈ es.toList,Znx t e
theorem Memo.lt {w:World} {m n:Nat} {t:TaskP} (h:Memo w m t n):m<w.heap.size:=by
 obtain⟨es,clock,h1,_⟩:=h
 exact(Array.getElem?_eq_some_iff.1 h1).1
theorem Memo.mono {w:World} {m n k:Nat} {t:TaskP} (h:Memo w m t n) (hk:n≤k):Memo w m t k:=by
 obtain⟨es,clock,h1,h2,h3,h4⟩:=h
 exact⟨es,clock,h1,h2,by omega,h4⟩
theorem Memo.stay {w w':World} {m n:Nat} {t:TaskP} (h:Memo w m t n) (hw:w'.heap[m]?=w.heap[m]?):Memo w' m t n:=by
 obtain⟨es,clock,h1,h2,h3,h4⟩:=h
 exact⟨es,clock,hw.trans h1,h2,h3,h4⟩
theorem Memo.step {w w':World} {m n:Nat} {t:TaskP} (h:Memo w m t n) (hb:Below w.heap.size w w'):Memo w' m t n:=h.stay (hb.block m h.lt)
theorem Memo.made (w:World) (t:TaskP):Memo (w.alloc (.map #[] 0)) w.heap.size t 0:=
 ⟨#[],0,(MapKept.heap_alloc w _).1,⟨by simp,stamped_empty 0,by simp⟩,Nat.le_refl _,by simp⟩
theorem Zg6 (w:World):(zeroValue 41).run Tryz.prog w=.ok (pV ⟨#[]⟩ ⟨#[]⟩) w:=by kernel_rfl
theorem Memo.look {w:World} {m n:Nat} {t:TaskP} (h:Memo w m t n) {i:Nat} (hi:i<t.sites.length) (hN:t.sites.length≤24) {q:Rat} {s u:ByteArray} (hq:IsP q s u) :
  (∃ x y,IsP (chF (eS t i).curve q) x y∧∀ w',w'.heap[m]?=w.heap[m]?→(Instr.lookup 93 (.map (some m)) (kA i s u) true).run Tryz.prog w'=.ok (.tuple #[pV x y,.bool true]) w')∨
  ∀ w',w'.heap[m]?=w.heap[m]?→(Instr.lookup 93 (.map (some m)) (kA i s u) true).run Tryz.prog w'=.ok (.tuple #[pV ⟨#[]⟩ ⟨#[]⟩,.bool false]) w':=by
 obtain⟨es,clock,hb,F,hs,hg⟩:=h
 have hl:=hq.small
 obtain⟨kl,hkl⟩:=ZfZ (i:=(i:Nat)) s u (by omega) (by unfold maxLen;omega) (by unfold maxLen;omega)
 have one:∀ e ∈ es.toList,e.key=kA i s u→∃ x y,e.val=pV x y∧IsP (chF (eS t i).curve q) x y:=fun e he hk=>by
  obtain⟨j,q',s',u',x,y,e1,e2,e3,e4,e5⟩:=hg e he
  rw[hk] at e1
  have e6:((i:Nat):Int)=j∧s=s'∧u=u':=by simpa[kA] using e1
  obtain⟨e7,rfl,rfl⟩:=e6
  obtain rfl:i=j:=by omega
  obtain rfl:q=q':=hq.inj e4 rfl rfl
  exact⟨x,y,e2,e5⟩
 by_cases hex:∃ e ∈ es.toList,e.key=kA i s u
 ·obtain⟨e,he,hk⟩:=hex
  obtain⟨x,y,e1,e2⟩:=one e he hk
  refine .inl ⟨x,y,e2,fun w' hw=>?_⟩
  rcases Maps.fit_look true ZdF Tryz.underlying93 (Zg6 w') (hw.trans hb) F hkl with ⟨_,hno,_⟩ | ⟨e0,y0,hm0,h3,hrun,_⟩
  ·exact absurd hk (hno e he)
  ·obtain⟨x',y',f1,f2⟩:=one e0 hm0 h3
   obtain⟨rfl,rfl⟩:=f2.one e2
   rw[f1] at hrun
   exact hrun
 ·refine .inr fun w' hw=>?_
  rcases Maps.fit_look true ZdF Tryz.underlying93 (Zg6 w') (hw.trans hb) F hkl with ⟨hrun,_⟩ | ⟨e0,y0,hm0,h3,_⟩
  ·exact hrun
  ·exact absurd ⟨e0,hm0,h3⟩ hex
theorem Memo.put {w:World} {m n:Nat} {t:TaskP} (h:Memo w m t n) {i:Nat} (hi:i<t.sites.length) (hN:t.sites.length≤24) {q:Rat} {s u x y:ByteArray} (hq:IsP q s u) (hx:IsP (chF (eS t i).curve q) x y) (hn:n≤1000000000000) :
  ∃ w2,(Instr.mapUpdate 93 (.map (some m)) (kA i s u) (pV x y)).run Tryz.prog w=.ok () w2∧Memo w2 m t (n+1)∧Keeps (fun b=>b≠m) w w2:=by
 obtain⟨es,clock,hb,F,hs,hg⟩:=h
 have hl:=hq.small
 obtain⟨kl,hkl⟩:=ZfZ (i:=(i:Nat)) s u (by omega) (by unfold maxLen;omega) (by unfold maxLen;omega)
 obtain⟨es',clock',hrun,F',hput,_,_,hwho⟩:=Maps.fit_store (R':=noR) (val:=pV x y) ZdF Tryz.underlying93 hb F (by unfold maxLen;omega) (fun _ _ _ _ hz=>hz) hkl (yv:=(.nil,[])) rfl
 refine⟨_,hrun,⟨es',clock',heap_setBlock_same hb _,F',?_,fun e he=>?_⟩,⟨rfl,rfl,rfl,by simp[setBlock],fun k _ hk=>heap_setBlock_other hb _ hk⟩⟩
 ·have e1:es'.size=((es'.toList.map (rg Tryz.prog 201 noR)).foldr DataW.insert []).length:=by rw[length_sorted];simp
  have e2:=List.length_filter_le (notKey kl) ((es.toList.map (rg Tryz.prog 201 noR)).foldr DataW.insert [])
  rw[length_sorted] at e2
  rw[e1,hput]
  unfold putKey
  rw[length_insert]
  simp at e2
  omega
 ·rcases hwho e he with ⟨h1,_⟩ | ⟨h1,h2⟩
  ·exact hg e h1
  ·exact⟨i,q,s,u,x,y,h1,h2,hi,hq,hx⟩
end Go.Proofs.YtmpaflidennnoaaGreatDoor
namespace Go.Proofs.YtmpaflidennnoaaGreatDoor
open Go.RowKit Go.Shelf
attribute [local go_sem ↓] Go.wp_at_zero Go.wp_at_succ
structure EffZ (w:World):Prop where
 z0:w.cell? ⟨0,0,none⟩=some (.string ⟨#[48]⟩)
 z1:w.cell? ⟨0,1,none⟩=some (.string ⟨#[49]⟩)
theorem EffZ.below {w w':World} {B:Nat} (h:EffZ w) (hb:Below B w w') (hB:w.heap.size≤B):EffZ w':=
 ⟨(hb.cell (Nat.lt_of_lt_of_le (World.block_lt_of_cell? _ _ h.z0) hB)).trans h.z0,(hb.cell (Nat.lt_of_lt_of_le (World.block_lt_of_cell? _ _ h.z1) hB)).trans h.z1⟩
theorem ZcB (n low high:Int) (w:World):Calls Tryz.prog 76 #[.int .i64 n,.int .i64 low,.int .i64 high] w (ZP w (decide (low≤n) && decide (n≤high))):=by
 by_cases h1:low≤n
 ·by_cases h2:n≤high
  ·go_enter Tryz.func76,Tryz.ntmps76
   go_wp2
   go_ret
   exact⟨by simp[h1,h2],Below.refl _ _⟩
  ·go_enter Tryz.func76,Tryz.ntmps76
   go_wp2
   go_ret
   exact⟨by simp[h1,h2],Below.refl _ _⟩
 ·go_enter Tryz.func76,Tryz.ntmps76
  go_wp2
  go_ret
  exact⟨by rw[decide_eq_false (show ¬ low≤n by omega)];rfl,Below.refl _ _⟩
def Zdb (n:Int):Ending:=.panicked [{ v:=.iface 141 (.agg #[.int .i64 n]),recovered:=false }]
def ZnF (s t:ByteArray) (n:Int) (w:World) (e:Ending) (w':World):Prop:=
 ((n=0∧e=.returned (.agg #[.string s,.string t]))∨(n≠0∧e=Zdb n))∧Below w.heap.size w w'
theorem ZdC (s t:ByteArray) (n:Int) (w:World):Calls Tryz.prog 103 #[.agg #[.string s,.string t],.int .i64 n] w (ZnF s t n w):=by
 by_cases hn:n=0
 ·have h0:(n !=0)=false:=by rw[bne_eq_false_iff_eq];exact hn
  have H0:=ZnV hn
  clear hn
  go_enter Tryz.func103,Tryz.ntmps103
  go_wp2
  refine bodyPost_ret (v:=.agg #[.string s,.string t]) (by simp[results,Tryz.f103,go_sem]) rfl ⟨.inl ⟨H0.out,rfl⟩,((Below.refl _ w).alloc ZnW _).alloc (by simp) _⟩
 ·have h0:(n !=0)=true:=by rw[bne_iff_ne];exact hn
  have H0:=ZnV hn
  clear hn
  go_enter Tryz.func103,Tryz.ntmps103
  go_wp2
  refine⟨rfl,.inr ⟨H0.out,rfl⟩,((Below.refl _ w).alloc ZnW _).alloc (by simp) _⟩
theorem Zmi (s t:ByteArray) (w:World):Calls Tryz.prog 103 #[pV s t,.int .i64 0] w (ZM (pV s t) w):=
 (ZdC s t 0 w).mono fun e w' ⟨h,hb⟩=>by
  rcases h with ⟨_,rfl⟩ | ⟨h,_⟩
  ·exact⟨rfl,hb⟩
  ·exact absurd rfl h
theorem Zeb (k:Nat) (s t:ByteArray) (hs:s.size≤1000000) (ht:t.size≤1000000) (w:World) :
  Calls Tryz.prog 63 #[pV s t,.int .i64 k] w (ZP w (Zh k (s,t))):=by
 have HAL:=ZnV ((Below.refl w.heap.size w).alloc ZnW (pObj s t))
 by_cases h1:(k:Int)<s.size
 ·have HR:Hid (Zh k (s,t)=false):=by
   show _=_
   unfold Zh
   rw[decide_eq_false (p:=(s,t).1.size≤k) (by show ¬ s.size≤k;omega)]
   simp
  go_enter Tryz.func63,Tryz.ntmps63
  go_wp2
  go_ret
  exact⟨by rw[HR.out];rfl,HAL.out⟩
 ·by_cases h2:(k:Int)<t.size
  ·have HR:Hid (Zh k (s,t)=false):=by
    show _=_
    unfold Zh
    rw[decide_eq_false (p:=(s,t).2.size≤k) (by show ¬ t.size≤k;omega)]
    simp
   go_enter Tryz.func63,Tryz.ntmps63
   go_wp2
   go_ret
   exact⟨by rw[HR.out];rfl,HAL.out⟩
  ·cases h3:okP s t
   ·have HR:Hid (Zh k (s,t)=false):=by unfold Zh;show _=_;simp[h3]
    have HE:=ZnV (ZaB h3)
    clear h3
    go_enter Tryz.func63,Tryz.ntmps63
    go_wp2_with fail
    refine(ZaH s t _ hs ht).mono ?_
    rintro e w2 ⟨rfl,hb⟩
    rw[HE.out]
    have HB2:=ZnV (HAL.out.trans (hb.mono HAL.out.size))
    clear hb
    go_wp2
    go_ret
    exact⟨by rw[HR.out];rfl,HB2.out⟩
   ·have HR:Hid (Zh k (s,t)=true):=by unfold Zh;show _=_;simp[h3];omega
    have HE:=ZnV (Za4 h3)
    clear h3
    go_enter Tryz.func63,Tryz.ntmps63
    go_wp2_with fail
    refine(ZaH s t _ hs ht).mono ?_
    rintro e w2 ⟨rfl,hb⟩
    rw[HE.out]
    have HB2:=ZnV (HAL.out.trans (hb.mono HAL.out.size))
    clear hb
    go_wp2
    go_ret
    exact⟨by rw[HR.out];rfl,HB2.out⟩
theorem ZiU (n:Int) (w:World):(Instr.typeAssert (.iface 141 (.agg #[.int .i64 n])) 20 141 true).run Tryz.prog w=.ok (.tuple #[.agg #[.int .i64 n],.bool true]) w:=by kernel_rfl
theorem Zi8 (w:World):(Instr.typeAssert .nilIface 20 141 true).run Tryz.prog w=.ok (.tuple #[.agg #[.int .i64 0],.bool false]) w:=by kernel_rfl
abbrev erO (n:Int):Obj:=.cells #[.int .i64 n] 30
abbrev miO (n:Int):Obj:=.cells #[.int .i64 n] 141
theorem ZcS (c:Nat) (n:Int) (older:List PanicEntry) (w:World) (hc:w.heap[c]?=some (erO 0)) :
  CallsD Tryz.prog 109 #[.pointer (some ⟨c,0,none⟩)] (.panicking ({ v:=.iface 141 (.agg #[.int .i64 n]),recovered:=false }::older)) w fun e u' w'=>
   e=.returned (.tuple #[])∧u'=.panicking ({ v:=.iface 141 (.agg #[.int .i64 n]),recovered:=true }::older)∧w'.heap[c]?=some (erO n)∧Keeps (fun i=>i≠c) w w':=by
 have c0:=Za hc 0 rfl
 have f0:=Zc hc 0
 have hta:=ZiU n
 have hcl:=(Array.getElem?_eq_some_iff.1 hc).1
 refine callsD_of_wpS Tryz.func109 rfl fun c₀ cs hu=>?_
 apply wpS_seq
 apply wpS_region
 simp[wpOpsS,go_sem,recoverD,hu,Tryz.ntmps109,Exit.thenS]
 refine wpS_of_wp ?_
 simp only[Array.replicate_succ,Array.replicate_zero,List.push_toArray,List.append_toArray,List.nil_append,List.cons_append,List.setIfInBounds_toArray,List.set_cons_zero,List.set_cons_succ]
 have hcm:((w.alloc (miO n))).cell? ⟨c,0,none⟩=some (.int .i64 0):=(Z1 _ _ _ hcl).trans c0
 have hcf:((w.alloc (miO n))).frozen? ⟨c,0,none⟩=false:=(ZcX _ _ _ hcl).trans f0
 go_wp2
 exact⟨rfl,_,rfl,.tuple #[],by simp[results,Tryz.f109,go_sem],rfl,rfl,(Below.heap_alloc _ _ _ (by simpa[World.setCell] using hcl)).trans (Joins.block_setCell hc _),((Keeps.refl _ w).setCell (p:=⟨c,0,none⟩) (by simp) _).alloc _⟩
theorem ZeK (c:Nat) (w:World) :
  CallsD Tryz.prog 109 #[.pointer (some ⟨c,0,none⟩)] .returning w fun e u' w'=>
   e=.returned (.tuple #[])∧u'=.returning∧w'=w.alloc (miO 0):=by
 have hta:=Zi8
 refine callsD_of_wpS Tryz.func109 rfl fun c₀ cs hu=>?_
 apply wpS_seq
 apply wpS_region
 simp[wpOpsS,go_sem,recoverD,hu,Tryz.ntmps109,Exit.thenS]
 refine wpS_of_wp ?_
 simp only[Array.replicate_succ,Array.replicate_zero,List.push_toArray,List.append_toArray,List.nil_append,List.cons_append,List.setIfInBounds_toArray,List.set_cons_zero,List.set_cons_succ]
 go_wp2
 exact⟨rfl,.returning,by cases c₀;simp_all,.tuple #[],by simp[results,Tryz.f109,go_sem],rfl,rfl,rfl⟩
def ZhN (Q:Int→World→Prop) (S:Nat→Prop) (w:World) (e:Ending) (w':World):Prop:=
 ∃ n,((n=0∧e=.returned (.tuple #[]))∨(n≠0∧e=Zdb n))∧Q n w'∧Keeps S w w'
def ZeN (Q:Int→World→Prop) (S:Nat→Prop) (w:World) (e:Ending) (w':World):Prop:=∃ n,e=.returned (.int .i64 n)∧Q n w'∧Keeps S w w'
theorem Zf9 {f:Nat} {caps:Array Value} (hent:∀ args w,(callFunc f args).run Tryz.prog w=.ok (.enter f args) w) {Q:Int→World→Prop} {S:Nat→Prop} {w:World} (hS:∀ b,w.heap.size≤b→S b)
  (hQ:∀ n W W',Q n W→Keeps (fun b=>b≠w.heap.size) W W'→Q n W')
  (hdo:Calls Tryz.prog f caps (w.alloc (erO 0)) (ZhN Q S (w.alloc (erO 0)))) :
  Calls Tryz.prog 50 #[.func (.func f) #[] caps] w (ZeN Q S w):=by
 have hmf:∀ (fn:Fn) (first cap:Array Value) (w:World),(Instr.makeFunc fn first cap).run Tryz.prog w=.ok (.func fn first cap) w:=fun _ _ _ _=>rfl
 have HD:=ZnV hdo
 have HQ:=ZnV hQ
 have HSS:=ZnV hS
 clear hdo hQ hS
 go_enter_defers Tryz.func50,Tryz.ntmps50
 go_wp2_with fail
 refine HD.out.mono ?_
 rintro e w2 ⟨n,hE,hA,hk⟩
 have he2:w2.heap[w.heap.size]?=some (erO 0):=(hk.block _ (by simp) (HSS.out _ ZnW)).trans (World.alloc_heap_new w _)
 have HA:=ZnV hA
 have HK2:Hid (Keeps S w w2):=((Keeps.refl S w).alloc _).trans hk
 obtain⟨p,hpp⟩:=ZnX w.heap.size
 rw[hpp] at he2 ⊢
 have HPP:=ZnV hpp
 clear hk hA hpp HD
 rcases hE with ⟨rfl,rfl⟩ | ⟨hn,rfl⟩
 ·have d0:=Za he2 0 rfl
  have g0:=Zc he2 0
  have HE2:=ZnV he2
  clear he2
  go_wp2
  obtain⟨w3,hw3⟩:=ZnX ((w2.setCell ⟨p,0,none⟩ (.int .i64 0)))
  have he3:w3.heap[p]?=some (erO 0):=by rw[← hw3];exact Joins.block_setCell HE2.out _
  have hk3:Keeps (fun b=>b≠p) w2 w3:=by rw[← hw3];exact(Keeps.refl _ w2).setCell (p:=⟨p,0,none⟩) (fun h=>h rfl) _
  rw[hw3]
  clear hw3 d0 g0
  have hl3:=(Array.getElem?_eq_some_iff.1 he3).1
  refine leaves_cons (f:=109) (args:=#[.pointer (some ⟨p,0,none⟩)]) (by simp) (by simp[go_sem]) ?_
  refine(ZeK p _).mono ?_
  rintro e u' w'' ⟨rfl,rfl,rfl⟩
  have q2:(w3.alloc (miO 0)).cell? ⟨p,0,none⟩=some (.int .i64 0):=(Z1 _ _ _ hl3).trans (Za he3 0 rfl)
  have hk4:Keeps (fun b=>b≠p) w2 (w3.alloc (miO 0)):=hk3.alloc _
  refine⟨.int .i64 0,by simp[results,Tryz.f50,go_sem,q2],0,rfl,HQ.out _ _ _ HA.out (by rw[HPP.out];exact hk4),?_⟩
  have h1:=HK2.out
  refine⟨hk4.os.trans h1.os,hk4.tape.trans h1.tape,hk4.output.trans h1.output,Nat.le_trans h1.size hk4.size,fun k hk hs=>?_⟩
  have hkp:k≠p:=by have:=HPP.out;omega
  exact(hk4.block k (Nat.lt_of_lt_of_le hk h1.size) hkp).trans (h1.block k hk hs)
 ·unfold Zdb
  refine leaves_cons (f:=109) (args:=#[.pointer (some ⟨p,0,none⟩)]) (by simp) (by simp[go_sem]) ?_
  refine(ZcS p n [] _ he2).mono ?_
  rintro e u' w3 ⟨rfl,rfl,he3,hk4⟩
  have q2:w3.cell? ⟨p,0,none⟩=some (.int .i64 n):=Za he3 0 rfl
  refine⟨.int .i64 n,by simp[results,Tryz.f50,go_sem,q2],n,rfl,HQ.out _ _ _ HA.out (by rw[HPP.out];exact hk4),?_⟩
  have h1:=HK2.out
  refine⟨hk4.os.trans h1.os,hk4.tape.trans h1.tape,hk4.output.trans h1.output,Nat.le_trans h1.size hk4.size,fun k hk hs=>?_⟩
  have hkp:k≠p:=by have:=HPP.out;omega
  exact(hk4.block k (Nat.lt_of_lt_of_le hk h1.size) hkp).trans (h1.block k hk hs)
end Go.Proofs.YtmpaflidennnoaaGreatDoor
