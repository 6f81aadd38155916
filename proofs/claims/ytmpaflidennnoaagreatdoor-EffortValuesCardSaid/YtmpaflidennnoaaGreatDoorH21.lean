/- The parts EffS, EffB, EffP, EnvS, EMemo, EBase. -/
import Derived.Test.YtmpaflidennnoaaGreatDoorH20
import Derived.DeepKeys4
import Derived.Maps.OwnOps
set_option maxRecDepth 100000
set_option maxHeartbeats 4000000
set_option linter.unusedVariables false
set_option linter.unusedSimpArgs false
namespace Go.Proofs.YtmpaflidennnoaaGreatDoor
open Go.RowKit Go.Shelf
theorem Zd3 {n:Int} (h0:0<=n) (h1:n<=48):(∃ x y,IsP ((n:Int):Rat) x y)/\Sz 2 ((n:Int):Rat)/\0<=((n:Int):Rat):=by
 obtain⟨k,rfl⟩:∃ k:Nat,n=k:=⟨n.toNat,Za⟩
 have e:(((k:Nat):Int):Rat)=mkRat (k:Nat) 1:=by
  have h:∀ k:Nat,k<=48->(((k:Nat):Int):Rat)=mkRat (k:Nat) 1:=by decide +kernel
  exact h k Za
 have z:Sz 2 (mkRat (k:Nat) 1):=Sz.mk Zd Za Zd
 have n0:0<=mkRat (k:Nat) 1:=ZcH _ _
 rw[e]
 exact⟨Zaa n0 z Zd Zd,z,n0⟩
theorem Zd6 {t:TaskP} (h:TaskOk t) {u i:Nat} (hu:u<t.rates.length) (hi:i<t.sites.length):IsP (rR t u i) (eR t u i).1 (eR t u i).2/\Sz 9 (rR t u i):=by
 obtain⟨h1,h2,h3⟩:=Zai.1 ((h.team u hu).2.2 i hi)
 have:=Zav h3
 exact⟨this,this.sz h1 h2⟩
theorem Zfz {t:TaskP} (h:TaskOk t) {i:Nat} (hi:i<t.sites.length):IsP (wR t i) (eS t i).weight.1 (eS t i).weight.2/\Sz 9 (wR t i):=by
 obtain⟨h1,h2,h3⟩:=Zai.1 (h.site i hi).1
 have:=Zav h3
 exact⟨this,this.sz h1 h2⟩
def Zbu (t:TaskP) (p:List (List Int)):Prop:=p.length=t.hours.length/\(∀ u (h:u<p.length),p[u].length=t.sites.length)/\∀ u i,u<p.length->i<t.sites.length->0<=pN p u i/\pN p u i<=48
theorem PlanOk.inn {t:TaskP} {p:List (List Int)} (h:PlanOk t p):Zbu t p:=⟨h.teams,h.row,fun u i hu hi=>(h.hour u i hu hi).1⟩
theorem Zfq {t:TaskP} {p:List (List Int)} (h:TaskOk t) (hp:Zbu t p) {u i:Nat} (hu:u<p.length) (hi:i<t.sites.length) :
  (∃ x y,IsP (rR t u i*((pN p u i:Int):Rat)) x y)/\Sz 11 (rR t u i*((pN p u i:Int):Rat))/\0<=rR t u i*((pN p u i:Int):Rat):=by
 have hr:=h.rates
 have hpl:=hp.1
 obtain⟨r1,r2⟩:=Zd6 h (u:=u) (i:=i) Za hi
 obtain⟨_,w2,w3⟩:=Zd3 (hp.2.2 u i hu hi).1 (hp.2.2 u i hu hi).2
 have n0:=Rat.mul_nonneg r1.nn w3
 have z:=Sz.mul r1.nn w3 r2 w2
 exact⟨Zaa n0 z Zd Zd,z,n0⟩
theorem Zi6 {t:TaskP} {p:List (List Int)} (h:TaskOk t) (hp:Zbu t p) {i:Nat} (hi:i<t.sites.length):∀ k,k<=p.length->Sz (12*k+1) (ZaW t p i k)/\0<=ZaW t p i k
 | 0,_=>⟨(show Sz 1 (0:Rat) from ⟨by decide +kernel,by decide +kernel⟩),Rat.le_refl⟩
 | k+1,hk=>by
  obtain⟨z,n⟩:=Zi6 h hp hi k Za
  obtain⟨_,z2,n2⟩:=Zfq h hp (u:=k) Za hi
  exact⟨(Sz.add n n2 z z2).mono Za,by unfold ZaW;grind⟩
theorem ZcW {t:TaskP} {p:List (List Int)} (h:TaskOk t) (hp:Zbu t p) {i:Nat} (hi:i<t.sites.length) {k:Nat} (hk:k<=p.length):(∃ x y,IsP (ZaW t p i k) x y)/\Sz 97 (ZaW t p i k)/\0<=ZaW t p i k:=by
 obtain⟨z,n⟩:=Zi6 h hp hi k hk
 have h1:=h.teams.2
 have h2:=hp.1
 have z2:Sz 97 (ZaW t p i k):=z.mono Za
 exact⟨Zaa n z2 Zd Zd,z2,n⟩
theorem Zcv {t:TaskP} (h:TaskOk t) {i:Nat} (hi:i<t.sites.length) {q:Rat} {k:Nat} (hq:0<=q) (hz:Sz k q) (hk:k<=300):(∃ x y,IsP (chF (eS t i).curve q) x y)/\Sz (k+109) (chF (eS t i).curve q)/\0<=chF (eS t i).curve q/\chF (eS t i).curve q<=1:=by
 have hC:=(h.site i hi).2
 obtain⟨r,x,y,h1,h2,h3,h4,h5⟩:=ZlK hC hq hz hk
 rw[Ze3 hC h1]
 exact⟨⟨x,y,h2⟩,h3,h4,h5⟩
def Zap (f:Nat->Rat) (n:Nat):Prop:=∀ k,k<=n->Fits (sumF f k)
def SumE (f:Nat->Rat) (n:Nat) (x y:ByteArray) (e:Int):Prop:=(Zap f n/\IsP (sumF f n) x y/\e=0)\/(¬ Zap f n/\x=Zpa/\y=Zpa/\e=4)
theorem SumE.det {f:Nat->Rat} {n:Nat} {x y u v:ByteArray} {e d:Int} (h:SumE f n x y e) (g:SumE f n u v d):x=u/\y=v/\e=d:=by
 rcases h with ⟨h1,h2,rfl⟩ | ⟨h1,rfl,rfl,rfl⟩
 ·rcases g with ⟨_,g2,rfl⟩ | ⟨g1,_⟩
  ·obtain⟨e1,e2⟩:=Zcs h2 g2 rfl
   exact⟨e1,e2,rfl⟩
  ·exact Zo4 h1 g1
 ·rcases g with ⟨g1,_⟩ | ⟨_,rfl,rfl,rfl⟩
  ·exact Zo4 g1 h1
  ·exact⟨rfl,rfl,rfl⟩
theorem ZlU:Fits (0:Rat):=Zad.fits
theorem Zap.zero (f:Nat->Rat):Zap f 0:=fun k hk=>by
 obtain rfl:k=0:=Za
 exact ZlU
theorem Zap.step {f:Nat->Rat} {n:Nat} (h:Zap f n) (hf:Fits (sumF f n+f n)):Zap f (n+1):=fun k hk=>by
 rcases Zow n k with h1 | h1
 ·obtain rfl:k=n+1:=Za
  exact hf
 ·exact h k h1
theorem Zap.not {f:Nat->Rat} {n m:Nat} (hf:¬ Fits (sumF f n+f n)) (hm:n<m):¬ Zap f m:=fun h=>hf (h (n+1) hm)
structure Best (g:Nat->Rat) (n:Nat) (r:Option Nat) (m:Rat):Prop where
 no:r=none->m=0/\∀ k,k<n->g k<=0
 yes:∀ j,r=some j->j<n/\m=g j/\0<m/\(∀ k,k<n->g k<=g j)/\∀ k,k<j->g k<g j
theorem Best.zero (g:Nat->Rat):Best g 0 none 0:=⟨fun _=>⟨rfl,fun k h=>Zo4 h (ZoQ _)⟩,fun j h=>by cases h⟩
theorem Best.nn {g:Nat->Rat} {n:Nat} {r:Option Nat} {m:Rat} (h:Best g n r m):0<=m:=by
 cases r with
 | none=>rw[(h.no rfl).1];exact Rat.le_refl
 | some j=>exact Rat.le_of_lt (h.yes j rfl).2.2.1
theorem Best.le {g:Nat->Rat} {n:Nat} {r:Option Nat} {m:Rat} (h:Best g n r m) {k:Nat} (hk:k<n):g k<=m:=by
 cases r with
 | none=>
  rw[(h.no rfl).1]
  exact(h.no rfl).2 k hk
 | some j=>
  obtain⟨_,e,_,h2,_⟩:=h.yes j rfl
  rw[e]
  exact h2 k hk
theorem Best.up {g:Nat->Rat} {n:Nat} {r:Option Nat} {m:Rat} (h:Best g n r m) (hlt:m<g n):Best g (n+1) (some n) (g n):=by
 refine⟨fun h=>(by cases h),fun j hj=>?_⟩
 obtain rfl:=Zou hj
 have h0:=h.nn
 refine⟨Nat.lt_succ_self _,rfl,Zk,fun k hk=>?_,fun k hk=>?_⟩
 ·rcases Zow k n with h1 | h1
  ·have:=h.le h1
   grind
  ·obtain rfl:k=n:=Za
   exact Rat.le_refl
 ·have:=h.le hk
  grind
theorem Best.keep {g:Nat->Rat} {n:Nat} {r:Option Nat} {m:Rat} (h:Best g n r m) (hle:g n<=m):Best g (n+1) r m:=by
 refine⟨fun hr=>?_,fun j hj=>?_⟩
 ·obtain⟨h1,h2⟩:=h.no hr
  refine⟨h1,fun k hk=>?_⟩
  rcases Zow k n with h3 | h3
  ·exact h2 k h3
  ·obtain rfl:k=n:=Za
   rw[<- h1]
   exact hle
 ·obtain⟨h1,h2,h3,h4,h5⟩:=h.yes j hj
  refine⟨Za,h2,h3,fun k hk=>?_,h5⟩
  rcases Zow k n with h6 | h6
  ·exact h4 k h6
  ·obtain rfl:k=n:=Za
   rw[<- h2]
   exact hle
theorem Best.det {g:Nat->Rat} {n:Nat} {r s:Option Nat} {m l:Rat} (h:Best g n r m) (k:Best g n s l):r=s/\m=l:=by
 cases r with
 | none=>
  obtain⟨h1,h2⟩:=h.no rfl
  cases s with
  | none=>exact⟨rfl,by rw[h1,(k.no rfl).1]⟩
  | some j=>
   obtain⟨k1,k2,k3,_⟩:=k.yes j rfl
   have:=h2 j k1
   exfalso
   grind
 | some i=>
  obtain⟨h1,h2,h3,h4,h5⟩:=h.yes i rfl
  cases s with
  | none=>
   have:=(k.no rfl).2 i h1
   exfalso
   grind
  | some j=>
   obtain⟨k1,k2,k3,k4,k5⟩:=k.yes j rfl
   have e1:=h4 j k1
   have e2:=k4 i h1
   rcases Nat.lt_trichotomy i j with h6 | rfl | h6
   ·have:=k5 i h6
    exfalso
    grind
   ·exact⟨rfl,by rw[h2,k2]⟩
   ·have:=h5 j h6
    exfalso
    grind
theorem Best.congr {f g:Nat->Rat} {n:Nat} {r:Option Nat} {m:Rat} (h:Best f n r m) (e:∀ k,k<n->f k=g k):Best g n r m:=by
 refine⟨fun hr=>⟨(h.no hr).1,fun k hk=>by rw[<- e k hk];exact(h.no hr).2 k hk⟩,fun j hj=>?_⟩
 obtain⟨h1,h2,h3,h4,h5⟩:=h.yes j hj
 exact⟨h1,by rw[<- e j h1];exact h2,h3,fun k hk=>by rw[<- e k hk,<- e j h1];exact h4 k hk,fun k hk=>by rw[<- e k Za,<- e j h1];exact h5 k hk⟩
structure LeastQ (q:Nat->Rat) (ok:Nat->Prop) (n:Nat) (r:Option Rat):Prop where
 no:r=none->∀ u,u<n->¬ ok u
 yes:∀ c,r=some c->(∃ u,u<n/\ok u/\c=q u)/\∀ u,u<n->ok u->c<=q u
theorem LeastQ.zero (q:Nat->Rat) (ok:Nat->Prop):LeastQ q ok 0 none:=⟨fun _ u h=>Zo4 h (ZoQ _),fun c h=>by cases h⟩
theorem LeastQ.skip {q:Nat->Rat} {ok:Nat->Prop} {n:Nat} {r:Option Rat} (h:LeastQ q ok n r) (hn:¬ ok n):LeastQ q ok (n+1) r:=by
 refine⟨fun hr u hu=>?_,fun c hc=>?_⟩
 ·rcases Zow u n with h1 | h1
  ·exact h.no hr u h1
  ·obtain rfl:u=n:=Za
   exact hn
 ·obtain⟨⟨u,h1,h2,h3⟩,h4⟩:=h.yes c hc
  refine⟨⟨u,Za,h2,h3⟩,fun v hv hv2=>?_⟩
  rcases Zow v n with h5 | h5
  ·exact h4 v h5 hv2
  ·obtain rfl:v=n:=Za
   exact Zo4 hv2 hn
theorem LeastQ.take {q:Nat->Rat} {ok:Nat->Prop} {n:Nat} {r:Option Rat} (h:LeastQ q ok n r) (hn:ok n) (hl:∀ c,r=some c->q n<c):LeastQ q ok (n+1) (some (q n)):=by
 refine⟨fun h=>(by cases h),fun c hc=>?_⟩
 obtain rfl:=Zou hc
 refine⟨⟨n,Za,hn,rfl⟩,fun v hv hv2=>?_⟩
 rcases Zow v n with h5 | h5
 ·cases hr:r with
  | none=>exact Zo4 hv2 (h.no hr v h5)
  | some c=>
   have h1:=(h.yes c hr).2 v h5 hv2
   have h2:=hl c hr
   grind
 ·obtain rfl:v=n:=Za
  exact Rat.le_refl
theorem LeastQ.keep {q:Nat->Rat} {ok:Nat->Prop} {n:Nat} {c:Rat} (h:LeastQ q ok n (some c)) (hl:c<=q n):LeastQ q ok (n+1) (some c):=by
 refine⟨fun h=>(by cases h),fun d hd=>?_⟩
 obtain rfl:=Zou hd
 obtain⟨⟨u,h1,h2,h3⟩,h4⟩:=h.yes c rfl
 refine⟨⟨u,Za,h2,h3⟩,fun v hv hv2=>?_⟩
 rcases Zow v n with h5 | h5
 ·exact h4 v h5 hv2
 ·obtain rfl:v=n:=Za
  exact hl
theorem LeastQ.det {q:Nat->Rat} {ok:Nat->Prop} {n:Nat} {r s:Option Rat} (h:LeastQ q ok n r) (g:LeastQ q ok n s):r=s:=by
 cases r with
 | none=>
  cases s with
  | none=>rfl
  | some c=>
   obtain⟨⟨u,h1,h2,_⟩,_⟩:=g.yes c rfl
   exact Zo4 h2 (h.no rfl u h1)
 | some c=>
  obtain⟨⟨u,h1,h2,h3⟩,h4⟩:=h.yes c rfl
  cases s with
  | none=>exact Zo4 h2 (g.no rfl u h1)
  | some d=>
   obtain⟨⟨v,g1,g2,g3⟩,g4⟩:=g.yes d rfl
   have e1:=h4 v g1 g2
   have e2:=g4 u h1 h2
   congr 1
   grind
def pick (P:Nat->Bool) (n:Nat):List Nat:=(List.range n).filter P
theorem Zf3 {P:Nat->Bool} {n:Nat} (h:P n=true):pick P (n+1)=pick P n++[n]:=by
 unfold pick
 rw[List.range_succ,List.filter_append]
 simp[h]
theorem ZjY {P:Nat->Bool} {n:Nat} (h:P n=false):pick P (n+1)=pick P n:=by
 unfold pick
 rw[List.range_succ,List.filter_append]
 simp[h]
theorem ZmF {P:Nat->Bool} {n j:Nat} : j ∈ pick P n<->j<n/\P j=true:=by simp[pick]
theorem ZfU (P:Nat->Bool):∀ {n m:Nat},n<=m->∃ l,pick P m=pick P n++l
 | n,0,h=>by
  obtain rfl:n=0:=Za
  exact⟨[],Zc⟩
 | n,m+1,h=>by
  rcases Zow m n with h1 | h1
  ·obtain rfl:n=m+1:=Za
   exact⟨[],Zc⟩
  ·obtain⟨l,hl⟩:=ZfU P h1
   cases hp:P m
   ·exact⟨l,by rw[ZjY hp,hl]⟩
   ·exact⟨l++[m],by rw[Zf3 hp,hl,List.append_assoc]⟩
theorem Zhk {P:Nat->Bool} {n j:Nat} (hj:j<n) (hp:P j=true):(pick P j).length<(pick P n).length/\(pick P n).getD (pick P j).length 0=j:=by
 obtain⟨l,hl⟩:=ZfU P (show j+1<=n from hj)
 rw[hl,Zf3 hp]
 simp[List.getD]
theorem ZmB (P:Nat->Bool) (n:Nat):(pick P n).length<=n:=by
 have:=List.length_filter_le P (List.range n)
 simpa[pick] using this
theorem ZhF {P:Nat->Bool} {n k:Nat} (hk:k<(pick P n).length):(pick P n).getD k 0<n/\P ((pick P n).getD k 0)=true:=by
 have h:(pick P n).getD k 0=(pick P n)[k]:=by simp[List.getD,hk]
 rw[h]
 exact ZmF.1 (ZoR hk)
theorem ZlY {P:Nat->Bool} {n j k:Nat} (hk:k<(pick P n).length) (hjk:j<k):(pick P n).getD j 0<(pick P n).getD k 0:=by
 have hs:(pick P n).Pairwise (· < ·):=List.Pairwise.filter P List.pairwise_lt_range
 have e1:(pick P n).getD j 0=(pick P n)[j]:=by simp[List.getD,Nat.lt_trans hjk hk]
 have e2:(pick P n).getD k 0=(pick P n)[k]:=by simp[List.getD,hk]
 rw[e1,e2]
 exact List.pairwise_iff_getElem.1 hs j k (Nat.lt_trans hjk hk) hk hjk
theorem Best.ofPick {P:Nat->Bool} {g:Nat->Rat} {n:Nat} {r:Option Nat} {m:Rat} (h:Best (fun k=>g ((pick P n).getD k 0)) (pick P n).length r m) :
  Best (fun j=>if P j=true then g j else 0) n (r.map fun k=>(pick P n).getD k 0) m:=by
 have hall:∀ c,0<=c->(∀ k,k<(pick P n).length->g ((pick P n).getD k 0)<=c)->∀ j,j<n->(if P j=true then g j else 0)<=c:=fun c hc h2 j hj=>by
  split
  ·rename_i hp
   obtain⟨h3,h4⟩:=Zhk hj hp
   have:=h2 _ h3
   rwa [h4] at this
  ·exact hc
 refine⟨fun hr=>?_,fun j hj=>?_⟩
 ·cases r with
  | none=>
   obtain⟨h1,h2⟩:=h.no rfl
   exact⟨h1,hall 0 Rat.le_refl h2⟩
  | some k=>cases hr
 ·cases r with
  | none=>cases hj
  | some k=>
   obtain rfl:(pick P n).getD k 0=j:=Zou hj
   obtain⟨h1,h2,h3,h4,h5⟩:=h.yes k rfl
   obtain⟨h6,h7⟩:=ZhF h1
   rw[if_pos h7]
   refine⟨h6,h2,h3,hall _ Zk h4,fun j hj=>?_⟩
   split
   ·rename_i hp
    obtain⟨h8,h9⟩:=Zhk (Nat.lt_trans hj h6) hp
    have h10:(pick P j).length<k:=by
     rcases Zow (pick P j).length k with h | h
     ·exact h
     ·exfalso
      rcases Zow k (pick P j).length with h11 | h11
      ·have:=ZlY h8 h11
       omega
      ·have e:k=(pick P j).length:=Za
       rw[e] at hj
       omega
    have:=h5 _ h10
    rwa [h9] at this
   ·grind
def bump (p:List (List Int)) (u i:Nat) (d:Int):List (List Int):=p.modify u fun l=>l.modify i fun x=>x+d
theorem Zar (p:List (List Int)) (u i:Nat) (d:Int):(bump p u i d).length=p.length:=by simp[bump]
theorem Zf6 {p:List (List Int)} {u i:Nat} {d:Int} {v:Nat} (h:v<(bump p u i d).length):(bump p u i d)[v].length=(p[v]'(by simpa[bump] using h)).length:=by
 simp only[bump,List.getElem_modify]
 split<;>simp
theorem ZdX {p:List (List Int)} {u i:Nat} {d:Int} (hu:u<p.length) (hi:i<p[u].length):pN (bump p u i d) u i=pN p u i+d:=by
 simp[pN,bump,List.getD,hu,hi]
theorem Zcd {p:List (List Int)} {u i v j:Nat} {d:Int} (h:v≠u\/j≠i):pN (bump p u i d) v j=pN p v j:=by
 unfold pN bump
 rw[List.getD_eq_getElem?_getD,List.getD_eq_getElem?_getD,List.getElem?_modify]
 by_cases hv:u=v
 ·subst hv
  have hj:¬ i=j:=by rcases h with h | h<;>omega
  rw[List.getD_eq_getElem?_getD,List.getD_eq_getElem?_getD]
  cases hp:p[u]? with
  | none=>simp
  | some l=>simp[List.getElem?_modify,hj]
 ·simp[hv]
def ZaK (t:TaskP) (p:List (List Int)) (u:Nat):Int:=eH t u-ZZ p u t.sites.length
noncomputable def Zay (t:TaskP) (p:List (List Int)) (u i:Nat):Rat:=wR t i*(chF (eS t i).curve (covR t p i+rR t u i)-chF (eS t i).curve (covR t p i))
noncomputable def Zbb (t:TaskP) (p:List (List Int)) (j:Nat):Rat:=if 0<ZaK t p (j/t.sites.length) then Zay t p (j/t.sites.length) (j % t.sites.length) else 0
inductive GreedyR (t:TaskP):List (List Int)->List (List Int)->Prop
 | done {p:List (List Int)} {m:Rat} (h:Best (Zbb t p) (t.hours.length*t.sites.length) none m):GreedyR t p p
 | step {p q:List (List Int)} {j:Nat} {m:Rat} (h:Best (Zbb t p) (t.hours.length*t.sites.length) (some j) m) (hq:GreedyR t (bump p (j/t.sites.length) (j % t.sites.length) 1) q):GreedyR t p q
theorem GreedyR.det {t:TaskP} {p q r:List (List Int)} (h:GreedyR t p q) (g:GreedyR t p r):q=r:=by
 induction h generalizing r with
 | done h=>
  cases g with
  | done _=>rfl
  | step g _=>cases (h.det g).1
 | step h _ ih=>
  cases g with
  | done g=>cases (h.det g).1
  | step g hq=>
   obtain rfl:=Zou (h.det g).1
   exact ih hq
def Z1 (t:TaskP):List (List Int):=t.hours.map fun _=>List.replicate t.sites.length 0
noncomputable def valF (t:TaskP) (p:List (List Int)) (i:Nat):Rat:=wR t i*chF (eS t i).curve (covR t p i)
section
variable {S S':Nat->Prop} {Q Q':World->Prop} {w w':World}
theorem Keeps.toBelow {B:Nat} (h:Keeps (fun b=>b<B) w w') (hB:B<=w.heap.size):Below B w w':=⟨h.os,h.tape,h.output,h.size,fun k hk=>h.block k Za hk⟩
theorem _root_.Go.RowKit.Below.keepsS (h:Below w.heap.size w w') (S:Nat->Prop):Keeps S w w':=⟨h.os,h.tape,h.output,h.size,fun k hk _=>h.block k hk⟩
end
structure EnvS (S:Nat->Prop) (w0:World) (bs:List (Nat×Obj)) (w:World):Prop where
 base:Keeps S w0 w
 up:∀ b,w0.heap.size<=b->S b
 cells:∀ (i:Nat) (p:Nat×Obj),bs[i]?=some p->w0.heap.size<=p.1/\w.heap[p.1]?=some p.2
 apart:∀ (i j:Nat) (p q:Nat×Obj),bs[i]?=some p->bs[j]?=some q->p.1=q.1->i=j
section
variable {S:Nat->Prop} {w0 w w':World} {bs:List (Nat×Obj)}
theorem EnvS.start (w:World) (hu:∀ b,w.heap.size<=b->S b):EnvS S w [] w:=⟨Keeps.refl _ w,hu,fun i p h=>by simp at h,fun i j p q h=>by simp at h⟩
theorem EnvS.own (h:EnvS S w0 bs w):w0.heap.size<=w.heap.size:=h.base.size
theorem EnvS.keep (h:EnvS S w0 bs w) (hk:Keeps S w w'):EnvS S w0 bs w' where
 base:=h.base.trans hk
 up:=h.up
 cells:=fun i p hp=>by
  obtain⟨h1,h2⟩:=h.cells i p hp
  exact⟨h1,(hk.block _ (Zo9 h2) (h.up _ h1)).trans h2⟩
 apart:=h.apart
theorem EnvS.step (h:EnvS S w0 bs w) (hb:Below w.heap.size w w'):EnvS S w0 bs w':=h.keep (hb.keepsS S)
theorem EnvS.drew (h:EnvS S w0 bs w):EnvS S w0 bs w.drew:=h.step (Zoq _ w).drew
theorem EnvS.push (h:EnvS S w0 bs w) (o:Obj) {g:Nat} (hg:g=w.heap.size):EnvS S w0 ((g,o)::bs) (w.alloc o):=by
 subst hg
 have h':=h.step ((Zoq _ w).alloc Zpf o)
 have hlt:∀ (j:Nat) (p:Nat×Obj),bs[j]?=some p->p.1<w.heap.size:=fun j p hp=>(Zop.1 (h.cells j p hp).2).1
 refine⟨h'.base,h.up,fun i p hp=>?_,fun i j p q hp hq e=>?_⟩
 ·cases i with
  | zero=>
   obtain rfl:=Zou hp
   exact⟨h.own,Zot w o⟩
  | succ i=>exact h'.cells i p (by simpa using hp)
 ·cases i with
  | zero=>
   cases j with
   | zero=>rfl
   | succ j=>
    obtain rfl:=Zou hp
    have:=hlt j q (by simpa using hq)
    simp only at e
    omega
  | succ i=>
   cases j with
   | zero=>
    obtain rfl:=Zou hq
    have:=hlt i p (by simpa using hp)
    simp only at e
    omega
   | succ j=>rw[h.apart i j p q (by simpa using hp) (by simpa using hq) e]
theorem EnvS.block (h:EnvS S w0 bs w) (i:Nat) {g:Nat} {o:Obj} (hi:bs[i]?=some (g,o)):w.heap[g]?=some o:=(h.cells i _ hi).2
theorem EnvS.lt (h:EnvS S w0 bs w) (i:Nat) {g:Nat} {o:Obj} (hi:bs[i]?=some (g,o)):g<w.heap.size:=(Zo9 (h.block i hi))
theorem EnvS.le (h:EnvS S w0 bs w) (i:Nat) {g:Nat} {o:Obj} (hi:bs[i]?=some (g,o)):w0.heap.size<=g:=(h.cells i _ hi).1
theorem EnvS.cell (h:EnvS S w0 bs w) (i j:Nat) {g:Nat} {cs:Array Value} {T:TypeId} {v:Value} (hi:bs[i]?=some (g,.cells cs T (0,0))) (hv:cs[j]?=some v):w.cell? ⟨g,j,none⟩=some v:=Zn (h.block i hi) j hv
theorem EnvS.free (h:EnvS S w0 bs w) (i j:Nat) {g:Nat} {cs:Array Value} {T:TypeId} (hi:bs[i]?=some (g,.cells cs T (0,0))):w.frozen? ⟨g,j,none⟩=false:=Zo (h.block i hi) j
theorem EnvS.put (h:EnvS S w0 bs w) (i:Nat) {g:Nat} {o:Obj} (o':Obj) (hi:bs[i]?=some (g,o)) (hw:w'.heap[g]?=some o') (hk:Keeps (fun b=>b≠g) w w'):EnvS S w0 (bs.set i (g,o')) w':=by
 have hil:i<bs.length:=(ZoO.1 hi).1
 have hget:∀ (j:Nat) (p:Nat×Obj),(bs.set i (g,o'))[j]?=some p->(j=i/\p=(g,o'))\/(j≠i/\bs[j]?=some p):=fun j p hp=>by
  by_cases e:j=i
  ·subst e
   rw[List.getElem?_set_self hil] at hp
   exact .inl ⟨rfl,(Zou hp).symm⟩
  ·rw[List.getElem?_set_ne (Ne.symm e)] at hp
   exact .inr ⟨e,hp⟩
 have hB:w0.heap.size<=g:=h.le i hi
 refine⟨⟨hk.os.trans h.base.os,hk.tape.trans h.base.tape,hk.output.trans h.base.output,Zoz h.own hk.size,fun k hlt hs=>(hk.block k (by have:=h.own;omega) Za).trans (h.base.block k hlt hs)⟩,h.up,fun j p hp=>?_,fun j k p q hp hq e=>?_⟩
 ·rcases hget j p hp with ⟨rfl,rfl⟩ | ⟨hne,hp⟩
  ·exact⟨hB,hw⟩
  ·obtain⟨h1,h2⟩:=h.cells j p hp
   refine⟨h1,?_⟩
   rw[hk.block _ (Zo9 h2) (fun e=>hne (h.apart j i p _ hp hi e))]
   exact h2
 ·rcases hget j p hp with ⟨e1,e2⟩ | ⟨hne,hp'⟩
  ·rcases hget k q hq with ⟨e3,e4⟩ | ⟨hne2,hq'⟩
   ·rw[e1,e3]
   ·rw[e2] at e
    rw[e1]
    exact h.apart i k _ q hi hq' e
  ·rcases hget k q hq with ⟨e3,e4⟩ | ⟨hne2,hq'⟩
   ·rw[e4] at e
    rw[e3]
    exact h.apart j i p _ hp' hi e
   ·exact h.apart j k p q hp' hq' e
theorem EnvS.store (h:EnvS S w0 bs w) (i j:Nat) {g:Nat} {cs:Array Value} {T:TypeId} (v:Value) (hi:bs[i]?=some (g,.cells cs T (0,0))):EnvS S w0 (bs.set i (g,.cells (cs.set! j v) T (0,0))) (w.setCell ⟨g,j,none⟩ v):=
 h.put i (.cells (cs.set! j v) T (0,0)) hi (Zov (h.block i hi) v) ((Keeps.refl _ w).setCell Zc v)
theorem EnvS.fill {g:Nat} {a b:Value} {T:TypeId} (h:EnvS S w0 ((g,.cells #[a,b] T (0,0))::bs) w) (x y:Value):EnvS S w0 ((g,.cells #[x,y] T (0,0))::bs) ((w.setCell ⟨g,0,none⟩ x).setCell ⟨g,1,none⟩ y):=
 h.put 0 (.cells #[x,y] T (0,0)) rfl (Zah (h.block 0 rfl) x y) (((Keeps.refl _ w).setCell Zc x).setCell Zc y)
theorem EnvS.laid (h:EnvS S w0 bs w) (hb:Keeps S w w') {g:Nat} {o:Obj} (hg:w'.heap[g]?=some o) (hle:w.heap.size<=g):EnvS S w0 ((g,o)::bs) w':=by
 have h':=h.keep hb
 have hlt:∀ (j:Nat) (p:Nat×Obj),bs[j]?=some p->p.1<w.heap.size:=fun j p hp=>(Zop.1 (h.cells j p hp).2).1
 refine⟨h'.base,h.up,fun i p hp=>?_,fun i j p q hp hq e=>?_⟩
 ·cases i with
  | zero=>
   obtain rfl:=Zou hp
   exact⟨Zoz h.own hle,hg⟩
  | succ i=>exact h'.cells i p (by simpa using hp)
 ·cases i with
  | zero=>
   cases j with
   | zero=>rfl
   | succ j=>
    obtain rfl:=Zou hp
    have:=hlt j q (by simpa using hq)
    simp only at e
    omega
  | succ i=>
   cases j with
   | zero=>
    obtain rfl:=Zou hq
    have:=hlt i p (by simpa using hp)
    simp only at e
    omega
   | succ j=>rw[h.apart i j p q (by simpa using hp) (by simpa using hq) e]
theorem EnvS.only (h:EnvS S w0 bs w) (is:List Nat) (bs':List (Nat×Obj)) (hb:bs'=is.filterMap (fun i=>bs[i]?)) (hn:is.Nodup):EnvS S w0 bs' w:=by
 subst hb
 have hget:∀ (k:Nat) (p:Nat×Obj),(is.filterMap (fun i=>bs[i]?))[k]?=some p->∃ i ∈ is,bs[i]?=some p:=fun k p hp=>by
  have:=List.mem_of_getElem? hp
  rw[List.mem_filterMap] at this
  exact this
 refine⟨h.base,h.up,fun i p hp=>?_,?_⟩
 ·obtain⟨j,_,hj⟩:=hget i p hp
  exact h.cells j p hj
 ·have hp:(is.filterMap (fun i=>bs[i]?)).Pairwise (fun a b=>a.1≠b.1):=by
   rw[List.pairwise_filterMap]
   refine List.Pairwise.imp ?_ hn
   intro a b hab p hp q hq e
   exact hab (h.apart a b p q hp hq e)
  intro i j p q h1 h2 e
  rcases Nat.lt_trichotomy i j with hlt | rfl | hlt
  ·obtain⟨l1,e1⟩:=ZoO.1 h1
   obtain⟨l2,e2⟩:=ZoO.1 h2
   have:=(List.pairwise_iff_getElem.1 hp) i j l1 l2 hlt
   rw[e1,e2] at this
   exact Zo4 e this
  ·rfl
  ·obtain⟨l1,e1⟩:=ZoO.1 h1
   obtain⟨l2,e2⟩:=ZoO.1 h2
   have:=(List.pairwise_iff_getElem.1 hp) j i l2 l1 hlt
   rw[e1,e2] at this
   exact Zo4 e.symm this
end
end Go.Proofs.YtmpaflidennnoaaGreatDoor
namespace Go.Proofs.YtmpaflidennnoaaGreatDoor
open Go.RowKit Go.Shelf Go.ChangeMaps Go.MapKept Go.ChangeShapes
open Go.WideElems (Fit rd rg rd_val)
abbrev kA (i:Int) (s t:ByteArray):Value:=.agg #[.int .i64 i,.string s,.string t]
theorem Zk7:laidOutB Tryz.prog=true:=Zb
theorem Zmn:(201:TypeId)<Tryz.prog.types.size:=of_decide_eq_true Zb
theorem Zk3:(match Tryz.prog.underlying 201 with | some (.array _ _) | some (.struct _)=>true | _=>false)=true:=by rw[Tryz.underlying201]
theorem ZkI:Tryz.prog.keyTypeAt 3 201=true:=Zb
theorem Zd8:Maps.Keyed Tryz.prog 201:=Maps.Keyed.of_law (deep_law_laid Zk7 (m:=3) Za Zmn ZkI Zk3)
theorem ZhQ:Tryz.prog.keyType 201=true:=Zb
theorem ZfP:Tryz.prog.cellsOf 201=3:=Zb
theorem Zje:Tryz.prog.cellsOf 41=2:=Zb
theorem Zlo:Tryz.prog.cellsOf 39=1:=Zb
theorem ZkC:Tryz.prog.cellsOf 3=1:=Zb
theorem Zgm {i:Int} (s t:ByteArray) (h:0<=i/\i<=63) (hs:s.size<=maxLen) (ht:t.size<=maxLen):∃ kl,keyOf Tryz.prog 201 (kA i s t)=some kl:=by
 have w:(Lit.int .i64 i).wf=true:=by
  have e1:IntKind.i64.min = -9223372036854775808:=Zd
  have e2:IntKind.i64.max=9223372036854775807:=Zd
  simp only[Lit.wf,e1,e2,ZoY,ZoZ]
  omega
 obtain⟨m,hm⟩:∃ m,Tryz.prog.types.size=m+1+1:=⟨Tryz.prog.types.size-2,by have h:2<=Tryz.prog.types.size:=of_decide_eq_true Zb;omega⟩
 have hf:(kA i s t).formed Tryz.prog 201=true:=by simp[Value.formed,Tryz.underlying201,ZfP]
 unfold keyOf
 rw[Tryz.underlying201]
 simp only[ZhQ,hf,Bool.and_self,if_true,hm,Value.cells]
 simp[Program.keyLits,Tryz.underlying201,Tryz.underlying3,Tryz.underlying41,Tryz.underlying39,ZfP,Zje,Zlo,ZkC,List.range,List.range.loop,w]
 rw[if_pos (by intro i hi;rcases i with _ | _ | i<;>first | omega | (simp;done))]
 simp[hs,ht]
def noR:Value->Option (DataW Unit×List MemPlace):=fun _=>some (.nil,[])
def Zn8 (t:TaskP) (e:MapEntry):Prop:=∃ (i:Nat) (q:Rat) (s u x y:ByteArray),e.key=kA i s u/\e.val=pV x y/\i<t.sites.length/\IsP q s u/\IsP (chF (eS t i).curve q) x y
def Memo (w:World) (m:Nat) (t:TaskP) (n:Nat):Prop:=
 ∃ es clock,w.heap[m]?=some (.map es clock)/\Fit Tryz.prog 201 noR es clock/\es.size<=n/\∀ e ∈ es.toList,Zn8 t e
theorem Memo.lt {w:World} {m n:Nat} {t:TaskP} (h:Memo w m t n):m<w.heap.size:=by
 obtain⟨es,clock,h1,_⟩:=h
 exact(Zo9 h1)
theorem Memo.mono {w:World} {m n k:Nat} {t:TaskP} (h:Memo w m t n) (hk:n<=k):Memo w m t k:=by
 obtain⟨es,clock,h1,h2,h3,h4⟩:=h
 exact⟨es,clock,h1,h2,Za,h4⟩
theorem Memo.stay {w w':World} {m n:Nat} {t:TaskP} (h:Memo w m t n) (hw:w'.heap[m]?=w.heap[m]?):Memo w' m t n:=by
 obtain⟨es,clock,h1,h2,h3,h4⟩:=h
 exact⟨es,clock,hw.trans h1,h2,h3,h4⟩
theorem Memo.step {w w':World} {m n:Nat} {t:TaskP} (h:Memo w m t n) (hb:Below w.heap.size w w'):Memo w' m t n:=h.stay (hb.block m h.lt)
theorem Memo.made (w:World) (t:TaskP):Memo (w.alloc (.map #[] 0)) w.heap.size t 0:=
 ⟨#[],0,(MapKept.heap_alloc w _).1,⟨Zc,stamped_empty 0,Zc⟩,Nat.le_refl _,Zc⟩
theorem ZhI (w:World):(zeroValue 41).run Tryz.prog w=.ok (pV Zpa Zpa) w:=Zb
theorem Memo.look {w:World} {m n:Nat} {t:TaskP} (h:Memo w m t n) {i:Nat} (hi:i<t.sites.length) (hN:t.sites.length<=24) {q:Rat} {s u:ByteArray} (hq:IsP q s u) :
  (∃ x y,IsP (chF (eS t i).curve q) x y/\∀ w',w'.heap[m]?=w.heap[m]?->(Instr.lookup 93 (.map (some m)) (kA i s u) true).run Tryz.prog w'=.ok (.tuple #[pV x y,.bool true]) w')\/
  ∀ w',w'.heap[m]?=w.heap[m]?->(Instr.lookup 93 (.map (some m)) (kA i s u) true).run Tryz.prog w'=.ok (.tuple #[pV Zpa Zpa,.bool false]) w':=by
 obtain⟨es,clock,hb,F,hs,hg⟩:=h
 have hl:=hq.small
 obtain⟨kl,hkl⟩:=Zgm (i:=(i:Nat)) s u Za (by unfold maxLen;omega) (by unfold maxLen;omega)
 have one:∀ e ∈ es.toList,e.key=kA i s u->∃ x y,e.val=pV x y/\IsP (chF (eS t i).curve q) x y:=fun e he hk=>by
  obtain⟨j,q',s',u',x,y,e1,e2,e3,e4,e5⟩:=hg e he
  rw[hk] at e1
  have e6:((i:Nat):Int)=j/\s=s'/\u=u':=by simpa[kA] using e1
  obtain⟨e7,rfl,rfl⟩:=e6
  obtain rfl:i=j:=Za
  obtain rfl:q=q':=hq.inj e4 rfl rfl
  exact⟨x,y,e2,e5⟩
 by_cases hex:∃ e ∈ es.toList,e.key=kA i s u
 ·obtain⟨e,he,hk⟩:=hex
  obtain⟨x,y,e1,e2⟩:=one e he hk
  refine .inl ⟨x,y,e2,fun w' hw=>?_⟩
  rcases Maps.fit_look true Zd8 Tryz.underlying93 (ZhI w') (hw.trans hb) F hkl with ⟨_,hno,_⟩ | ⟨e0,y0,hm0,h3,hrun,_⟩
  ·exact Zo4 hk (hno e he)
  ·obtain⟨x',y',f1,f2⟩:=one e0 hm0 h3
   obtain⟨rfl,rfl⟩:=f2.one e2
   rw[f1] at hrun
   exact hrun
 ·refine .inr fun w' hw=>?_
  rcases Maps.fit_look true Zd8 Tryz.underlying93 (ZhI w') (hw.trans hb) F hkl with ⟨hrun,_⟩ | ⟨e0,y0,hm0,h3,_⟩
  ·exact hrun
  ·exact Zo4 ⟨e0,hm0,h3⟩ hex
theorem Memo.put {w:World} {m n:Nat} {t:TaskP} (h:Memo w m t n) {i:Nat} (hi:i<t.sites.length) (hN:t.sites.length<=24) {q:Rat} {s u x y:ByteArray} (hq:IsP q s u) (hx:IsP (chF (eS t i).curve q) x y) (hn:n<=1000000000000) :
  ∃ w2,(Instr.mapUpdate 93 (.map (some m)) (kA i s u) (pV x y)).run Tryz.prog w=.ok () w2/\Memo w2 m t (n+1)/\Keeps (fun b=>b≠m) w w2:=by
 obtain⟨es,clock,hb,F,hs,hg⟩:=h
 have hl:=hq.small
 obtain⟨kl,hkl⟩:=Zgm (i:=(i:Nat)) s u Za (by unfold maxLen;omega) (by unfold maxLen;omega)
 obtain⟨es',clock',hrun,F',hput,_,_,hwho⟩:=Maps.fit_store (R':=noR) (val:=pV x y) Zd8 Tryz.underlying93 hb F (by unfold maxLen;omega) (fun _ _ _ _ hz=>hz) hkl (yv:=(.nil,[])) rfl
 refine⟨_,hrun,⟨es',clock',heap_setBlock_same hb _,F',?_,fun e he=>?_⟩,⟨rfl,rfl,rfl,by simp[setBlock],fun k _ hk=>heap_setBlock_other hb _ hk⟩⟩
 ·have e1:es'.size=((es'.toList.map (rg Tryz.prog 201 noR)).foldr DataW.insert []).length:=by rw[length_sorted];simp
  have e2:=List.length_filter_le (notKey kl) ((es.toList.map (rg Tryz.prog 201 noR)).foldr DataW.insert [])
  rw[length_sorted] at e2
  rw[e1,hput]
  unfold putKey
  rw[length_insert]
  simp at e2
  omega
 ·rcases hwho e he with ⟨h1,_⟩ | ⟨h1,h2⟩
  ·exact hg e h1
  ·exact⟨i,q,s,u,x,y,h1,h2,hi,hq,hx⟩
end Go.Proofs.YtmpaflidennnoaaGreatDoor
namespace Go.Proofs.YtmpaflidennnoaaGreatDoor
open Go.RowKit Go.Shelf
attribute [local go_sem ↓] Go.wp_at_zero Go.wp_at_succ
structure EffZ (w:World):Prop where
 z0:w.cell? ⟨0,0,none⟩=some (.string ⟨#[48]⟩)
 z1:w.cell? ⟨0,1,none⟩=some (.string ⟨#[49]⟩)
theorem EffZ.below {w w':World} {B:Nat} (h:EffZ w) (hb:Below B w w') (hB:w.heap.size<=B):EffZ w':=
 ⟨(hb.cell (Zox (ZoK _ _ h.z0) hB)).trans h.z0,(hb.cell (Zox (ZoK _ _ h.z1) hB)).trans h.z1⟩
theorem ZbK (n low high:Int) (w:World):Calls Tryz.prog 76 #[.int .i64 n,.int .i64 low,.int .i64 high] w (Z3 w (decide (low<=n) && decide (n<=high))):=by
 by_cases h1:low<=n
 ·by_cases h2:n<=high
  ·go_enter Tryz.func76,Tryz.ntmps76
   go_wp2
   go_ret
   exact⟨by simp[h1,h2],Zoq _ _⟩
  ·go_enter Tryz.func76,Tryz.ntmps76
   go_wp2
   go_ret
   exact⟨by simp[h1,h2],Zoq _ _⟩
 ·go_enter Tryz.func76,Tryz.ntmps76
  go_wp2
  go_ret
  exact⟨by rw[decide_eq_false (show ¬ low<=n by omega)];rfl,Zoq _ _⟩
def ZdU (n:Int):Ending:=.panicked [{ v:=.iface 141 (.agg #[.int .i64 n]),recovered:=false }]
def Zoi (s t:ByteArray) (n:Int) (w:World) (e:Ending) (w':World):Prop:=
 ((n=0/\e=.returned (Zpb s t))\/(n≠0/\e=ZdU n))/\Below w.heap.size w w'
theorem Zd0 (s t:ByteArray) (n:Int) (w:World):Calls Tryz.prog 103 #[Zpb s t,.int .i64 n] w (Zoi s t n w):=by
 by_cases hn:n=0
 ·have h0:(n !=0)=false:=by rw[bne_eq_false_iff_eq];exact hn
  have H0:=Zpe hn
  clear hn
  go_enter Tryz.func103,Tryz.ntmps103
  go_wp2
  refine Zor (v:=Zpb s t) (by simp[results,Tryz.f103,go_sem]) rfl ⟨.inl ⟨H0.out,rfl⟩,((Zoq _ w).alloc Zpf _).alloc Zc _⟩
 ·have h0:(n !=0)=true:=by rw[bne_iff_ne];exact hn
  have H0:=Zpe hn
  clear hn
  go_enter Tryz.func103,Tryz.ntmps103
  go_wp2
  refine⟨rfl,.inr ⟨H0.out,rfl⟩,((Zoq _ w).alloc Zpf _).alloc Zc _⟩
theorem ZmZ (s t:ByteArray) (w:World):Calls Tryz.prog 103 #[pV s t,.int .i64 0] w (ZV (pV s t) w):=
 (Zd0 s t 0 w).mono fun e w' ⟨h,hb⟩=>by
  rcases h with ⟨_,rfl⟩ | ⟨h,_⟩
  ·exact⟨rfl,hb⟩
  ·exact Zo4 rfl h
theorem ZeC (k:Nat) (s t:ByteArray) (hs:s.size<=1000000) (ht:t.size<=1000000) (w:World) :
  Calls Tryz.prog 63 #[pV s t,.int .i64 k] w (Z3 w (Zw k (s,t))):=by
 have HAL:=Zpe ((Zoq w.heap.size w).alloc Zpf (pObj s t))
 by_cases h1:(k:Int)<s.size
 ·have HR:Hid (Zw k (s,t)=false):=by
   show _=_
   unfold Zw
   rw[decide_eq_false (p:=(s,t).1.size<=k) (by show ¬ s.size<=k;omega)]
   simp
  go_enter Tryz.func63,Tryz.ntmps63
  go_wp2
  go_ret
  exact⟨by rw[HR.out];rfl,HAL.out⟩
 ·by_cases h2:(k:Int)<t.size
  ·have HR:Hid (Zw k (s,t)=false):=by
    show _=_
    unfold Zw
    rw[decide_eq_false (p:=(s,t).2.size<=k) (by show ¬ t.size<=k;omega)]
    simp
   go_enter Tryz.func63,Tryz.ntmps63
   go_wp2
   go_ret
   exact⟨by rw[HR.out];rfl,HAL.out⟩
  ·cases h3:okP s t
   ·have HR:Hid (Zw k (s,t)=false):=by unfold Zw;show _=_;simp[h3]
    have HE:=Zpe (ZaM h3)
    clear h3
    go_enter Tryz.func63,Tryz.ntmps63
    go_wp2_with fail
    refine(ZaS s t _ hs ht).mono ?_
    rintro e w2 ⟨rfl,hb⟩
    rw[HE.out]
    have HB2:=Zpe (HAL.out.trans (hb.mono HAL.out.size))
    clear hb
    go_wp2
    go_ret
    exact⟨by rw[HR.out];rfl,HB2.out⟩
   ·have HR:Hid (Zw k (s,t)=true):=by unfold Zw;show _=_;simp[h3];omega
    have HE:=Zpe (Zbg h3)
    clear h3
    go_enter Tryz.func63,Tryz.ntmps63
    go_wp2_with fail
    refine(ZaS s t _ hs ht).mono ?_
    rintro e w2 ⟨rfl,hb⟩
    rw[HE.out]
    have HB2:=Zpe (HAL.out.trans (hb.mono HAL.out.size))
    clear hb
    go_wp2
    go_ret
    exact⟨by rw[HR.out];rfl,HB2.out⟩
theorem Zjg (n:Int) (w:World):(Instr.typeAssert (.iface 141 (.agg #[.int .i64 n])) 20 141 true).run Tryz.prog w=.ok (.tuple #[.agg #[.int .i64 n],.bool true]) w:=Zb
theorem Zjy (w:World):(Instr.typeAssert .nilIface 20 141 true).run Tryz.prog w=.ok (.tuple #[.agg #[.int .i64 0],.bool false]) w:=Zb
abbrev erO (n:Int):Obj:=.cells #[.int .i64 n] 30
abbrev miO (n:Int):Obj:=.cells #[.int .i64 n] 141
theorem Zdm (c:Nat) (n:Int) (older:List PanicEntry) (w:World) (hc:w.heap[c]?=some (erO 0)) :
  CallsD Tryz.prog 109 #[.pointer (some ⟨c,0,none⟩)] (.panicking ({ v:=.iface 141 (.agg #[.int .i64 n]),recovered:=false }::older)) w fun e u' w'=>
   e=.returned (.tuple #[])/\u'=.panicking ({ v:=.iface 141 (.agg #[.int .i64 n]),recovered:=true }::older)/\w'.heap[c]?=some (erO n)/\Keeps (fun i=>i≠c) w w':=by
 have c0:=Zn hc 0 rfl
 have f0:=Zo hc 0
 have hta:=Zjg n
 have hcl:=(Zo9 hc)
 refine callsD_of_wpS Tryz.func109 rfl fun c₀ cs hu=>?_
 apply wpS_seq
 apply wpS_region
 simp[wpOpsS,go_sem,recoverD,hu,Tryz.ntmps109,Exit.thenS]
 refine wpS_of_wp ?_
 simp only[Array.replicate_succ,Array.replicate_zero,List.push_toArray,List.append_toArray,Zo7,List.cons_append,List.setIfInBounds_toArray,List.set_cons_zero,List.set_cons_succ]
 have hcm:((w.alloc (miO n))).cell? ⟨c,0,none⟩=some (.int .i64 0):=(Zaj _ _ _ hcl).trans c0
 have hcf:((w.alloc (miO n))).frozen? ⟨c,0,none⟩=false:=(Zdt _ _ _ hcl).trans f0
 go_wp2
 exact⟨rfl,_,rfl,.tuple #[],by simp[results,Tryz.f109,go_sem],rfl,rfl,(ZoG _ _ _ (by simpa[World.setCell] using hcl)).trans (Zov hc _),((Keeps.refl _ w).setCell (p:=⟨c,0,none⟩) Zc _).alloc _⟩
theorem Ze2 (c:Nat) (w:World) :
  CallsD Tryz.prog 109 #[.pointer (some ⟨c,0,none⟩)] .returning w fun e u' w'=>
   e=.returned (.tuple #[])/\u'=.returning/\w'=w.alloc (miO 0):=by
 have hta:=Zjy
 refine callsD_of_wpS Tryz.func109 rfl fun c₀ cs hu=>?_
 apply wpS_seq
 apply wpS_region
 simp[wpOpsS,go_sem,recoverD,hu,Tryz.ntmps109,Exit.thenS]
 refine wpS_of_wp ?_
 simp only[Array.replicate_succ,Array.replicate_zero,List.push_toArray,List.append_toArray,Zo7,List.cons_append,List.setIfInBounds_toArray,List.set_cons_zero,List.set_cons_succ]
 go_wp2
 exact⟨rfl,.returning,by cases c₀;simp_all,.tuple #[],by simp[results,Tryz.f109,go_sem],rfl,rfl,rfl⟩
def ZfA (Q:Int->World->Prop) (S:Nat->Prop) (w:World) (e:Ending) (w':World):Prop:=
 ∃ n,((n=0/\e=.returned (.tuple #[]))\/(n≠0/\e=ZdU n))/\Q n w'/\Keeps S w w'
def ZdF (Q:Int->World->Prop) (S:Nat->Prop) (w:World) (e:Ending) (w':World):Prop:=∃ n,e=.returned (.int .i64 n)/\Q n w'/\Keeps S w w'
theorem Zds {f:Nat} {caps:Array Value} (hent:∀ args w,(callFunc f args).run Tryz.prog w=.ok (.enter f args) w) {Q:Int->World->Prop} {S:Nat->Prop} {w:World} (hS:∀ b,w.heap.size<=b->S b)
  (hQ:∀ n W W',Q n W->Keeps (fun b=>b≠w.heap.size) W W'->Q n W')
  (hdo:Calls Tryz.prog f caps (w.alloc (erO 0)) (ZfA Q S (w.alloc (erO 0)))) :
  Calls Tryz.prog 50 #[.func (.func f) #[] caps] w (ZdF Q S w):=by
 have hmf:∀ (fn:Fn) (first cap:Array Value) (w:World),(Instr.makeFunc fn first cap).run Tryz.prog w=.ok (.func fn first cap) w:=fun _ _ _ _=>rfl
 have HD:=Zpe hdo
 have HQ:=Zpe hQ
 have HSS:=Zpe hS
 clear hdo hQ hS
 go_enter_defers Tryz.func50,Tryz.ntmps50
 go_wp2_with fail
 refine HD.out.mono ?_
 rintro e w2 ⟨n,hE,hA,hk⟩
 have he2:w2.heap[w.heap.size]?=some (erO 0):=(hk.block _ Zc (HSS.out _ Zpf)).trans (Zot w _)
 have HA:=Zpe hA
 have HK2:Hid (Keeps S w w2):=((Keeps.refl S w).alloc _).trans hk
 obtain⟨p,hpp⟩:=Zpg w.heap.size
 rw[hpp] at he2 ⊢
 have HPP:=Zpe hpp
 clear hk hA hpp HD
 rcases hE with ⟨rfl,rfl⟩ | ⟨hn,rfl⟩
 ·have d0:=Zn he2 0 rfl
  have g0:=Zo he2 0
  have HE2:=Zpe he2
  clear he2
  go_wp2
  obtain⟨w3,hw3⟩:=Zpg ((w2.setCell ⟨p,0,none⟩ (.int .i64 0)))
  have he3:w3.heap[p]?=some (erO 0):=by rw[<- hw3];exact Zov HE2.out _
  have hk3:Keeps (fun b=>b≠p) w2 w3:=by rw[<- hw3];exact(Keeps.refl _ w2).setCell (p:=⟨p,0,none⟩) (fun h=>h rfl) _
  rw[hw3]
  clear hw3 d0 g0
  have hl3:=(Zo9 he3)
  refine leaves_cons (f:=109) (args:=#[.pointer (some ⟨p,0,none⟩)]) Zc (by simp[go_sem]) ?_
  refine(Ze2 p _).mono ?_
  rintro e u' w'' ⟨rfl,rfl,rfl⟩
  have q2:(w3.alloc (miO 0)).cell? ⟨p,0,none⟩=some (.int .i64 0):=(Zaj _ _ _ hl3).trans (Zn he3 0 rfl)
  have hk4:Keeps (fun b=>b≠p) w2 (w3.alloc (miO 0)):=hk3.alloc _
  refine⟨.int .i64 0,by simp[results,Tryz.f50,go_sem,q2],0,rfl,HQ.out _ _ _ HA.out (by rw[HPP.out];exact hk4),?_⟩
  have h1:=HK2.out
  refine⟨hk4.os.trans h1.os,hk4.tape.trans h1.tape,hk4.output.trans h1.output,Zoz h1.size hk4.size,fun k hk hs=>?_⟩
  have hkp:k≠p:=by have:=HPP.out;omega
  exact(hk4.block k (Zox hk h1.size) hkp).trans (h1.block k hk hs)
 ·unfold ZdU
  refine leaves_cons (f:=109) (args:=#[.pointer (some ⟨p,0,none⟩)]) Zc (by simp[go_sem]) ?_
  refine(Zdm p n [] _ he2).mono ?_
  rintro e u' w3 ⟨rfl,rfl,he3,hk4⟩
  have q2:w3.cell? ⟨p,0,none⟩=some (.int .i64 n):=Zn he3 0 rfl
  refine⟨.int .i64 n,by simp[results,Tryz.f50,go_sem,q2],n,rfl,HQ.out _ _ _ HA.out (by rw[HPP.out];exact hk4),?_⟩
  have h1:=HK2.out
  refine⟨hk4.os.trans h1.os,hk4.tape.trans h1.tape,hk4.output.trans h1.output,Zoz h1.size hk4.size,fun k hk hs=>?_⟩
  have hkp:k≠p:=by have:=HPP.out;omega
  exact(hk4.block k (Zox hk h1.size) hkp).trans (h1.block k hk hs)
end Go.Proofs.YtmpaflidennnoaaGreatDoor
