/- The parts EffFit, EffImp, REMove, EGainX, REVals, StepsY. -/
import Derived.Test.YtmpaflidennnoaaGreatDoorK003
set_option maxRecDepth 100000
set_option maxHeartbeats 4000000
set_option linter.unusedVariables false
set_option linter.unusedSimpArgs false
namespace Go.Proofs.YtmpaflidennnoaaGreatDoor
open Go.RowKit Go.Shelf
attribute [local go_sem ↓] Go.wp_at_zero Go.wp_at_succ
def DE (e:Nat) (q:Rat):Prop:=∃ D,Den D q/\D<=10 ^ e
theorem DE.mul {e f:Nat} {a b:Rat} (h:DE e a) (g:DE f b):DE (e+f) (a*b):=by
 obtain⟨D,h1,h2⟩:=h
 obtain⟨E,g1,g2⟩:=g
 exact⟨D*E,h1.mul g1,by rw[Nat.pow_add];exact Nat.mul_le_mul h2 g2⟩
theorem DE.add {e f:Nat} {a b:Rat} (h:DE e a) (g:DE f b):DE (e+f) (a+b):=by
 obtain⟨D,h1,h2⟩:=h
 obtain⟨E,g1,g2⟩:=g
 exact⟨D*E,h1.add g1,by rw[Nat.pow_add];exact Nat.mul_le_mul h2 g2⟩
theorem DE.mono {e f:Nat} {a:Rat} (h:DE e a) (hf:e<=f):DE f a:=by
 obtain⟨D,h1,h2⟩:=h
 exact⟨D,h1,ZoU h2 (ZoW Zd hf)⟩
theorem DE.sz {k:Nat} {q:Rat} (h:Sz k q):DE k q:=⟨q.den,Den.own q,Zph h.2⟩
theorem DE.int (n:Int):DE 0 ((n:Int):Rat):=⟨1,Den.one,Nat.le_refl _⟩
theorem DE.zero:DE 0 (0:Rat):=DE.int 0
theorem Zmj {t:TaskP} {p:List (List Int)} (ok:TaskOk t) {i:Nat} (hi:i<t.sites.length):∀ k,k<=t.rates.length->DE (9*k) (ZaL t p i k)
 | 0,_=>DE.zero
 | k+1,h=>by
  have h1:=Zmj ok hi k Za (p:=p)
  have h2:=(DE.sz (Zd3 ok (u:=k) Za hi).2).mul (DE.int (pN p k i))
  have h3:=h1.add h2
  unfold ZaL
  exact h3.mono Za
theorem ZnV {q:Rat} (h0:0<=q):((q.num:Int):Rat)=((q.num.toNat:Nat):Rat):=by
 have h:0<=q.num:=Rat.num_nonneg.2 h0
 obtain⟨k,hk⟩:=Int.eq_ofNat_of_zero_le h
 rw[hk]
 rfl
theorem Zkq {q:Rat} (h0:0<=q):q*((q.den:Nat):Rat)=((q.num.toNat:Nat):Rat):=by
 rw[Zc9 q,ZnV h0]
theorem Zow {bs:List BB} (h:CurveP bs) {q:Rat} {m:Nat} (hq:DE m q):DE (72+m) (chF bs q):=by
 obtain⟨k,hk,hr⟩:=ZdJ h q
 rw[hr]
 obtain⟨hzC,hzH⟩:=h.sizes
 by_cases hi:k+1<bs.length
 ·have hlt:cR bs k<cR bs (k+1):=(h.up k hi).1
  obtain⟨Dq,hDq,hDm⟩:=hq
  have hC0:0<=cR bs k:=h.conc'.c_nn hk.1
  have hC1:0<=cR bs (k+1):=h.conc'.c_nn hi
  obtain⟨K,K0,K1,hK⟩:=ZmG (k:=18) (Den.own (hR bs k)) (Den.own (hR bs (k+1))) (Den.own (cR bs k)) (Den.own (cR bs (k+1))) hDq hlt hC0 (Zkq hC1) (hzC _ hi).1 (hzC _ hk.1).2
  unfold lin slo
  rw[if_pos hi]
  refine⟨_,hK,?_⟩
  have e1:=Nat.mul_le_mul (Zph (hzH _ hk.1).2) (Zph (hzH _ hi).2)
  have e2:=Nat.mul_le_mul (Zph K1) (Nat.mul_le_mul e1 hDm)
  refine ZoU e2 ?_
  rw[<- Nat.pow_add,<- Nat.pow_add,<- Nat.pow_add]
  exact ZoW Zd Za
 ·have e:lin bs.length (cR bs) (hR bs) k q=hR bs k:=by
   unfold lin slo
   rw[if_neg hi]
   grind
  rw[e]
  exact(DE.sz (hzH _ hk.1)).mono Za
theorem Zok {q:Rat} (h0:0<=q) {k:Nat} (h:q.num.toNat<10 ^ k):q<=((10 ^ k:Nat):Rat):=by
 have h1:=Zkq h0
 have h2:((1:Nat):Rat)<=((q.den:Nat):Rat):=Rat.natCast_le_natCast.2 q.den_pos
 have h3:=Rat.mul_le_mul_of_nonneg_left h2 h0
 rw[h1] at h3
 have h4:((q.num.toNat:Nat):Rat)<=((10 ^ k:Nat):Rat):=Rat.natCast_le_natCast.2 (Zph h)
 have e:((1:Nat):Rat)=1:=rfl
 rw[e,Rat.mul_one] at h3
 exact Rat.le_trans h3 h4
theorem ZgI {t:TaskP} (ok:TaskOk t):∀ n,n<=t.sites.length->sumF (wR t) n<=((n*10 ^ 9:Nat):Rat)
 | 0,_=>by
  rw[Nat.zero_mul]
  exact Rat.le_refl
 | n+1,h=>by
  have h1:=ZgI ok n Za
  obtain⟨w1,w2⟩:=Zdr ok (i:=n) Za
  have h2:=Zok w1.nn w2.1
  show sumF (wR t) n+wR t n<=_
  rw[Nat.add_mul,Nat.one_mul,Rat.natCast_add]
  grind
theorem ZiR {t:TaskP} {p:List (List Int)} (ok:TaskOk t) (inn:Zbz t p) (hT:t.hours.length<=3):∀ n,n<=t.sites.length->DE (108*n) (sumF (valF t p) n)
 | 0,_=>DE.zero
 | n+1,h=>by
  have h1:=ZiR ok inn hT n Za
  have hi:n<t.sites.length:=Za
  have h2:=(Zmj (p:=p) ok hi p.length (by rw[inn.1,ok.rates];exact Nat.le_refl _)).mono (f:=27) (by have:=inn.1;omega)
  have h3:=(DE.sz (Zdr ok hi).2).mul (Zow (ok.site n hi).2 h2)
  have h4:=h1.add h3
  show DE _ (sumF (valF t p) n+valF t p n)
  exact h4.mono Za
theorem DE.fits {e m:Nat} {q:Rat} (h:DE e q) (h0:0<=q) (hM:q<=((10 ^ m:Nat):Rat)):Sz (m+e+1) q:=by
 obtain⟨D,hD,hle⟩:=h
 have hD2:D<10 ^ (e+1):=Nat.lt_of_le_of_lt hle (Nat.pow_lt_pow_right Zd (Nat.lt_succ_self e))
 obtain⟨z1,z2⟩:=hD.sz h0 hD2 hM
 refine⟨?_,ZoS z1 (ZoW Zd Za)⟩
 refine Nat.lt_of_le_of_lt z2 ?_
 have h3:10 ^ m*q.den<10 ^ m*10 ^ (e+1):=Nat.mul_lt_mul_of_pos_left z1 (Nat.pow_pos Zd)
 rw[<- Nat.pow_add] at h3
 exact h3
theorem ZgE {t:TaskP} {p:List (List Int)} (ok:TaskOk t) (inn:Zbz t p) (hN:t.sites.length<=4) (hT:t.hours.length<=3):Zae (valF t p) t.sites.length:=fun k hk=>by
 have hde:=ZiR ok inn hT k hk
 have h0:0<=sumF (valF t p) k:=Zkr fun i hi=>by
  have hi':i<t.sites.length:=Za
  obtain⟨_,_,c3⟩:=Zc1 ok inn hi' (Nat.le_refl p.length)
  exact Rat.mul_nonneg (Zdr ok hi').1.nn (ZW.nn (ok.site i hi').2.conc' c3 (ZdJ (ok.site i hi').2 _))
 have hM:sumF (valF t p) k<=((10 ^ 10:Nat):Rat):=by
  refine Rat.le_trans (Zkk fun i hi=>?_) (Rat.le_trans (ZgI ok k hk) (Rat.natCast_le_natCast.2 ?_))
  ·have hi':i<t.sites.length:=Za
   have h1:=Rat.mul_le_mul_of_nonneg_left (ZnX (ok.site i hi').2 (covR t p i)) (Zdr ok hi').1.nn
   rw[Rat.mul_one] at h1
   exact h1
  ·have:k<=4:=Za
   have h1:=Zpd (10 ^ 9) this
   exact ZoU h1 Zd
 exact(hde.fits h0 hM).fits Za Za
noncomputable def valR (t:TaskP) (p:List (List Int)):Rat:=sumF (valF t p) t.sites.length
def mvU (t:TaskP) (j:Nat):Nat:=j/t.sites.length/t.sites.length
def mvI (t:TaskP) (j:Nat):Nat:=j/t.sites.length % t.sites.length
def mvK (t:TaskP) (j:Nat):Nat:=j % t.sites.length
def mvB (t:TaskP) (p:List (List Int)) (j:Nat):Bool:=decide (0<pN p (mvU t j) (mvI t j)) && (decide (mvI t j≠mvK t j) && decide (rR t (mvU t j) (mvK t j)≠0))
def Zam (t:TaskP) (p:List (List Int)) (j:Nat):List (List Int):=bump (bump p (mvU t j) (mvI t j) (-1)) (mvU t j) (mvK t j) 1
def mvN (t:TaskP):Nat:=t.hours.length*t.sites.length*t.sites.length
inductive MoveR (t:TaskP) (p:List (List Int)):Option (List (List Int))->Prop
 | no (h:∀ j,j<mvN t->mvB t p j=true->valR t (Zam t p j)<=valR t p):MoveR t p none
 | yes (j:Nat) (hj:j<mvN t) (hm:mvB t p j=true) (hv:valR t p<valR t (Zam t p j)) (hf:∀ i,i<j->mvB t p i=true->valR t (Zam t p i)<=valR t p):MoveR t p (some (Zam t p j))
theorem MoveR.det {t:TaskP} {p:List (List Int)} {r s:Option (List (List Int))} (h:MoveR t p r) (g:MoveR t p s):r=s:=by
 cases h with
 | no h=>
  cases g with
  | no _=>rfl
  | yes j hj hm hv _=>exact Zpp hv (Rat.not_lt.2 (h j hj hm))
 | yes j hj hm hv hf=>
  cases g with
  | no g=>exact Zpp hv (Rat.not_lt.2 (g j hj hm))
  | yes i hi gm gv gf=>
   rcases Nat.lt_trichotomy i j with h | rfl | h
   ·exact Zpp gv (Rat.not_lt.2 (hf i h gm))
   ·rfl
   ·exact Zpp hv (Rat.not_lt.2 (gf j h hm))
inductive ImproveR (t:TaskP):Nat->List (List Int)->List (List Int)->Nat->Prop
 | stop (p:List (List Int)):ImproveR t 0 p p 0
 | rest {n:Nat} {p:List (List Int)} (h:MoveR t p none):ImproveR t (n+1) p p 0
 | more {n k:Nat} {p q r:List (List Int)} (h:MoveR t p (some q)) (g:ImproveR t n q r k):ImproveR t (n+1) p r (k+1)
theorem ImproveR.det {t:TaskP} {n k l:Nat} {p q r:List (List Int)} (h:ImproveR t n p q k) (g:ImproveR t n p r l):q=r/\k=l:=by
 induction h generalizing r l with
 | stop _=>cases g;exact⟨rfl,rfl⟩
 | rest h=>
  cases g with
  | rest _=>exact⟨rfl,rfl⟩
  | more g _=>cases h.det g
 | more h _ ih=>
  cases g with
  | rest g=>cases h.det g
  | more g1 g2=>
   obtain rfl:=ZoP (h.det g1)
   obtain⟨e1,e2⟩:=ih g2
   exact⟨e1,by rw[e2]⟩
theorem ZkD {t:TaskP} {j:Nat} (h:j<mvN t):mvU t j<t.hours.length/\mvI t j<t.sites.length/\mvK t j<t.sites.length:=by
 have h0:0<t.sites.length:=by
  refine Nat.pos_of_ne_zero fun e=>?_
  unfold mvN at h
  rw[e,Nat.mul_zero] at h
  exact Zpp h (Zpb _)
 unfold mvN at h
 exact⟨Nat.div_lt_of_lt_mul (Nat.div_lt_of_lt_mul (by rw[Zo7] at h;rwa [Zo7 t.sites.length t.hours.length])),Nat.mod_lt _ h0,Nat.mod_lt _ h0⟩
section
variable {t:TaskP} {p:List (List Int)}
theorem Zbc (j:Nat):(Zam t p j).length=p.length:=by unfold Zam;rw[Zad,Zad]
theorem Zc4 {u i:Nat} {d:Int} {v N:Nat} (hv:v<p.length) (h:p[v].length=N):∃ h2:v<(bump p u i d).length,(bump p u i d)[v].length=N:=by
 have h2:v<(bump p u i d).length:=by rw[Zad];exact hv
 exact⟨h2,by rw[ZeM h2];exact h⟩
theorem ZhQ (ok:PlanOk t p) {j:Nat} (hj:j<mvN t) (v:Nat):ZX (Zam t p j) v t.sites.length=ZX p v t.sites.length:=by
 obtain⟨h1,h2,h3⟩:=ZkD hj
 have hu:mvU t j<p.length:=by rw[ok.teams];exact h1
 have hr:=ok.row _ hu
 obtain⟨hu2,hr2⟩:=Zc4 (u:=mvU t j) (i:=mvI t j) (d:=-1) hu hr
 unfold Zam
 rw[ZcK 1 hu2 (by rw[hr2];exact h3),ZcK (-1) hu (by rw[hr];exact h2)]
 by_cases e:v=mvU t j
 ·rw[if_pos ⟨e,h2⟩,if_pos ⟨e,h3⟩]
  omega
 ·rw[if_neg (fun h=>e h.1),if_neg (fun h=>e h.1)]
  omega
theorem PlanOk.moved (ok:PlanOk t p) {j:Nat} (hj:j<mvN t) (hm:mvB t p j=true):PlanOk t (Zam t p j):=by
 obtain⟨h1,h2,h3⟩:=ZkD hj
 have hu:mvU t j<p.length:=by rw[ok.teams];exact h1
 have hr:=ok.row _ hu
 obtain⟨hu2,hr2⟩:=Zc4 (u:=mvU t j) (i:=mvI t j) (d:=-1) hu hr
 have hs:=ZhQ ok hj
 have h48:∀ v,v<p.length->eH t v<=48:=fun v hv=>(ok.task.team v (by rw[ok.task.rates,<- ok.teams];exact hv)).1.2
 unfold mvB at hm
 simp only[Zpj,Zpk] at hm
 obtain⟨m1,m2,m3⟩:=hm
 have hval:∀ v i,pN (Go.Proofs.YtmpaflidennnoaaGreatDoor.Zam t p j) v i=if v=mvU t j/\i=mvK t j then pN p v i+1 else if v=mvU t j/\i=mvI t j then pN p v i-1 else pN p v i:=fun v i=>by
  unfold Go.Proofs.YtmpaflidennnoaaGreatDoor.Zam
  by_cases e:v=mvU t j/\i=mvK t j
  ·obtain⟨rfl,rfl⟩:=e
   rw[if_pos ⟨rfl,rfl⟩,Zd8 hu2 (by rw[hr2];exact h3),Zbo (.inr fun e=>m2 e.symm)]
  ·rw[if_neg e,Zbo (by by_cases h:v=mvU t j;exact .inr fun h2=>e ⟨h,h2⟩;exact .inl h)]
   by_cases e2:v=mvU t j/\i=mvI t j
   ·obtain⟨rfl,rfl⟩:=e2
    rw[if_pos ⟨rfl,rfl⟩,Zd8 hu (by rw[hr];exact h2)]
    omega
   ·rw[if_neg e2,Zbo (by by_cases h:v=mvU t j;exact .inr fun h2=>e2 ⟨h,h2⟩;exact .inl h)]
 have hnn:∀ v i,v<p.length->i<t.sites.length->0<=pN (Go.Proofs.YtmpaflidennnoaaGreatDoor.Zam t p j) v i:=fun v i hv hi=>by
  have:=(ok.hour v i hv hi).1.1
  rw[hval]
  split
  ·omega
  ·split
   ·rename_i h
    obtain⟨rfl,rfl⟩:=h
    omega
   ·exact this
 refine⟨ok.task,by rw[Zbc];exact ok.teams,fun v hv=>?_,fun v i hv hi=>?_,fun v hv=>?_⟩
 ·rw[Zbc] at hv
  obtain⟨g1,g2⟩:=Zc4 (u:=mvU t j) (i:=mvI t j) (d:=-1) hv (ok.row v hv)
  obtain⟨_,g3⟩:=Zc4 (u:=mvU t j) (i:=mvK t j) (d:=1) g1 g2
  exact g3
 ·rw[Zbc] at hv
  have h0:=ok.hour v i hv hi
  have hle:=(ZeS (p:=Go.Proofs.YtmpaflidennnoaaGreatDoor.Zam t p j) (u:=v) (n:=t.sites.length) fun k hk=>hnn v k hv hk).2 i hi
  rw[hs v] at hle
  have:=ok.sum v hv
  have:=h48 v hv
  refine⟨⟨hnn v i hv hi,Za⟩,fun hp=>?_⟩
  rw[hval] at hp
  split at hp
  ·rename_i h
   obtain⟨rfl,rfl⟩:=h
   exact m3
  ·split at hp
   ·exact h0.2 Za
   ·exact h0.2 hp
 ·rw[Zbc] at hv
  rw[hs v]
  exact ok.sum v hv
theorem MoveR.plan {q:List (List Int)} (h:MoveR t p (some q)) (ok:PlanOk t p):PlanOk t q/\valR t p<valR t q/\∀ v,ZX q v t.sites.length=ZX p v t.sites.length:=by
 cases h with
 | yes j hj hm hv hf=>exact⟨ok.moved hj hm,hv,ZhQ ok hj⟩
theorem ImproveR.law {n k:Nat} {q:List (List Int)} (h:ImproveR t n p q k) (ok:PlanOk t p) :
  PlanOk t q/\k<=n/\valR t p<=valR t q/\(valR t p<valR t q<->0<k)/\(∀ v,ZX q v t.sites.length=ZX p v t.sites.length)/\(k<n->MoveR t q none):=by
 induction h with
 | stop p=>exact⟨ok,Nat.le_refl _,Rat.le_refl,⟨fun h=>Zpp h Rat.lt_irrefl,fun h=>Zpp h (Nat.lt_irrefl _)⟩,fun _=>rfl,fun h=>Zpp h (Nat.lt_irrefl _)⟩
 | rest h=>exact⟨ok,ZoY _,Rat.le_refl,⟨fun h=>Zpp h Rat.lt_irrefl,fun h=>Zpp h (Nat.lt_irrefl _)⟩,fun _=>rfl,fun _=>h⟩
 | @more n k p q1 q h _ ih=>
  obtain⟨m1,m2,m3⟩:=h.plan ok
  obtain⟨i1,i2,i3,i4,i5,i6⟩:=ih m1
  have hlt:valR t p<valR t q:=Zk
  exact⟨i1,Za,Rat.le_of_lt hlt,⟨fun _=>Za,fun _=>hlt⟩,fun v=>by rw[i5,m3],fun hk=>i6 Za⟩
end
structure PlK (b:Nat) (p:List (List Int)) (N:Nat) (pv:Value) (w:World):Prop where
 iil:∀ V,Keeps (NotM b) w V->IIL V pv p
 wk:∃ pb po pc gq gp gc,PlanW p N b pv pb po pc gq gp gc w
section
variable {b N m:Nat} {p:List (List Int)} {pv:Value} {w w':World} {gq gc:Nat->Nat} {t:TaskP}
theorem PlK.keep (h:PlK b p N pv w) (hk:Keeps (NotM b) w w'):PlK b p N pv w':=
 ⟨fun V hV=>h.iil V (hk.trans hV),by obtain⟨pb,po,pc,gq,gp,gc,h2⟩:=h.wk;exact⟨pb,po,pc,gq,gp,gc,h2.keep hk⟩⟩
theorem PlK.ofO (h:PlanO p N m m pv gq gc w) (h0:0<p.length) (hb:b<=m):PlK b p N pv w:=by
 have h1:pv.ownBlock≠some b:=fun e=>by have:=(ZoZ h.outer b e).1;omega
 have h2:∀ u,u<p.length->gq u≠b:=fun u hu e=>by have:=(h.gt hu).1;omega
 refine⟨fun V hV=>(h.keepG h1 h2 hV).toIIL,?_⟩
 obtain⟨pb,pc,rfl,hv,hc,ha,_,_⟩:=h.toW h0
 exact⟨pb,0,pc,gq,_,gc,rfl,hc,ha,fun e=>h1 (by rw[e];rfl),h2⟩
def NoB (t:TaskP) (p:List (List Int)) (n:Nat):Prop:=∀ j,j<n->mvB t p j=true->valR t (Zam t p j)<=valR t p
theorem NoB.skip {n:Nat} (h:NoB t p n) (hn:mvB t p n=true->valR t (Zam t p n)<=valR t p):NoB t p (n+1):=fun j hj=>by
 by_cases e:j=n
 ·rw[e];exact hn
 ·exact h j Za
theorem ZnA {u i k:Nat} (hN:t.sites.length=N) (hi:i<N) (hk:k<N):mvU t ((u*N+i)*N+k)=u/\mvI t ((u*N+i)*N+k)=i/\mvK t ((u*N+i)*N+k)=k:=by
 have h0:0<N:=Za
 have e1:((u*N+i)*N+k)/N=u*N+i:=by rw[Zo7,Nat.mul_add_div h0,Nat.div_eq_of_lt hk,Nat.add_zero]
 have e2:((u*N+i)*N+k) % N=k:=by rw[Zo7,Nat.mul_add_mod,Nat.mod_eq_of_lt hk]
 have e3:(u*N+i)/N=u:=by rw[Zo7,Nat.mul_add_div h0,Nat.div_eq_of_lt hi,Nat.add_zero]
 have e4:(u*N+i) % N=i:=by rw[Zo7,Nat.mul_add_mod,Nat.mod_eq_of_lt hi]
 unfold mvU mvI mvK
 rw[hN,e1,e2,e3,e4]
 exact⟨rfl,rfl,rfl⟩
theorem Zgy {u i k:Nat} (hN:t.sites.length=N) (hi:i<N) (hk:k<N):mvB t p ((u*N+i)*N+k)=true<->0<pN p u i/\i≠k/\rR t u k≠0:=by
 obtain⟨e1,e2,e3⟩:=ZnA (u:=u) hN hi hk
 unfold mvB
 rw[e1,e2,e3]
 simp only[Zpj,Zpk]
end
def Zot (t:TaskP) (p:List (List Int)) (b:Nat) (w:World) (e:Ending) (w':World):Prop:=
 ∃ (r:Option (List (List Int))) (pv:Value),e=.returned (.tuple #[pv,.bool r.isSome])/\MoveR t p r/\(∀ q,r=some q->PlK b q t.sites.length pv w')/\Keeps (NotM b) w w'/\w'.heap[b]?=some (smO 0)
theorem ZlJ {t:TaskP} {p:List (List Int)} {b:Nat} {sv hv rv pv:Value} {w:World} (hE:Zbq b (TaskIn t sv hv rv) w) (hP:PlK b p t.sites.length pv w) (hs:w.heap[b]?=some (smO 0)) (ok:PlanOk t p) (hfit:∀ q,PlanOk t q->Zae (valF t q) t.sites.length) :
  Calls Tryz.prog 93 #[.pointer (some ⟨b,0,none⟩),.agg #[sv,hv,rv],pv] w (Zot t p b w):=by
 have HVAL:∀ V q qv,Keeps (NotM b) w V->V.heap[b]?=some (smO 0)->PlK b q t.sites.length qv V->PlanOk t q->Calls Tryz.prog 75 #[.pointer (some ⟨b,0,none⟩),.agg #[sv,hv,rv],qv] V (fun e w'=>∃ x y,IsP (valR t q) x y/\SmV b (pV x y) 0 V e w'):=fun V q qv hV h0 hq okq=>by
  obtain⟨pb,po,pc,gq,gp,gc,hPW⟩:=hq.wk
  refine(Zld (hE.keep hV) hPW h0 okq.task okq.inn).mono ?_
  rintro e w' ⟨x,y,E,hS,hSV⟩
  rcases hS with ⟨rfl,_,hx⟩ | ⟨_,h,_⟩
  ·exact⟨x,y,hx,hSV⟩
  ·exact Zpp (hfit q okq) h
 obtain⟨sb,so,sc,hb,ho,hc,rb,ro,rk,cv,rq,rp,rc,rfl,rfl,rfl,k1,k2,k3,hA⟩:=hE.open ok.task
 obtain⟨pb,po,pc,gq,gp,gc,hPW⟩:=hP.wk
 obtain rfl:=hPW.val
 obtain⟨N,hN⟩:=ZpB t.sites.length
 obtain⟨T,hT⟩:=ZpB t.hours.length
 have hTr:=ok.task.rates
 have hTp:=ok.teams
 have hN24:=ok.task.sites
 have hT8:=ok.task.teams
 have hrow:=ok.row
 rw[hT] at hTr hTp hT8 k2
 rw[hN] at hN24 k1 hrow
 rw[hTr] at k3
 have HPN:Hid (∀ u i,u<T->i<N->0<=pN p u i/\pN p u i<=48):=fun u i hu hi=>ok.inn.2.2 u i (by rw[hTp];exact hu) (by rw[hN];exact hi)
 have HPA:Hid (∀ u,u<T->∀ V,Keeps (NotM b) w V->V.cell? ⟨pb,po+u,none⟩=some (.slice (some ⟨gq u,gp u,none⟩) N (gc u))/\∀ i,i<N->V.cell? ⟨gq u,gp u+i,none⟩=some (.int .i64 (pN p u i))):=fun u hu V hV=>by
  obtain⟨a1,_,_,a2⟩:=(hPW.keep hV).at' u (by rw[hTp];exact hu)
  rw[hN] at a1 a2
  exact⟨a1,a2⟩
 have HPC:Hid (∀ u,u<T->N<=gc u/\gc u<=9223372036854775807):=fun u hu=>by
  obtain⟨_,a1,a2,_⟩:=hPW.at' u (by rw[hTp];exact hu)
  rw[hN] at a1
  exact⟨a1,a2⟩
 have HRA:Hid (∀ u,u<T->∀ V,Keeps (NotM b) w V->V.cell? ⟨rb,ro+u,none⟩=some (.slice (some ⟨rq u,rp u,none⟩) N (rc u))/\∀ i,i<N->V.cell? ⟨rq u,rp u+i*2,none⟩=some (.string (eR t u i).1)):=fun u hu V hV=>by
  obtain⟨a1,_,_,a2⟩:=(hA V hV).rate u (by rw[hTr];exact hu)
  rw[hN] at a1 a2
  exact⟨a1,fun i hi=>(a2 i hi).1⟩
 have HRC:Hid (∀ u,u<T->N<=rc u/\rc u<=9223372036854775807):=fun u hu=>by
  obtain⟨_,a1,a2,_⟩:=(hA w (Keeps.refl _ _)).rate u (by rw[hTr];exact hu)
  rw[hN] at a1
  exact⟨a1,a2⟩
 have HRN:Hid (∀ u i,u<T->i<N->((eR t u i).1.toList==[48])=decide (rR t u i=0)):=fun u i hu hi=>Zji ok.task (by rw[hTr];exact hu) (by rw[hN];exact hi)
 have hpc:=hPW.cap
 rw[hTp] at hpc
 have HPK:=Zpz hP
 have HOK:=Zpz ok
 have HNN:=Zpz hN
 have HTT:=Zpz hT
 have HTP:=Zpz hTp
 have HROW:=Zpz hrow
 have HS:=Zpz hs
 rw[hN,hT,hTr] at HVAL
 rw[hN] at HPK
 rw[hTp] at HPK
 rw[hN,hT,hTr,hTp]
 have HVAL:=Zpz HVAL
 clear hE hP hs ok hfit hA hPW hN hT hTr hTp hrow
 obtain⟨G,hG⟩:=ZpB w.heap.size
 have HBG:Hid (b<G):=by have:=Zii HS.out;show b<G;omega
 have HE0:Hid (SmK b 0 w [(G,efO (.slice (some ⟨sb,so,none⟩) N sc) (.slice (some ⟨hb,ho,none⟩) T hc) (.slice (some ⟨rb,ro,none⟩) T rk))] (w.alloc (efO (.slice (some ⟨sb,so,none⟩) N sc) (.slice (some ⟨hb,ho,none⟩) T hc) (.slice (some ⟨rb,ro,none⟩) T rk)))):=
  (SmK.start HS.out).push _ hG.symm
 go_enter Tryz.func93,Tryz.ntmps93
 go_wp2_with fail
 refine(HVAL.out _ p _ HE0.out.base HE0.out.sm (HPK.out.keep HE0.out.base) HOK.out).mono ?_
 rintro e w1 ⟨x,y,hx,rfl,hb1⟩
 have HX:=Zpz hx
 obtain⟨gx,hg⟩:=ZpB w1.heap.size
 have HE1:=Zpz ((HE0.out.call hb1).push (pObj x y) hg.symm)
 obtain⟨w2,hw2⟩:=ZpB (w1.alloc (pObj x y))
 rw[hw2] at HE1
 clear hb1 HE0 hx
 go_wp2_with fail
 try rw[hg]
 try rw[hw2]
 try rw[hG]
 clear hg hw2
 have HGG:=Zpz hG
 clear hG
 go_loopw [9] (fun v wr=>∃ u:Nat,v=.int .i64 u/\u<=T/\Hid (NoB t p (u*N*N))/\Hid (SmK b 0 w [(gx,pObj x y),(G,efO (.slice (some ⟨sb,so,none⟩) N sc) (.slice (some ⟨hb,ho,none⟩) T hc) (.slice (some ⟨rb,ro,none⟩) T rk))] wr)) (fun v _=>T-(intOf v).toNat)
 case atStart=>exact⟨0,rfl,ZoY _,(by rw[Nat.zero_mul,Nat.zero_mul];exact fun j hj=>Zpp hj (Zpb _)),HE1⟩
 case round=>
  obtain⟨u,rfl,hu,HN1,HE2⟩:=hrel
  clear HE1
  by_cases hlt:u<T
  ·go_wp2_with fail
   go_loopw [10] (fun v wv=>∃ i:Nat,v=.int .i64 i/\i<=N/\Hid (NoB t p ((u*N+i)*N))/\Hid (SmK b 0 w [(gx,pObj x y),(G,efO (.slice (some ⟨sb,so,none⟩) N sc) (.slice (some ⟨hb,ho,none⟩) T hc) (.slice (some ⟨rb,ro,none⟩) T rk))] wv)) (fun v _=>N-(intOf v).toNat)
   case atStart=>exact⟨0,rfl,ZoY _,HN1,HE2⟩
   case round=>
    obtain⟨i,rfl,hi,HN2,HE3⟩:=hrel
    clear HE2 HN1
    have e0:=HE3.out.cell 1 0 (v:=.slice (some ⟨sb,so,none⟩) N sc) rfl rfl
    by_cases hlt2:i<N
    ·go_wp2_with fail
     clear e0
     go_loopw [11] (fun v wv=>∃ k:Nat,v=.int .i64 k/\k<=N/\Hid (NoB t p ((u*N+i)*N+k))/\Hid (SmK b 0 w [(gx,pObj x y),(G,efO (.slice (some ⟨sb,so,none⟩) N sc) (.slice (some ⟨hb,ho,none⟩) T hc) (.slice (some ⟨rb,ro,none⟩) T rk))] wv)) (fun v _=>N-(intOf v).toNat)
     case atStart=>exact⟨0,rfl,ZoY _,HN2,HE3⟩
     case round=>
      obtain⟨k,rfl,hk,HNB,HE⟩:=hrel
      clear HE3 HN2
      have e0:=HE.out.cell 1 0 (v:=.slice (some ⟨sb,so,none⟩) N sc) rfl rfl
      by_cases hlt3:k<N
      ·have e2:=HE.out.cell 1 2 (v:=.slice (some ⟨rb,ro,none⟩) T rk) rfl rfl
       have s0:=Zn HE.out.sm 0 (v:=.int .i64 0) rfl
       obtain⟨a1,a2⟩:=HPA.out u hlt _ HE.out.base
       have a3:=a2 i hlt2
       obtain⟨r1,r2⟩:=HRA.out u hlt _ HE.out.base
       have r3:=r2 k hlt3
       have hgc:=HPC.out u hlt
       have hrc:=HRC.out u hlt
       obtain⟨xv,hxv⟩:=ZpB (pN p u i)
       obtain⟨s1,hs1⟩:=ZpB ((eR t u k).1)
       obtain⟨q1,hq1⟩:=ZpB (gq u)
       obtain⟨o1,ho1⟩:=ZpB (gp u)
       obtain⟨c1,hc1⟩:=ZpB (gc u)
       obtain⟨q2,hq2⟩:=ZpB (rq u)
       obtain⟨o2,ho2⟩:=ZpB (rp u)
       obtain⟨c2,hc2⟩:=ZpB (rc u)
       have HXV:=Zpz hxv
       have hb48:=HPN.out u i hlt hlt2
       have HB48:=Zpz hb48
       have hnum:=HRN.out u k hlt hlt3
       rw[hxv] at a3 hb48
       rw[hq1,ho1] at a1 a3
       rw[hc1] at a1 hgc
       rw[hq2,ho2,hc2] at r1
       rw[hq2,ho2,hs1] at r3
       rw[hc2] at hrc
       rw[hs1] at hnum
       have u0':(0:Int)<=(u:Int):=Za
       have u1':(u:Int)<(T:Int):=Za
       have i0':(0:Int)<=(i:Int):=Za
       have i1':(i:Int)<(N:Int):=Za
       have k0':(0:Int)<=(k:Int):=Za
       have k1':(k:Int)<(N:Int):=Za
       have HLT:=Zpz (Zpq hlt (Zpq hlt2 hlt3))
       clear a2 r2 hxv hs1 hq1 ho1 hc1 hq2 ho2 hc2
       by_cases hbad:xv=0
       ·have HN3:Hid (NoB t p ((u*N+i)*N+(k+1))):=HNB.out.skip fun h=>by
         have:=((Zgy HNN.out HLT.out.2.1 HLT.out.2.2).1 h).1
         rw[HXV.out] at this
         omega
        subst hbad
        go_wp2
        go_roundw
        case rel=>exact⟨k+1,by go_num,Za,HN3,HE⟩
        case measure=>exact Zj
       by_cases hik:i=k
       ·have HN3:Hid (NoB t p ((u*N+i)*N+(k+1))):=HNB.out.skip fun h=>Zpp hik ((Zgy HNN.out HLT.out.2.1 HLT.out.2.2).1 h).2.1
        subst hik
        go_wp2
        go_roundw
        case rel=>exact⟨i+1,by go_num,Za,HN3,HE⟩
        case measure=>exact Zj
       by_cases hr0:rR t u k=0
       ·have HN3:Hid (NoB t p ((u*N+i)*N+(k+1))):=HNB.out.skip fun h=>Zpp hr0 ((Zgy HNN.out HLT.out.2.1 HLT.out.2.2).1 h).2.2
        rw[decide_eq_true hr0] at hnum
        have hik':¬ (i:Int)=(k:Int):=Za
        clear hr0
        go_wp2
        go_roundw
        case rel=>exact⟨k+1,by go_num,Za,HN3,HE⟩
        case measure=>exact Zj
       rw[decide_eq_false hr0] at hnum
       have hik':¬ (i:Int)=(k:Int):=Za
       have HMB:Hid (mvB t p ((u*N+i)*N+k)=true):=(Zgy HNN.out hlt2 hlt3).2 ⟨by rw[HXV.out];omega,hik,hr0⟩
       have HJ:Hid ((u*N+i)*N+k<mvN t):=by
        show _<t.hours.length*t.sites.length*t.sites.length
        rw[HTT.out,HNN.out]
        have h1:u*N+i<T*N:=by have:=Zpd N (show u+1<=T by omega);rw[Nat.add_mul,Nat.one_mul] at this;omega
        have h2:=Zpd N (show u*N+i+1<=T*N by omega)
        rw[Nat.add_mul,Nat.one_mul] at h2
        omega
       have HOM:Hid (PlanOk t (Zam t p ((u*N+i)*N+k))):=HOK.out.moved HJ.out HMB.out
       have HMV:Hid (bump (bump p u i (-1)) u k 1=Zam t p ((u*N+i)*N+k)):=by
        obtain⟨e1,e2,e3⟩:=ZnA (u:=u) HNN.out hlt2 hlt3
        show _=bump _ _ _ _
        rw[e1,e2,e3]
       have hsz:G<wr.heap.size:=Zo5 wr _ e0
       have hb1:(xv==0)=false:=beq_eq_false_iff_ne.2 hbad
       have hb2:((i:Int)==(k:Int))=false:=beq_eq_false_iff_ne.2 hik'
       clear hr0
       go_wp2_with fail
       refine(ZhN (d:=-1) (HPK.out.iil _ HE.out.base) (by rw[HTP.out];exact hT8.2) hN24 HROW.out (m:=wr.heap.size-1) Za (by rw[HTP.out];exact HLT.out.1) HLT.out.2.1 Zd ⟨HB48.out.1,by have:=HB48.out.2;omega⟩).mono ?_
       rintro e w3 ⟨pv1,gq1,gc1,rfl,hO1,hb3⟩
       have hbl:(bump p u i (-1)).length=T:=by rw[Zad,HTP.out]
       have HBL:=Zpz hbl
       have HE4:=Zpz (HE.out.step hb3)
       have hs3:=hb3.size
       obtain⟨pb1,pc1,rfl,_⟩:=hO1.toW (by rw[hbl];omega)
       rw[hbl] at hO1 ⊢
       have HO1:=Zpz hO1
       have hki:¬ k=i:=fun e=>hik e.symm
       clear hb3 HE e0 e2 s0 a1 a3 r1 r3 hbl hO1
       go_wp2_with fail
       refine(ZhN (d:=1) HO1.out.toIIL (by rw[HBL.out];exact hT8.2) hN24 (fun v hv=>by rw[ZeM hv];exact HROW.out v _) (m:=w3.heap.size-1) Za (by rw[HBL.out];exact HLT.out.1) HLT.out.2.2 Zd (by rw[Zbo (.inr hki)];have:=HPN.out u k HLT.out.1 HLT.out.2.2;omega)).mono ?_
       rintro e w4 ⟨pv2,gq2,gc2,rfl,hO2,hb4⟩
       rw[HMV.out] at hO2
       have hml:(Zam t p ((u*N+i)*N+k)).length=T:=by rw[Zbc,HTP.out]
       have HPQ:Hid (PlK b (Zam t p ((u*N+i)*N+k)) N pv2 w4):=PlK.ofO hO2 (by rw[hml];omega) (by have:=HBG.out;omega)
       have HE5:=Zpz (HE4.out.step hb4)
       obtain⟨pb2,pc2,rfl,_⟩:=hO2.toW (by rw[hml];omega)
       rw[hml] at HPQ ⊢
       have f0:=HE5.out.cell 1 0 (v:=.slice (some ⟨sb,so,none⟩) N sc) rfl rfl
       have f1:=HE5.out.cell 1 1 (v:=.slice (some ⟨hb,ho,none⟩) T hc) rfl rfl
       have f2:=HE5.out.cell 1 2 (v:=.slice (some ⟨rb,ro,none⟩) T rk) rfl rfl
       clear hO2 hb4 hml HO1 HE4 hs3 hsz
       go_wp2_with fail
       refine(HVAL.out _ _ _ HE5.out.base HE5.out.sm HPQ.out HOM.out).mono ?_
       rintro e w5 ⟨x5,y5,hx5,rfl,hb5⟩
       have HX5:=Zpz hx5
       have HE6:Hid (SmK b 0 w [(w5.heap.size,pObj x5 y5),(gx,pObj x y),(G,efO (.slice (some ⟨sb,so,none⟩) N sc) (.slice (some ⟨hb,ho,none⟩) T hc) (.slice (some ⟨rb,ro,none⟩) T rk))] (w5.alloc (pObj x5 y5))):=(HE5.out.call hb5).push (pObj x5 y5) rfl
       have HK6:Hid (Keeps (NotM b) w4 (w5.alloc (pObj x5 y5))):=hb5.1.trans (((ZoL w5.heap.size w5).alloc ZpA _).keepsS _)
       clear hb5 hx5 HE5 f0 f1 f2
       have s0:=Zn HE6.out.sm 0 (v:=.int .i64 0) rfl
       have d0:=HE6.out.cell 0 0 (v:=.string x5) rfl rfl
       have d1:=HE6.out.cell 0 1 (v:=.string y5) rfl rfl
       have d2:=HE6.out.cell 1 0 (v:=.string x) rfl rfl
       have d3:=HE6.out.cell 1 1 (v:=.string y) rfl rfl
       obtain⟨n,hn⟩:=ZpB (sgnR (valR t (Zam t p ((u*N+i)*N+k))) (valR t p))
       have HNS:=Zpz hn
       clear hn
       go_wp2_with fail
       refine(ZbY HX5.out HX.out HNS.out _).mono ?_
       rintro e w7 ⟨rfl,hb7⟩
       have HE7:=Zpz (HE6.out.step hb7)
       have HK7:Hid (Keeps (NotM b) w4 w7):=HK6.out.trans (hb7.keepsS _)
       clear hb7 HE6 HK6 s0 d0 d1 d2 d3
       by_cases hcmp:valR t p<valR t (Zam t p ((u*N+i)*N+k))
       ·have hge:(0:Int)<n:=by rw[<- HNS.out];exact Zby (Rat.not_le.2 hcmp)
        have HR:Hid (MoveR t p (some (Zam t p ((u*N+i)*N+k)))):=.yes _ HJ.out HMB.out hcmp HNB.out
        have HQ7:Hid (PlK b (Zam t p ((u*N+i)*N+k)) t.sites.length (.slice (some ⟨pb2,0,none⟩) T pc2) w7):=by
         show PlK _ _ _ _ _
         rw[HNN.out]
         exact HPQ.out.keep HK7.out
        clear hcmp
        go_wp2
        exact ZoM (v:=.tuple #[.slice (some ⟨pb2,0,none⟩) T pc2,.bool true]) (by simp[results,Tryz.f93,go_sem]) rfl ⟨some _,_,rfl,HR.out,(fun q h=>by cases h;exact HQ7.out),HE7.out.base,HE7.out.sm⟩
       ·have hge:¬ (0:Int)<n:=by rw[<- HNS.out];exact ZbA (Rat.not_lt.1 hcmp)
        have HN3:Hid (NoB t p ((u*N+i)*N+(k+1))):=HNB.out.skip fun _=>Rat.not_lt.1 hcmp
        have HE8:=Zpz (HE7.out.only [1,2] _ rfl Zd)
        clear hcmp HE7
        go_wp2
        go_roundw
        case rel=>exact⟨k+1,by go_num,Za,HN3,HE8⟩
        case measure=>exact Zj
      ·obtain rfl:k=N:=Za
       have HN3:Hid (NoB t p ((u*k+(i+1))*k)):=by
        rw[show (u*k+(i+1))*k=(u*k+i)*k+k by rw[<- Nat.add_assoc,Nat.add_mul,Nat.one_mul]]
        exact HNB
       go_wp2
       go_roundw
       case rel=>exact⟨i+1,by go_num,Za,HN3,HE⟩
       case measure=>exact Zj
    ·obtain rfl:i=N:=Za
     have HN3:Hid (NoB t p ((u+1)*i*i)):=by
      rw[show (u+1)*i=u*i+i by rw[Nat.add_mul,Nat.one_mul]]
      exact HN2
     go_wp2
     go_roundw
     case rel=>exact⟨u+1,by go_num,Za,HN3,HE3⟩
     case measure=>exact Zj
  ·obtain rfl:u=T:=Za
   have HR:Hid (MoveR t p none):=.no (by rw[show mvN t=u*N*N by unfold mvN;rw[HTT.out,HNN.out]];exact HN1.out)
   go_wp2
   exact ZoM (v:=.tuple #[.slice none 0 0,.bool false]) (by simp[results,Tryz.f93,go_sem]) rfl ⟨none,.slice none 0 0,rfl,HR.out,(fun q h=>by cases h),HE2.out.base,HE2.out.sm⟩
abbrev inO (n:Int):Obj:=.cells #[.int .i64 n] 3
structure SmIn (t:TaskP) (sv hv rv:Value) (w W W1:World) (b:Nat):Prop where
 sm:W1.heap[b]?=some (smO 0)
 task:Zbq b (TaskIn t sv hv rv) W1
 ge:w.heap.size<=b
 now:Below w.heap.size w W1
 keep:∀ V,Keeps (NotM b) W1 V->Below w.heap.size w V/\∀ (g:Nat) (o:Obj),W.heap[g]?=some o->V.heap[g]?=some o
theorem smIn {t:TaskP} {sv hv rv:Value} {w W W1:World} {b:Nat} (hT:TaskIn t sv hv rv w) (hB:Below w.heap.size w W) (hb:W.heap.size=b) (hw:W.alloc (smO 0)=W1):SmIn t sv hv rv w W W1 b:=by
 have hal:Below W.heap.size W W1:=by rw[<- hw];exact(ZoL _ W).alloc ZpA _
 have hB1:Below w.heap.size w W1:=hB.trans (hal.mono hB.size)
 have hbs:w.heap.size<=b:=by rw[<- hb];exact hB.size
 refine⟨by rw[<- hw,<- hb];exact ZoO W _,⟨w,hT,hB1,hbs⟩,hbs,hB1,fun V hV=>⟨hB1.trans (hV.below_of (fun c hc=>by show c≠b;omega) hB1.size),fun g o hg=>?_⟩⟩
 have hgl:=(Zpu hg)
 exact(hV.block g (ZoS hgl hal.size) (by show g≠b;omega)).trans ((hal.block g hgl).trans hg)
section
variable {F:Fence} {n:Nat} {P:Program} {ops:Array Oper} {Q:Exit->Act->World->Prop} {md:Region.Mode} {S:World->Prop} {bar:Nat->Bool}
def Zbi (P:Program) (ops:Array Oper) (S:World->Prop) (o:Oper) (v:Value) (a:Act):Prop:=YieldsIf P ops S o v a/\∀ w,o.about P w a.eval=none
theorem Zbi.wpOpIn {i:Nat} {o:Oper} {v:Value} {a:Act} (hro:F.round=none) (hi:ops[i]?=some o) (hy:Zbi P ops S o v a) {K:Act->World->Prop} {w:World} (hS:S w) (h:K (a.put o.dst v) w):wpOpIn F n P ops Q i K a w:=by
 unfold Go.wpOpIn
 simp only[hi]
 have hab:∀ f,o.about P w a.eval=some f->F.fn f:=fun f hf=>by rw[hy.2 w] at hf;cases hf
 rcases hy.1 with ⟨hw,hv⟩ | ⟨hw,rfl⟩
 ·simp only[hw,if_true,Oper.wpIn,hro,Oper.semAt_none,hv w hS,Oper.uponIn];exact⟨hab,h⟩
 ·simp only[hw,Bool.false_eq_true,if_false];exact⟨hab,h⟩
theorem Zbi.of_same {o:Oper} {v:Value} {a a':Act} (hy:Zbi P ops S o v a) (he:execOp a'.eval o=execOp a.eval o)
  (hw:Region.wanted o (yielded ops a'.tmps)=Region.wanted o (yielded ops a.tmps)) (hb:∀ w,o.about P w a'.eval=o.about P w a.eval):Zbi P ops S o v a':=
 ⟨hy.1.of_same he hw,fun w=>by rw[hb w];exact hy.2 w⟩
theorem Zj7 {j:Nat} {oi oj:Oper} {v:Value} (hro:F.round=none) (hj:ops[j]?=some oj) (hap:oi.apart ops oj=true)
  (hsi:∀ cs b,oi.op≠.select cs b) (hsj:∀ cs b,oj.op≠.select cs b)
  (hQ:∀ c a w,Q (.panic c) (a.put oi.dst v) w->Q (.panic c) a w) {K:Act->World->Prop} {a:Act} {w:World}
  (hy:Zbi P ops S oi v a) (h:wpOpIn F n P ops Q j K (a.put oi.dst v) w) :
  wpOpIn F n P ops Q j (fun a' w'=>Zbi P ops S oi v a'/\K (a'.put oi.dst v) w') a w:=by
 obtain⟨h1,h2,h3⟩:=Oper.apart_spec hap
 have keep:∀ (a:Act),Zbi P ops S oi v a->∀ u,Zbi P ops S oi v (a.put oj.dst u):=fun a hy u=>
  hy.of_same (execOp_put oi hsi a oj.dst u h3) (wanted_put oi a oj.dst u h3) (fun w=>about_put oi w a oj.dst u h3)
 have keepD:∀ d,Zbi P ops S oi v { a with defers:=d::a.defers }:=fun d=>hy.of_same rfl rfl (fun _=>rfl)
 unfold wpOpIn at *
 simp only[hj] at *
 rw[wanted_put oj a oi.dst v h1,about_put oj w a oi.dst v h1] at h
 split
 ·rename_i hw
  simp only[hw,if_true] at h
  unfold Oper.wpIn at *
  rw[about_put oj w a oi.dst v h1] at h
  refine⟨h.1,?_⟩
  have h:=h.2
  rw[hro,Oper.semAt_none,execOp_put oj hsj a oi.dst v h1] at h
  rw[hro,Oper.semAt_none]
  generalize (execOp a.eval oj).run P w=r at *
  cases r with
  | ok x w'=>
   cases x<;>simp only[Oper.uponIn] at h ⊢
   case value u=>exact⟨keep a hy u,by rw[<- Act.put_comm a v u h2];exact h⟩
   case skip=>exact⟨keep a hy _,by rw[<- Act.put_comm a v undef h2];exact h⟩
   case defer d=>
    refine⟨keep _ (keepD d) _,?_⟩
    rw[<- Act.put_comm _ v undef h2,<- Act.put_defers]
    exact h
   case enter f args=>
    refine⟨h.1,CallsIn.mono h.2 fun e w'' he=>?_⟩
    cases e with
    | returned u=>exact⟨keep a hy u,by rw[<- Act.put_comm a v u h2];exact he⟩
    | panicked c=>exact hQ _ _ _ he
    | outgrown=>exact he
   case row row args=>exact⟨h.1,RowsIn.mono h.2 fun u w'' he=>⟨keep a hy u,by rw[<- Act.put_comm a v u h2];exact he⟩⟩
   case round l f tmps assign body=>
    refine⟨h.1,RoundIn.mono h.2 fun e w'' he=>?_⟩
    cases e with
    | returned u=>exact⟨keep a hy u,by rw[<- Act.put_comm a v u h2];exact he⟩
    | panicked c=>exact hQ _ _ _ he
    | outgrown=>exact he
  | halt x w'=>
   cases x<;>simp only[Oper.uponIn] at h ⊢
   case panic u=>exact hQ _ _ _ h
 ·rename_i hw
  simp only[hw] at h
  exact⟨h.1,keep a hy _,by rw[<- Act.put_comm a v undef h2];exact h.2⟩
def wpJI (F:Fence) (n:Nat) (P:Program) (md:Region.Mode) (ops:Array Oper) (Q:Exit->Act->World->Prop) (S:World->Prop) (bar:Nat->Bool):Nat->Array Bool->Act->World->Prop
 | 0,listed,a,w=>Region.ready md ops listed=[]/\Q .normal a w
 | fuel+1,listed,a,w=>(Region.ready md ops listed=[]->Q .normal a w)/\
  ∀ i ∈ Region.ready md ops listed,wpOpIn F n P ops Q i (fun a' w'=>(bar i=true\/S w')/\wpJI F n P md ops Q S bar fuel (listed.setIfInBounds i true) a' w') a w
theorem Ze2:∀ (fuel:Nat) (listed:Array Bool) (a:Act) (w:World),wpJI F n P md ops Q S bar fuel listed a w->wpAnyIn F n P md ops Q fuel listed a w
 | 0,_,_,_,h=>h
 | fuel+1,_,_,_,h=>⟨h.1,fun i hi=>wpOpIn_mono (fun a' w' h'=>Ze2 fuel _ a' w' h'.2) (h.2 i hi)⟩
theorem ZgF {i:Nat} {oi:Oper} {v:Value} (hro:F.round=none) (hi:ops[i]?=some oi) (hsel:Region.noSelect ops=true) (hQ:∀ c a w,Q (.panic c) (a.put oi.dst v) w->Q (.panic c) a w) (hbar:Zcl md ops bar i) (hbi:bar i=false) :
  ∀ (fuel:Nat) (listed:Array Bool) (a:Act) (w:World),Zao md ops listed->
   (∀ j oj,ops[j]?=some oj->j≠i->listed.getD j true=false->(∀ e ∈ oj.after,Region.binds md e=true->e.on≠i)->oi.apart ops oj=true)->
   i ∈ Region.ready md ops listed->Zbi P ops S oi v a->S w->
   wpJI F n P md ops Q S bar fuel (listed.setIfInBounds i true) (a.put oi.dst v) w->wpJI F n P md ops Q S bar (fuel+1) listed a w
 | 0,listed,a,w,_,_,hr,hy,hS,H=>by
  refine⟨fun h=>(by rw[h] at hr;cases hr),fun j hj=>?_⟩
  by_cases hji:j=i
  ·subst hji;exact hy.wpOpIn hro hi hS ⟨.inr hS,H⟩
  ·have:=ready_mono hj hji
   rw[H.1] at this
   cases this
 | fuel+1,listed,a,w,hcl,hfree,hr,hy,hS,H=>by
  refine⟨fun h=>(by rw[h] at hr;cases hr),fun j hj=>?_⟩
  by_cases hji:j=i
  ·subst hji;exact hy.wpOpIn hro hi hS ⟨.inr hS,H⟩
  ·have hbj:bar j=false:=by
    cases hb:bar j with
    | false=>rfl
    | true=>exact Zpp hj (Zb9 hcl (mem_ready.1 hr).1 _ _ (hbar j hb hji)).2
   obtain⟨hjun,oj,hoj,hall⟩:=mem_ready.1 hj
   have hnot:∀ e ∈ oj.after,Region.binds md e=true->e.on≠i:=fun e he hb heq=>by
    have:Region.waitsFor md ops j i=true:=by
     unfold Region.waitsFor
     rw[hoj]
     exact Array.any_eq_true'.2 ⟨e,he,by simp[hb,heq]⟩
    exact Zaz hr this hj
   have h2:=Zj7 hro hoj (hfree j oj hoj hji hjun hnot) (fun cs b=>Region.noSelect_spec hsel i oi cs b hi) (fun cs b=>Region.noSelect_spec hsel j oj cs b hoj) hQ hy (H.2 j (ready_mono hj hji))
   refine wpOpIn_mono (fun a' w' h3=>?_) h2
   have hS':S w':=by
    rcases h3.2.1 with h4 | h4
    ·rw[hbj] at h4;cases h4
    ·exact h4
   refine⟨.inr hS',ZgF hro hi hsel hQ hbar hbi fuel (listed.setIfInBounds j true) a' w' (hcl.step hj) (fun k ok hk hki hun hno=>?_) (ready_mono hr (Ne.symm hji)) h3.1 hS' ?_⟩
   ·refine hfree k ok hk hki ?_ hno
    by_cases hjk:j=k
    ·subst hjk;exact hjun
    ·rw[getD_set_ne true hjk] at hun;exact hun
   ·rw[Array.setIfInBounds_comm _ _ hji]
    exact h3.2.2
def Zbr (F:Fence) (n:Nat) (P:Program) (ops:Array Oper) (Q:Exit->Act->World->Prop) (S:World->Prop) (bar:Nat->Bool):List (Nat×Nat)->Act->World->Prop
 | [],a,w=>Q .normal a w
 | (0,i)::ks,a,w=>∃ o,ops[i]?=some o/\(if Region.wanted o (yielded ops a.tmps) then o.wpIn F n P a w (fun a' w'=>(bar i=true\/S w')/\Zbr F n P ops Q S bar ks a' w') Q
   else (bar i=true\/S w)/\Zbr F n P ops Q S bar ks (a.put o.dst undef) w)
 | (_+1,i)::ks,a,w=>∃ o v,ops[i]?=some o/\Zbi P ops S o v a/\Zbr F n P ops Q S bar ks (a.put o.dst v) w
def Zdy (md:Region.Mode) (ops:Array Oper) (bar:Nat->Bool):List (Nat×Nat)->Array Bool->Bool
 | [],listed=>decide (Region.ready md ops listed=[])
 | (0,k)::ks,listed=>decide (Region.ready md ops listed=[k]) && (!bar k || ks.all fun b=>b.1==0) && Zdy md ops bar ks (listed.setIfInBounds k true)
 | (_+1,k)::ks,listed=>(Region.ready md ops listed).contains k && Region.free md ops listed k && !bar k && ((List.range ops.size).all fun j=>!bar j || decide (j=k) || Zcm md ops ops.size j k) && Zdy md ops bar ks (listed.setIfInBounds k true)
theorem ZcX (hro:F.round=none) (hfn:∀ k,F.fn k) (hsel:Region.noSelect ops=true) (hQ:∀ c a o v w,Q (.panic c) (a.put o v) w->Q (.panic c) a w) (hbo:∀ j,ops.size<=j->bar j=false) :
  ∀ (ks:List (Nat×Nat)) (listed:Array Bool) (a:Act) (w:World),Zdy md ops bar ks listed=true->Zao md ops listed->
   (S w\/ks.all (fun b=>b.1==0)=true)->Zbr F n P ops Q S bar ks a w->wpJI F n P md ops Q S bar ks.length listed a w
 | [],listed,a,w,hB,_,_,h=>⟨of_decide_eq_true hB,h⟩
 | (m+1,k)::ks,listed,a,w,hB,hC,hS,h=>by
  simp only[Zdy,Zpj] at hB
  obtain⟨⟨⟨⟨hr,hf⟩,hbk⟩,hw⟩,hB'⟩:=hB
  have hSw:S w:=by
   rcases hS with hS | hS
   ·exact hS
   ·simp at hS
  obtain⟨o,v,h0,hy,hrest⟩:=h
  have hbk':bar k=false:=by simpa using hbk
  have hwait:Zcl md ops bar k:=fun j hj hne=>by
   have hjl:j<ops.size:=by
    rcases ZoR j ops.size with h' | h'
    ·exact h'
    ·rw[hbo j h'] at hj;cases hj
   rw[Zpo] at hw
   have:=hw j (List.mem_range.2 hjl)
   rw[hj] at this
   simpa[hne] using this
  have ih:=ZcX hro hfn hsel hQ hbo ks (listed.setIfInBounds k true) (a.put o.dst v) w hB' (hC.step (by simpa using hr)) (.inl hSw) hrest
  rw[Zpl]
  exact ZgF hro h0 hsel (fun c a w=>hQ c a o.dst v w) hwait hbk' ks.length listed a w hC (Region.free_spec h0 hf) (by simpa using hr) hy hSw ih
 | (0,k)::ks,listed,a,w,hB,hC,hS,h=>by
  simp only[Zdy,Zpj,Zpk] at hB
  obtain⟨⟨hr,hbk⟩,hB'⟩:=hB
  obtain⟨o,h0,h⟩:=h
  refine⟨fun h1=>(by rw[hr] at h1;cases h1),fun i hi=>?_⟩
  rw[hr] at hi
  obtain rfl:i=k:=by simpa using hi
  have ih:=fun a' w' (hs:bar i=true\/S w') h'=>ZcX hro hfn hsel hQ hbo ks (listed.setIfInBounds i true) a' w' hB' (hC.step (by rw[hr];simp)) (by
   rcases hs with hs | hs
   ·rw[hs] at hbk
    exact .inr (by simpa using hbk)
   ·exact .inl hs) h'
  unfold wpOpIn
  simp only[h0]
  split at h
  ·rename_i hw;simp only[hw,if_true];exact Oper.wpIn_mono (fun a' w' h'=>⟨h'.1,ih a' w' h'.1 h'.2⟩) h
  ·rename_i hw;simp only[hw];exact⟨fun f _=>hfn f,h.1,ih _ _ h.1 h.2⟩
def Zik (l:List Oper) (ks:List (Nat×Nat)) (bar:Nat->Bool):Bool:=
 Region.noSelect l.toArray && decide (ks.length=l.length) && Zdy .any l.toArray bar ks (Array.replicate l.toArray.size false)
theorem Zd7 {id:Nat} {a:Act} {w:World} {l:List Oper} (ks:List (Nat×Nat)) (S:World->Prop) (bar:Nat->Bool) (hro:F.round=none) (hfn:∀ k,F.fn k) (hm:P.follows .mixedOrders=true)
  (hB:Zik l ks bar=true) (hbo:∀ j,l.length<=j->bar j=false) (hQ:∀ c a o v w,Q (.panic c) (a.put o v) w->Q (.panic c) a w) (hS:S w.drew)
  (H:Zbr F n P l.toArray Q S bar ks a w.drew):(Code.region id l.toArray true).wpIn F n P Q a w:=by
 simp only[Zik,Zpj,Zpk] at hB
 obtain⟨⟨hsel,hn⟩,hm2⟩:=hB
 have:=Ze2 _ _ _ _ (ZcX hro hfn hsel hQ (fun j hj=>hbo j (by simpa using hj)) ks _ a w.drew hm2 Zao.start (.inl hS) H)
 rw[hn] at this
 exact wpIn_region_any hm (by simpa using this)
theorem Zbu {i k:Nat} {o:Oper} {ks:List (Nat×Nat)} {a:Act} {w:World} (v:Value) (ho:ops[i]?=some o) (hw:Region.wanted o (yielded ops a.tmps)=true) (hv:∀ w,S w->(execOp a.eval o).run P w=.ok (.value v) w) (hb:∀ w,o.about P w a.eval=none)
  (h:Zbr F n P ops Q S bar ks (a.put o.dst v) w):Zbr F n P ops Q S bar ((k+1,i)::ks) a w:=⟨o,v,ho,⟨.inl ⟨hw,hv⟩,hb⟩,h⟩
theorem ZbT {i k:Nat} {o:Oper} {ks:List (Nat×Nat)} {a:Act} {w:World} (ho:ops[i]?=some o) (hw:Region.wanted o (yielded ops a.tmps)=false) (hb:∀ w,o.about P w a.eval=none)
  (h:Zbr F n P ops Q S bar ks (a.put o.dst undef) w):Zbr F n P ops Q S bar ((k+1,i)::ks) a w:=⟨o,undef,ho,⟨.inr ⟨hw,rfl⟩,hb⟩,h⟩
theorem ZaX {i:Nat} {o:Oper} {ks:List (Nat×Nat)} {a:Act} {w:World} (ho:ops[i]?=some o) (hw:Region.wanted o (yielded ops a.tmps)=true)
  (h:∀ K:Act->World->Prop,(∀ a' w',(bar i=true\/S w')->Zbr F n P ops Q S bar ks a' w'->K a' w')->o.wpIn F n P a w K Q):Zbr F n P ops Q S bar ((0,i)::ks) a w:=by
 refine⟨o,ho,?_⟩
 rw[if_pos hw]
 exact h _ fun _ _ h1 h2=>⟨h1,h2⟩
theorem ZdQ {i:Nat} {o:Oper} {ks:List (Nat×Nat)} {a:Act} {w:World} (ho:ops[i]?=some o) (hw:Region.wanted o (yielded ops a.tmps)=false) (hS:bar i=true\/S w)
  (h:Zbr F n P ops Q S bar ks (a.put o.dst undef) w):Zbr F n P ops Q S bar ((0,i)::ks) a w:=by
 refine⟨o,ho,?_⟩
 rw[if_neg (by rw[hw];exact Bool.false_ne_true)]
 exact⟨hS,h⟩
theorem ZcJ {a:Act} {w:World} (h:Q .normal a w):Zbr F n P ops Q S bar [] a w:=h
end
end Go.Proofs.YtmpaflidennnoaaGreatDoor
