/- The parts EGreatN, EffBd, EffHrs, EffD, EffFit, EffImp, EffPri. -/
import Derived.Test.YtmpaflidennnoaaGreatDoorH29
set_option linter.unusedVariables false
set_option linter.unusedSimpArgs false
namespace Go.Proofs.YtmpaflidennnoaaGreatDoor
open Go.RowKit Go.Shelf
attribute [local go_sem ↓] Go.wp_at_zero Go.wp_at_succ
attribute [local go_sem] Oper.semAt_some
end Go.Proofs.YtmpaflidennnoaaGreatDoor
namespace Go.Proofs.YtmpaflidennnoaaGreatDoor
open Go.RowKit Go.Shelf
noncomputable def valR (t:TaskP) (p:List (List Int)):Rat:=sumF (valF t p) t.sites.length
def mvU (t:TaskP) (j:Nat):Nat:=j/t.sites.length/t.sites.length
def mvI (t:TaskP) (j:Nat):Nat:=j/t.sites.length % t.sites.length
def mvK (t:TaskP) (j:Nat):Nat:=j % t.sites.length
def mvB (t:TaskP) (p:List (List Int)) (j:Nat):Bool:=decide (0<pN p (mvU t j) (mvI t j)) && (decide (mvI t j≠mvK t j) && decide (rR t (mvU t j) (mvK t j)≠0))
def Zdp (t:TaskP) (p:List (List Int)) (j:Nat):List (List Int):=bump (bump p (mvU t j) (mvI t j) (-1)) (mvU t j) (mvK t j) 1
def mvN (t:TaskP):Nat:=t.hours.length*t.sites.length*t.sites.length
inductive MoveR (t:TaskP) (p:List (List Int)):Option (List (List Int))->Prop
 | no (h:∀ j,j<mvN t->mvB t p j=true->valR t (Zdp t p j)<=valR t p):MoveR t p none
 | yes (j:Nat) (hj:j<mvN t) (hm:mvB t p j=true) (hv:valR t p<valR t (Zdp t p j)) (hf:∀ i,i<j->mvB t p i=true->valR t (Zdp t p i)<=valR t p):MoveR t p (some (Zdp t p j))
theorem MoveR.det {t:TaskP} {p:List (List Int)} {r s:Option (List (List Int))} (h:MoveR t p r) (g:MoveR t p s):r=s:=by
 cases h with
 | no h=>
  cases g with
  | no _=>rfl
  | yes j hj hm hv _=>exact Zo4 hv (Rat.not_lt.2 (h j hj hm))
 | yes j hj hm hv hf=>
  cases g with
  | no g=>exact Zo4 hv (Rat.not_lt.2 (g j hj hm))
  | yes i hi gm gv gf=>
   rcases Nat.lt_trichotomy i j with h | rfl | h
   ·exact Zo4 gv (Rat.not_lt.2 (hf i h gm))
   ·rfl
   ·exact Zo4 hv (Rat.not_lt.2 (gf j h hm))
inductive ImproveR (t:TaskP):Nat->List (List Int)->List (List Int)->Nat->Prop
 | stop (p:List (List Int)):ImproveR t 0 p p 0
 | rest {n:Nat} {p:List (List Int)} (h:MoveR t p none):ImproveR t (n+1) p p 0
 | more {n k:Nat} {p q r:List (List Int)} (h:MoveR t p (some q)) (g:ImproveR t n q r k):ImproveR t (n+1) p r (k+1)
theorem ImproveR.det {t:TaskP} {n k l:Nat} {p q r:List (List Int)} (h:ImproveR t n p q k) (g:ImproveR t n p r l):q=r/\k=l:=by
 induction h generalizing r l with
 | stop _=>cases g;exact⟨rfl,rfl⟩
 | rest h=>
  cases g with
  | rest _=>exact⟨rfl,rfl⟩
  | more g _=>cases h.det g
 | more h _ ih=>
  cases g with
  | rest g=>cases h.det g
  | more g1 g2=>
   obtain rfl:=Zou (h.det g1)
   obtain⟨e1,e2⟩:=ih g2
   exact⟨e1,by rw[e2]⟩
theorem Znl {t:TaskP} {j:Nat} (h:j<mvN t):mvU t j<t.hours.length/\mvI t j<t.sites.length/\mvK t j<t.sites.length:=by
 have h0:0<t.sites.length:=by
  refine Nat.pos_of_ne_zero fun e=>?_
  unfold mvN at h
  rw[e,Nat.mul_zero] at h
  exact Zo4 h (ZoQ _)
 unfold mvN at h
 exact⟨Nat.div_lt_of_lt_mul (Nat.div_lt_of_lt_mul (by rw[ZoM] at h;rwa [ZoM t.sites.length t.hours.length])),Nat.mod_lt _ h0,Nat.mod_lt _ h0⟩
section
variable {t:TaskP} {p:List (List Int)}
theorem ZcL (j:Nat):(Zdp t p j).length=p.length:=by unfold Zdp;rw[Zar,Zar]
theorem Zc3 {u i:Nat} {d:Int} {v N:Nat} (hv:v<p.length) (h:p[v].length=N):∃ h2:v<(bump p u i d).length,(bump p u i d)[v].length=N:=by
 have h2:v<(bump p u i d).length:=by rw[Zar];exact hv
 exact⟨h2,by rw[Zf6 h2];exact h⟩
theorem ZhL (ok:PlanOk t p) {j:Nat} (hj:j<mvN t) (v:Nat):ZZ (Zdp t p j) v t.sites.length=ZZ p v t.sites.length:=by
 obtain⟨h1,h2,h3⟩:=Znl hj
 have hu:mvU t j<p.length:=by rw[ok.teams];exact h1
 have hr:=ok.row _ hu
 obtain⟨hu2,hr2⟩:=Zc3 (u:=mvU t j) (i:=mvI t j) (d:=-1) hu hr
 unfold Zdp
 rw[ZcB 1 hu2 (by rw[hr2];exact h3),ZcB (-1) hu (by rw[hr];exact h2)]
 by_cases e:v=mvU t j
 ·rw[if_pos ⟨e,h2⟩,if_pos ⟨e,h3⟩]
  omega
 ·rw[if_neg (fun h=>e h.1),if_neg (fun h=>e h.1)]
  omega
theorem PlanOk.moved (ok:PlanOk t p) {j:Nat} (hj:j<mvN t) (hm:mvB t p j=true):PlanOk t (Zdp t p j):=by
 obtain⟨h1,h2,h3⟩:=Znl hj
 have hu:mvU t j<p.length:=by rw[ok.teams];exact h1
 have hr:=ok.row _ hu
 obtain⟨hu2,hr2⟩:=Zc3 (u:=mvU t j) (i:=mvI t j) (d:=-1) hu hr
 have hs:=ZhL ok hj
 have h48:∀ v,v<p.length->eH t v<=48:=fun v hv=>(ok.task.team v (by rw[ok.task.rates,<- ok.teams];exact hv)).1.2
 unfold mvB at hm
 simp only[ZoY,ZoZ] at hm
 obtain⟨m1,m2,m3⟩:=hm
 have hval:∀ v i,pN (Go.Proofs.YtmpaflidennnoaaGreatDoor.Zdp t p j) v i=if v=mvU t j/\i=mvK t j then pN p v i+1 else if v=mvU t j/\i=mvI t j then pN p v i-1 else pN p v i:=fun v i=>by
  unfold Go.Proofs.YtmpaflidennnoaaGreatDoor.Zdp
  by_cases e:v=mvU t j/\i=mvK t j
  ·obtain⟨rfl,rfl⟩:=e
   rw[if_pos ⟨rfl,rfl⟩,ZdX hu2 (by rw[hr2];exact h3),Zcd (.inr fun e=>m2 e.symm)]
  ·rw[if_neg e,Zcd (by by_cases h:v=mvU t j;exact .inr fun h2=>e ⟨h,h2⟩;exact .inl h)]
   by_cases e2:v=mvU t j/\i=mvI t j
   ·obtain⟨rfl,rfl⟩:=e2
    rw[if_pos ⟨rfl,rfl⟩,ZdX hu (by rw[hr];exact h2)]
    omega
   ·rw[if_neg e2,Zcd (by by_cases h:v=mvU t j;exact .inr fun h2=>e2 ⟨h,h2⟩;exact .inl h)]
 have hnn:∀ v i,v<p.length->i<t.sites.length->0<=pN (Go.Proofs.YtmpaflidennnoaaGreatDoor.Zdp t p j) v i:=fun v i hv hi=>by
  have:=(ok.hour v i hv hi).1.1
  rw[hval]
  split
  ·omega
  ·split
   ·rename_i h
    obtain⟨rfl,rfl⟩:=h
    omega
   ·exact this
 refine⟨ok.task,by rw[ZcL];exact ok.teams,fun v hv=>?_,fun v i hv hi=>?_,fun v hv=>?_⟩
 ·rw[ZcL] at hv
  obtain⟨g1,g2⟩:=Zc3 (u:=mvU t j) (i:=mvI t j) (d:=-1) hv (ok.row v hv)
  obtain⟨_,g3⟩:=Zc3 (u:=mvU t j) (i:=mvK t j) (d:=1) g1 g2
  exact g3
 ·rw[ZcL] at hv
  have h0:=ok.hour v i hv hi
  have hle:=(Zev (p:=Go.Proofs.YtmpaflidennnoaaGreatDoor.Zdp t p j) (u:=v) (n:=t.sites.length) fun k hk=>hnn v k hv hk).2 i hi
  rw[hs v] at hle
  have:=ok.sum v hv
  have:=h48 v hv
  refine⟨⟨hnn v i hv hi,Za⟩,fun hp=>?_⟩
  rw[hval] at hp
  split at hp
  ·rename_i h
   obtain⟨rfl,rfl⟩:=h
   exact m3
  ·split at hp
   ·exact h0.2 Za
   ·exact h0.2 hp
 ·rw[ZcL] at hv
  rw[hs v]
  exact ok.sum v hv
theorem MoveR.plan {q:List (List Int)} (h:MoveR t p (some q)) (ok:PlanOk t p):PlanOk t q/\valR t p<valR t q/\∀ v,ZZ q v t.sites.length=ZZ p v t.sites.length:=by
 cases h with
 | yes j hj hm hv hf=>exact⟨ok.moved hj hm,hv,ZhL ok hj⟩
theorem ImproveR.law {n k:Nat} {q:List (List Int)} (h:ImproveR t n p q k) (ok:PlanOk t p) :
  PlanOk t q/\k<=n/\valR t p<=valR t q/\(valR t p<valR t q<->0<k)/\(∀ v,ZZ q v t.sites.length=ZZ p v t.sites.length)/\(k<n->MoveR t q none):=by
 induction h with
 | stop p=>exact⟨ok,Nat.le_refl _,Rat.le_refl,⟨fun h=>Zo4 h Rat.lt_irrefl,fun h=>Zo4 h (Nat.lt_irrefl _)⟩,fun _=>rfl,fun h=>Zo4 h (Nat.lt_irrefl _)⟩
 | rest h=>exact⟨ok,ZoD _,Rat.le_refl,⟨fun h=>Zo4 h Rat.lt_irrefl,fun h=>Zo4 h (Nat.lt_irrefl _)⟩,fun _=>rfl,fun _=>h⟩
 | @more n k p q1 q h _ ih=>
  obtain⟨m1,m2,m3⟩:=h.plan ok
  obtain⟨i1,i2,i3,i4,i5,i6⟩:=ih m1
  have hlt:valR t p<valR t q:=Zk
  exact⟨i1,Za,Rat.le_of_lt hlt,⟨fun _=>Za,fun _=>hlt⟩,fun v=>by rw[i5,m3],fun hk=>i6 Za⟩
end
end Go.Proofs.YtmpaflidennnoaaGreatDoor
