/- The parts EffNames of a proof, put together by program (merge7.py). -/
import Derived.Test.YtmpaflidennnoaaGreatDoorK005
import Derived.Test.YtmpaflidennnoaaGreatDoorH31
set_option linter.unusedVariables false
set_option linter.unusedSimpArgs false
namespace Go.Proofs.YtmpaflidennnoaaGreatDoor
open Go.RowKit Go.Shelf
theorem Zb3 (a b:Int) (ha:a=0∨a=1∨a=2) (hb:b=0∨b=1):PlanOk twoT [[a,b]]↔a+b≤2:=by
 constructor
 ·intro h
  have h2:=h.sum 0 (by show 0<1;decide)
  have e:ZA [[a,b]] 0 twoT.sites.length=a+b:=by
   show ZA [[a,b]] 0 2=a+b
   unfold ZA ZA ZA
   show 0+a+b=a+b
   omega
  rw[e] at h2
  exact h2
 ·intro hs
  refine⟨Zcz,rfl,fun u hu=>?_,fun u i hu hi=>?_,fun u hu=>?_⟩
  ·have h:u<1:=hu
   obtain rfl:u=0:=by omega
   rfl
  ·have h:u<1:=hu
   obtain rfl:u=0:=by omega
   have h2:i<2:=hi
   have hr:rR twoT 0 i≠0:=by rw[Zbb i h2];decide
   match i,h2,hr with
   | 0,_,hr=>exact⟨by show 0≤a∧a≤48;omega,fun _=>hr⟩
   | 1,_,hr=>exact⟨by show 0≤b∧b≤48;omega,fun _=>hr⟩
  ·have h:u<1:=hu
   obtain rfl:u=0:=by omega
   have e:ZA [[a,b]] 0 twoT.sites.length=a+b:=by
    show ZA [[a,b]] 0 2=a+b
    unfold ZA ZA ZA
    show 0+a+b=a+b
    omega
   rw[e]
   exact hs
theorem ZcM:valR twoT [[2,0]]=mkRat 3 8:=by
 have v0:valF twoT [[2,0]] 0=mkRat 3 8:=by
  unfold valF
  rw[Zck.1,Zcs 2 0 0 (by decide),show ((pN [[2,0]] 0 0:Int):Rat)=2 by decide +kernel,(ZcW 0 (by decide)).2.2]
  decide +kernel
 have v1:valF twoT [[2,0]] 1=0:=by
  unfold valF
  rw[Zck.2,Zcs 2 0 1 (by decide),show ((pN [[2,0]] 0 1:Int):Rat)=0 by decide +kernel,(ZcW 1 (by decide)).1]
  decide +kernel
 show 0+valF twoT [[2,0]] 0+valF twoT [[2,0]] 1=_
 rw[v0,v1]
 decide +kernel
theorem Zmh:Z3 twoT [[0,0]] 0 0=mkRat 1 4:=by rw[Zb4 0 (by decide) 0 0 rfl];decide +kernel
theorem Zmq:Z3 twoT [[0,0]] 0 1=mkRat 1 8:=by rw[Zb4 1 (by decide) 0 0 rfl];decide +kernel
theorem ZmG:Z3 twoT [[1,0]] 0 0=mkRat 1 8:=by rw[Zhc 0 (by decide) 1 0 rfl];decide +kernel
theorem ZmF:Z3 twoT [[1,0]] 0 1=mkRat 1 8:=by rw[Zb4 1 (by decide) 1 0 rfl];decide +kernel
theorem Zjz (i:Nat) (hi:i<2):slF (eS twoT i).curve 0=mkRat 1 2∧slF (eS twoT i).curve 2=0:=by
 have e:(eS twoT i).curve=ZX 2:=by
  match i,hi with
  | 0,_=>rfl
  | 1,_=>rfl
 rw[e]
 have hl:=Za8 2
 refine⟨(Zgu Zav 0).unique ⟨0,?_,?_⟩,(Zgu Zav 2).unique ⟨2,?_,?_⟩⟩
 all_goals rw[hl]
 ·exact⟨by decide,fun j hj=>absurd hj (by omega),fun _=>by decide +kernel⟩
 ·decide +kernel
 ·refine⟨by decide,fun j hj=>?_,fun h=>absurd h (by decide)⟩
  have h2:j<2:=hj
  match j,h2 with
  | 0,_=>decide +kernel
  | 1,_=>decide +kernel
 ·decide +kernel
theorem Zg0 {qs:List PP} (h:Za5 twoT [[2,0]] qs):qs=[ZD]:=by
 have p0:priF twoT [[2,0]] 0 0=0:=by
  unfold priF wsF
  rw[Zcs 2 0 0 (by decide),show ((pN [[2,0]] 0 0:Int):Rat)=2 by decide +kernel,(Zjz 0 (by decide)).2,Rat.mul_zero,Rat.zero_mul]
 have p1:priF twoT [[2,0]] 0 1=mkRat 1 8:=by
  unfold priF wsF
  rw[Zcs 2 0 1 (by decide),show ((pN [[2,0]] 0 1:Int):Rat)=0 by decide +kernel,(Zjz 1 (by decide)).1,Zbb 1 (by decide),Zck.2]
  decide +kernel
 have hb:Best (priF twoT [[2,0]] 0) 2 (some 1) (priF twoT [[2,0]] 0 1):=((Best.zero _).keep (by rw[p0];exact Rat.le_refl)).up (by rw[p1];decide +kernel)
 refine h.det ⟨rfl,fun u hu=>?_⟩
 have h:u<1:=hu
 obtain rfl:u=0:=by omega
 refine⟨_,_,hb,?_⟩
 rw[p1]
 exact Zae (by decide +kernel)
theorem ZeA:Zj twoT [ZD] 0=mkRat 1 4∧Zj twoT [ZD] 1=mkRat 1 8∧Zj twoT [ZD] 2=0:=by
 refine⟨?_,?_,?_⟩
 ·unfold Zj
  rw[if_pos (show 0<twoT.hours.length by decide)]
  decide +kernel
 ·unfold Zj
  rw[if_neg (show ¬ 1<twoT.hours.length by decide)]
  exact Zbo Zip
 ·unfold Zj
  rw[if_neg (show ¬ 2<twoT.hours.length by decide)]
  exact Zbo Zh8
theorem Zfg:bndR twoT [ZD]=mkRat 3 8:=by
 show 0+Zj twoT [ZD] 0+Zj twoT [ZD] 1+Zj twoT [ZD] 2=_
 rw[ZeA.1,ZeA.2.1,ZeA.2.2]
 decide +kernel
theorem ZlZ:Zdq twoT [[2,0]] [ZD]:=by
 have i0:IsP (0:Rat) ⟨#[48]⟩ ⟨#[49]⟩:=ZP
 have i1:IsP (mkRat 1 4) ⟨#[49]⟩ ⟨#[52]⟩:=Zae (by decide +kernel)
 have i2:IsP (mkRat 3 8) ⟨#[51]⟩ ⟨#[56]⟩:=Zae (by decide +kernel)
 have s1:sumF (Zj twoT [ZD]) 1=mkRat 1 4:=by
  show 0+Zj twoT [ZD] 0=_
  rw[ZeA.1,Rat.zero_add]
 have s2:sumF (Zj twoT [ZD]) 2=mkRat 3 8:=by
  show sumF (Zj twoT [ZD]) 1+Zj twoT [ZD] 1=_
  rw[s1,ZeA.2.1]
  decide +kernel
 refine⟨fun k hk=>?_,?_⟩
 ·have hk3:k≤3:=hk
  match k,hk3 with
  | 0,_=>exact i0.fits
  | 1,_=>rw[s1];exact i1.fits
  | 2,_=>rw[s2];exact i2.fits
  | 3,_=>rw[show sumF (Zj twoT [ZD]) 3=mkRat 3 8 from Zfg];exact i2.fits
 ·rw[Zfg,ZcM,show mkRat 3 8-mkRat 3 8=(0:Rat) by decide +kernel]
  exact i0.fits
theorem Zlr {R:Nat} {q:List (List Int)} {qs:List PP} (h:Zgd twoT R q qs):q=[[2,0]]∧qs=[ZD]:=by
 obtain⟨p,k,h1,h2,h3,h4⟩:=h
 have hp:=Zge h1
 subst hp
 have ok20:PlanOk twoT [[2,0]]:=(Zb3 2 0 (by decide) (by decide)).2 (by decide)
 obtain⟨_,_,_,hv2,_⟩:=h2.law ok20
 have hq:q=[[2,0]]:=by
  cases h2 with
  | stop _=>rfl
  | rest _=>rfl
  | more g1 g2=>
   exfalso
   have h5:=hv2.2 (Nat.succ_pos _)
   rw[ZcM] at h5
   have h6:=ZdS h3 ZgF
   have h7:sumF (valF twoT q) twoT.sites.length≤mkRat 3 8:=by rw[← Zfg];exact h6
   exact absurd h5 (Rat.not_lt.2 h7)
 subst hq
 exact⟨rfl,Zg0 h4⟩
theorem ZfZ (P:PP) (c:Rat) (hc:prR [P] 0=c) (i:Nat) (hi:i<2):LeastQ (fun u=>prR [P] u/rR twoT u i) (fun u=>rR twoT u i≠0) 1 (some c):=by
 have h:=(LeastQ.zero (fun u=>prR [P] u/rR twoT u i) (fun u=>rR twoT u i≠0)).take (by show rR twoT 0 i≠0;rw[Zbb i hi];decide) (fun c hc=>by cases hc)
 have e:prR [P] 0/rR twoT 0 i=c:=by
  rw[Zbb i hi,hc,Rat.div_def,show (1:Rat)⁻¹=1 by decide +kernel,Rat.mul_one]
 rw[e] at h
 exact h
def Zax:PP:=(⟨#[48]⟩,⟨#[49]⟩)
def oneP:PP:=(⟨#[49]⟩,⟨#[49]⟩)
theorem Zfl (P:PP) (hP:Zm 300 P=true):PricesOk twoT [P]:=⟨rfl,fun u hu=>by
 have h:u<1:=hu
 obtain rfl:u=0:=by omega
 exact hP⟩
theorem Zkw {x y:ByteArray} {n:Int} (h:SumE (Zj twoT [Zax]) 3 x y n):x=⟨#[57]⟩∧y=⟨#[49,54]⟩∧n=0:=by
 have hs:∀ i,i<2→SurR twoT [Zax] i (posR (wR twoT i*hR (eS twoT i).curve 2-0*cR (eS twoT i).curve 2)):=fun i hi=>by
  refine⟨_,ZfZ Zax 0 (by decide +kernel) i hi,.inr ⟨_,rfl,some 2,?_⟩⟩
  exact match i,hi with
  | 0,_=>(((Best.zero (fun k=>posR (wR twoT 0*hR (eS twoT 0).curve k-0*cR (eS twoT 0).curve k))).keep (by unfold posR;decide +kernel)).up (by unfold posR;decide +kernel)).up (by unfold posR;decide +kernel)
  | 1,_=>(((Best.zero (fun k=>posR (wR twoT 1*hR (eS twoT 1).curve k-0*cR (eS twoT 1).curve k))).keep (by unfold posR;decide +kernel)).up (by unfold posR;decide +kernel)).up (by unfold posR;decide +kernel)
 have f0:Zj twoT [Zax] 0=0:=by
  unfold Zj
  rw[if_pos (show 0<twoT.hours.length by decide)]
  decide +kernel
 have f1:Zj twoT [Zax] 1=mkRat 3 8:=by
  unfold Zj
  rw[if_neg (show ¬ 1<twoT.hours.length by decide)]
  refine(Zbo (hs 0 (by decide))).trans ?_
  unfold posR;decide +kernel
 have f2:Zj twoT [Zax] 2=mkRat 3 16:=by
  unfold Zj
  rw[if_neg (show ¬ 2<twoT.hours.length by decide)]
  refine(Zbo (hs 1 (by decide))).trans ?_
  unfold posR;decide +kernel
 have s0:sumF (Zj twoT [Zax]) 0=0:=rfl
 have s1:sumF (Zj twoT [Zax]) 1=0:=by
  show sumF (Zj twoT [Zax]) 0+Zj twoT [Zax] 0=_
  rw[s0,f0,Rat.zero_add]
 have s2:sumF (Zj twoT [Zax]) 2=mkRat 3 8:=by
  show sumF (Zj twoT [Zax]) 1+Zj twoT [Zax] 1=_
  rw[s1,f1,Rat.zero_add]
 have s3:sumF (Zj twoT [Zax]) 3=mkRat 9 16:=by
  show sumF (Zj twoT [Zax]) 2+Zj twoT [Zax] 2=_
  rw[s2,f2]
  decide +kernel
 have i0:IsP (0:Rat) ⟨#[48]⟩ ⟨#[49]⟩:=ZP
 have i2:IsP (mkRat 3 8) ⟨#[51]⟩ ⟨#[56]⟩:=Zae (by decide +kernel)
 have i3:IsP (mkRat 9 16) ⟨#[57]⟩ ⟨#[49,54]⟩:=Zae (by decide +kernel)
 have hall:ZT (Zj twoT [Zax]) 3:=fun k hk=>by
  match k,hk with
  | 0,_=>rw[s0];exact i0.fits
  | 1,_=>rw[s1];exact i0.fits
  | 2,_=>rw[s2];exact i2.fits
  | 3,_=>rw[s3];exact i3.fits
 exact h.det (.inl ⟨hall,by rw[s3];exact i3,rfl⟩)
theorem Zke {x y:ByteArray} {n:Int} (h:SumE (Zj twoT [oneP]) 3 x y n):x=⟨#[50]⟩∧y=⟨#[49]⟩∧n=0:=by
 have hs:∀ i,i<2→SurR twoT [oneP] i 0:=fun i hi=>by
  refine⟨_,ZfZ oneP 1 (by decide +kernel) i hi,.inr ⟨_,rfl,none,?_⟩⟩
  exact match i,hi with
  | 0,_=>(((Best.zero (fun k=>posR (wR twoT 0*hR (eS twoT 0).curve k-1*cR (eS twoT 0).curve k))).keep (by unfold posR;decide +kernel)).keep (by unfold posR;decide +kernel)).keep (by unfold posR;decide +kernel)
  | 1,_=>(((Best.zero (fun k=>posR (wR twoT 1*hR (eS twoT 1).curve k-1*cR (eS twoT 1).curve k))).keep (by unfold posR;decide +kernel)).keep (by unfold posR;decide +kernel)).keep (by unfold posR;decide +kernel)
 have f0:Zj twoT [oneP] 0=2:=by
  unfold Zj
  rw[if_pos (show 0<twoT.hours.length by decide)]
  decide +kernel
 have f1:Zj twoT [oneP] 1=0:=by
  unfold Zj
  rw[if_neg (show ¬ 1<twoT.hours.length by decide)]
  exact Zbo (hs 0 (by decide))
 have f2:Zj twoT [oneP] 2=0:=by
  unfold Zj
  rw[if_neg (show ¬ 2<twoT.hours.length by decide)]
  exact Zbo (hs 1 (by decide))
 have s0:sumF (Zj twoT [oneP]) 0=0:=rfl
 have s1:sumF (Zj twoT [oneP]) 1=2:=by
  show sumF (Zj twoT [oneP]) 0+Zj twoT [oneP] 0=_
  rw[s0,f0,Rat.zero_add]
 have s2:sumF (Zj twoT [oneP]) 2=2:=by
  show sumF (Zj twoT [oneP]) 1+Zj twoT [oneP] 1=_
  rw[s1,f1,Rat.add_zero]
 have s3:sumF (Zj twoT [oneP]) 3=2:=by
  show sumF (Zj twoT [oneP]) 2+Zj twoT [oneP] 2=_
  rw[s2,f2,Rat.add_zero]
 have i0:IsP (0:Rat) ⟨#[48]⟩ ⟨#[49]⟩:=ZP
 have i2:IsP (2:Rat) ⟨#[50]⟩ ⟨#[49]⟩:=Zae (by decide +kernel)
 have hall:ZT (Zj twoT [oneP]) 3:=fun k hk=>by
  match k,hk with
  | 0,_=>rw[s0];exact i0.fits
  | 1,_=>rw[s1];exact i2.fits
  | 2,_=>rw[s2];exact i2.fits
  | 3,_=>rw[s3];exact i2.fits
 exact h.det (.inl ⟨hall,by rw[s3];exact i2,rfl⟩)
end Go.Proofs.YtmpaflidennnoaaGreatDoor
