/- The parts Dec, NatOk, Frac, Size, Curve, Trim, Plus, Back of a proof, put together by program (merge7.py). -/
import Derived.Lib.ItoaNum
import Derived.Lib.ParseIntB
import Derived.Test.YtmpaflidennnoaaGreatDoorH01
import Derived.RangeFuncBound
import Derived.RangeFuncCalls
import Derived.RangeFuncBox
import Derived.Shelf.Abstract
import Derived.OwnWalkIn
import Derived.TacticsInMore
import Derived.LoopNIn
import Derived.LoopIn
set_option maxRecDepth 100000
set_option maxHeartbeats 2000000
set_option linter.unusedVariables false
set_option linter.unusedSimpArgs false
namespace Go.Proofs.YtmpaflidennnoaaGreatDoor
open Go.Lib
def dg1 (c:UInt8):Nat:=c.toNat-48
def Zs (c:UInt8):Bool:=decide (48≤c.toNat∧c.toNat≤57)
def Zd (s:List UInt8):Nat:=s.foldl (fun a c=>a*10+dg1 c) 0
theorem Zjm (s:List UInt8):∀ a,s.foldl (fun a c=>a*10+dg1 c) a=a*10 ^ s.length+Zd s:=by
 unfold Zd
 induction s with
 | nil=>intro a;simp
 | cons c s ih=>
  intro a
  rw[List.foldl_cons,ih,List.foldl_cons,ih (0*10+dg1 c),List.length_cons,Nat.pow_succ]
  grind
theorem ZbR:Zd []=0:=rfl
theorem Zb2 (s t:List UInt8):Zd (s++t)=Zd s*10 ^ t.length+Zd t:=by
 show List.foldl _ 0 (s++t)=_
 rw[List.foldl_append,Zjm]
 rfl
theorem ZdW (c:UInt8):Zd [c]=dg1 c:=by simp[Zd]
theorem ZdE (s:List UInt8) (c:UInt8):Zd (s++[c])=Zd s*10+dg1 c:=by rw[Zb2,ZdW];simp
theorem ZbV (c:UInt8) (s:List UInt8):Zd (c::s)=dg1 c*10 ^ s.length+Zd s:=by
 have:=Zb2 [c] s
 rwa [ZdW] at this
theorem Zh4 {c:UInt8} (h:Zs c=true):dg1 c<10:=by
 unfold Zs at h;unfold dg1
 have:=of_decide_eq_true h
 omega
theorem ZcL {d:Nat} (h:d<10):dg1 (UInt8.ofNat (48+d))=d∧Zs (UInt8.ofNat (48+d))=true:=by
 have:(UInt8.ofNat (48+d)).toNat=48+d:=by rw[UInt8.toNat_ofNat'];omega
 unfold dg1 Zs
 rw[this]
 exact⟨by omega,by simp;omega⟩
theorem Zeo {c:UInt8} (h:Zs c=true):UInt8.ofNat (48+dg1 c)=c:=by
 have h1:=of_decide_eq_true h
 apply UInt8.toNat_inj.1
 rw[UInt8.toNat_ofNat']
 unfold dg1
 have:=c.toNat_lt
 omega
theorem ZbK {s:List UInt8} (h:∀ c ∈ s,Zs c=true):Zd s<10 ^ s.length:=by
 induction s with
 | nil=>simp[Zd]
 | cons c s ih=>
  rw[ZbV,List.length_cons,Nat.pow_succ]
  have h1:=Zh4 (h c (by simp))
  have h2:=ih fun x hx=>h x (by simp[hx])
  have h3:dg1 c*10 ^ s.length≤9*10 ^ s.length:=Nat.mul_le_mul_right _ (by omega)
  omega
theorem Zaa {n:Nat} (h:n<10):decDigits n=[UInt8.ofNat (48+n)]:=by rw[decDigits,dif_pos h]
theorem Zay {n:Nat} (h:10≤n):decDigits n=decDigits (n/10)++[UInt8.ofNat (48+n % 10)]:=by rw[decDigits,dif_neg (by omega)]
theorem Zap (n:Nat):Zd (decDigits n)=n:=by
 induction n using Nat.strongRecOn with
 | _ n ih=>
  rcases Nat.lt_or_ge n 10 with h | h
  ·rw[Zaa h,ZdW];exact(ZcL h).1
  ·rw[Zay h,ZdE,ih (n/10) (by omega),(ZcL (Nat.mod_lt n (by omega))).1];omega
theorem Zdm (n:Nat):∀ c ∈ decDigits n,Zs c=true:=by
 induction n using Nat.strongRecOn with
 | _ n ih=>
  intro c hc
  rcases Nat.lt_or_ge n 10 with h | h
  ·rw[Zaa h] at hc;have hc:=List.mem_singleton.1 hc;subst hc;exact(ZcL h).2
  ·rw[Zay h] at hc
   rcases List.mem_append.1 hc with hc | hc
   ·exact ih (n/10) (by omega) c hc
   ·have hc:=List.mem_singleton.1 hc;subst hc;exact(ZcL (Nat.mod_lt n (by omega))).2
theorem Zdg (n:Nat):decDigits n≠[]:=by
 rcases Nat.lt_or_ge n 10 with h | h
 ·rw[Zaa h];simp
 ·rw[Zay h];simp
theorem ZcO {n m:Nat} (h:decDigits n=decDigits m):n=m:=by
 have:=congrArg Zd h
 rwa [Zap,Zap] at this
theorem Zbe:decDigits 0=[48]:=by rw[Zaa (by omega)];rfl
theorem ZbP:decDigits 1=[49]:=by rw[Zaa (by omega)];rfl
theorem Zfp {α:Type} {s t:List α} (h:s≠[]):(s++t).head?=s.head?:=by
 cases s with
 | nil=>exact absurd rfl h
 | cons c s=>rfl
theorem ZgP (n:Nat) (h:0<n):(decDigits n).head?≠some 48:=by
 induction n using Nat.strongRecOn with
 | _ n ih=>
  rcases Nat.lt_or_ge n 10 with h1 | h1
  ·rw[Zaa h1]
   intro hc
   have hc:=Option.some.inj hc
   have:=congrArg UInt8.toNat hc
   rw[UInt8.toNat_ofNat'] at this
   have h48:(48:UInt8).toNat=48:=rfl
   omega
  ·rw[Zay h1]
   have:=ih (n/10) (by omega) (by omega)
   rwa [Zfp (Zdg _)]
structure Canon (s:List UInt8):Prop where
 dig:∀ c ∈ s,Zs c=true
 ne:s≠[]
 head:1<s.length→s.head?≠some 48
theorem Zco (n:Nat):Canon (decDigits n):=by
 refine⟨Zdm n,Zdg n,fun h=>?_⟩
 rcases Nat.eq_zero_or_pos n with h0 | h0
 ·subst h0;rw[Zbe] at h;simp at h
 ·exact ZgP n h0
theorem ZjR {s:List UInt8} (hd:∀ c ∈ s,Zs c=true) (hn:s≠[]) (hh:s.head?≠some 48):0<Zd s:=by
 rcases s with _ | ⟨c,s⟩
 ·exact absurd rfl hn
 ·rw[ZbV]
  have h1:Zs c=true:=hd c (by simp)
  have h2:dg1 c≠0:=by
   intro h0
   apply hh
   have:=Zeo h1
   rw[h0] at this
   rw[List.head?_cons,← this]
   rfl
  have:0<dg1 c*10 ^ s.length:=Nat.mul_pos (by omega) (Nat.pow_pos (by omega))
  omega
theorem ZkG {α:Type} (s:List α) (h:s≠[]):∃ t c,s=t++[c]:=⟨s.dropLast,s.getLast h,(List.dropLast_concat_getLast h).symm⟩
theorem Zdh {s:List UInt8} (hd:∀ c ∈ s,Zs c=true) (hn:s≠[]) (hh:1<s.length→s.head?≠some 48):decDigits (Zd s)=s:=by
 induction hlen:s.length generalizing s with
 | zero=>exact absurd (List.eq_nil_of_length_eq_zero hlen) hn
 | succ k ih=>
  obtain⟨t,c,rfl⟩:=ZkG s hn
  have hc:Zs c=true:=hd c (by simp)
  have ht:∀ x ∈ t,Zs x=true:=fun x hx=>hd x (by simp[hx])
  have hcl:=Zh4 hc
  rw[ZdE]
  by_cases h0:t=[]
  ·subst h0
   rw[ZbR,Zaa (by omega)]
   simp only[Nat.zero_mul,Nat.zero_add,List.nil_append]
   rw[Zeo hc]
  ·have hlen2:1<(t++[c]).length:=by
    have:t.length≠0:=fun h=>h0 (List.eq_nil_of_length_eq_zero h)
    rw[List.length_append,List.length_singleton];omega
   have hh2:t.head?≠some 48:=by
    have:=hh hlen2
    rwa [Zfp h0] at this
   have hp:=ZjR ht h0 hh2
   rw[Zay (by omega),show (Zd t*10+dg1 c)/10=Zd t by omega,show (Zd t*10+dg1 c) % 10=dg1 c by omega,
    ih ht h0 (fun _=>hh2) (by simpa using hlen),Zeo hc]
theorem Canon.text {s:List UInt8} (h:Canon s):decDigits (Zd s)=s:=Zdh h.dig h.ne h.head
theorem Canon.eq {s t:List UInt8} (hs:Canon s) (ht:Canon t) (h:Zd s=Zd t):s=t:=by
 rw[← hs.text,← ht.text,h]
theorem ZO {n k:Nat} (hk:0<k) (h:n<10 ^ k):(decDigits n).length≤k:=by
 induction k generalizing n with
 | zero=>omega
 | succ k ih=>
  rcases Nat.lt_or_ge n 10 with h1 | h1
  ·rw[Zaa h1];simp
  ·rw[Zay h1,List.length_append,List.length_singleton]
   have hk0:0<k:=by
    rcases Nat.eq_zero_or_pos k with h0 | h0
    ·subst h0;simp at h;omega
    ·exact h0
   have:=ih (n:=n/10) hk0 (by rw[Nat.div_lt_iff_lt_mul (by omega)];rwa [Nat.pow_succ] at h)
   omega
theorem Zek (n:Nat):n<10 ^ (decDigits n).length:=by
 have:=ZbK (Zdm n)
 rwa [Zap] at this
def fix:Nat→Nat→List UInt8
 | 0,_=>[]
 | k+1,n=>fix k (n/10)++[UInt8.ofNat (48+n % 10)]
theorem ZgF (h k l:Nat) (hh:0<h) (hl:l<10 ^ k):decDigits (h*10 ^ k+l)=decDigits h++fix k l:=by
 induction k generalizing l with
 | zero=>
  have:l=0:=by simpa using hl
  subst this
  simp[fix]
 | succ k ih=>
  have hp:0<10 ^ k:=Nat.pow_pos (by omega)
  have h1:h*10 ^ (k+1)=h*10 ^ k*10:=by rw[Nat.pow_succ];grind
  have h2:1≤h*10 ^ k:=Nat.mul_pos hh hp
  rw[Zay (by omega),fix,show (h*10 ^ (k+1)+l)/10=h*10 ^ k+l/10 by omega,show (h*10 ^ (k+1)+l) % 10=l % 10 by omega,
   ih (l/10) (by rw[Nat.div_lt_iff_lt_mul (by omega)];rwa [Nat.pow_succ] at hl),List.append_assoc]
theorem ZmK (k:Nat):fix k 0=List.replicate k 48:=by
 induction k with
 | zero=>rfl
 | succ k ih=>rw[fix,Nat.zero_div,ih,List.replicate_succ'];rfl
theorem Zm2 (k l:Nat) (hk:0<k) (hl:l<10 ^ k):fix k l=List.replicate (k-(decDigits l).length) 48++decDigits l:=by
 induction k generalizing l with
 | zero=>omega
 | succ k ih=>
  rw[fix]
  rcases Nat.lt_or_ge l 10 with h1 | h1
  ·rw[Nat.div_eq_of_lt h1,Nat.mod_eq_of_lt h1,ZmK,Zaa h1];simp
  ·have hk0:0<k:=by
    rcases Nat.eq_zero_or_pos k with h0 | h0
    ·subst h0;simp at hl;omega
    ·exact h0
   rw[ih (l/10) hk0 (by rw[Nat.div_lt_iff_lt_mul (by omega)];rwa [Nat.pow_succ] at hl),Zay h1,List.length_append,List.append_assoc]
   simp only[List.length_singleton]
   congr 2
   omega
theorem ZcR (M:Nat) (hM:M≤18446744073709551615):∀ (s:List UInt8) (a:Nat),(∀ c ∈ s,Zs c=true)→a*10 ^ s.length+Zd s≤M→parseUintM M a s=.ok (a*10 ^ s.length+Zd s)
 | [],a,_,_=>by simp[parseUintM,Zd]
 | c::r,a,hd,hle=>by
  have hc:Zs c=true:=hd c (by simp)
  have hc1:=of_decide_eq_true hc
  have hp:0<10 ^ r.length:=Nat.pow_pos (by omega)
  have he:a*10 ^ (c::r).length+Zd (c::r)=(a*10+dg1 c)*10 ^ r.length+Zd r:=by
   rw[ZbV,List.length_cons,Nat.pow_succ];grind
  rw[he] at hle ⊢
  have h1:(a*10+dg1 c)*1≤(a*10+dg1 c)*10 ^ r.length:=Nat.mul_le_mul_left _ hp
  have h2:a*10+dg1 c≤M:=by omega
  have h3:dg1 c=c.toNat-48:=rfl
  rw[parseUintM,if_pos hc1,if_neg (by omega),if_neg (by omega)]
  exact ZcR M hM r _ (fun x hx=>hd x (by simp[hx])) hle
theorem ZeE {s:List UInt8} (hd:∀ c ∈ s,Zs c=true) (hn:s≠[]) (hl:s.length≤19):parseUintB 64 s=.ok (Zd s):=by
 rw[parseUintB,if_neg hn]
 have h1:=ZbK hd
 have h2:10 ^ s.length≤10 ^ 19:=Nat.pow_le_pow_right (by omega) hl
 have:=ZcR (2 ^ 64-1) (by omega) s 0 hd (by omega)
 simpa using this
end Go.Proofs.YtmpaflidennnoaaGreatDoor
namespace Go.Proofs.YtmpaflidennnoaaGreatDoor
open Go.Lib
theorem Zl (s:ByteArray):s.data.toList.length=s.size:=rfl
def Zc1 (l:List UInt8):Bool:=decide (l≠[]) && l.all Zs
def Zcd (l:List UInt8):Bool:=Zc1 l && decide (1<l.length→l.head?≠some 48)
def ZI (l:List UInt8):Bool:=Zcd l && decide (l.length≤600)
theorem Zgy {l:List UInt8} (h:Zcd l=true):Canon l:=by
 unfold Zcd Zc1 at h
 simp only[Bool.and_eq_true,decide_eq_true_eq,List.all_eq_true] at h
 exact⟨h.1.2,h.1.1,h.2⟩
theorem Z3 {l:List UInt8} (h:ZI l=true):Canon l∧l.length≤600:=by
 unfold ZI at h
 simp only[Bool.and_eq_true,decide_eq_true_eq] at h
 exact⟨Zgy h.1,h.2⟩
theorem Zct {l:List UInt8} (h:Canon l) (hl:l.length≤600):ZI l=true:=by
 unfold ZI Zcd Zc1
 simp only[Bool.and_eq_true,decide_eq_true_eq,List.all_eq_true]
 exact⟨⟨⟨h.ne,h.dig⟩,h.head⟩,hl⟩
end Go.Proofs.YtmpaflidennnoaaGreatDoor
namespace Go.Proofs.YtmpaflidennnoaaGreatDoor
open Go.Lib
def numD (q:Rat):List UInt8:=decDigits q.num.toNat
def denD (q:Rat):List UInt8:=decDigits q.den
def Fits (q:Rat):Prop:=(numD q).length≤600∧(denD q).length≤600
def str (l:List UInt8):ByteArray:=⟨l.toArray⟩
theorem Za9 (l:List UInt8):(str l).data.toList=l:=by simp[str]
theorem ZaN (s:ByteArray):str s.data.toList=s:=by simp[str]
theorem ZjN {l m:List UInt8} (h:str l=str m):l=m:=by rw[← Za9 l,h,Za9]
theorem Zao (l:List UInt8):(str l).size=l.length:=by rw[← Zl,Za9]
structure IsP (q:Rat) (s t:ByteArray):Prop where
 nn:0≤q
 num:s=str (numD q)
 den:t=str (denD q)
 fits:Fits q
def okP (s t:ByteArray):Bool:=
 ZI s.data.toList && ZI t.data.toList && decide (0<Zd t.data.toList) && decide (Nat.gcd (Zd s.data.toList) (Zd t.data.toList)=1)
def ratP (s t:ByteArray):Rat:=mkRat (Zd s.data.toList:Nat) (Zd t.data.toList)
theorem Zhz {n d:Nat} (hd:0<d) (hg:Nat.gcd n d=1):(mkRat (n:Nat) d).num=(n:Nat)∧(mkRat (n:Nat) d).den=d:=by
 have e:=Rat.mk_eq_mkRat (n:Nat) d (by omega) (by simpa[Nat.Coprime] using hg)
 rw[← e]
 exact⟨rfl,rfl⟩
theorem ZbE (n d:Nat):0≤mkRat (n:Nat) d:=by
 rw[Rat.mkRat_eq_div]
 rcases Nat.eq_zero_or_pos d with h | h
 ·subst h
  have:((n:Nat):Int)/((0:Nat):Rat)=(0:Rat):=by rw[Rat.div_def];simp
  grind
 ·have h1:(0:Rat)<(d:Nat):=Rat.natCast_pos.2 h
  have h2:(0:Rat)≤((n:Nat):Int):=Rat.intCast_nonneg.2 (by omega)
  rw[Rat.div_def]
  exact Rat.mul_nonneg h2 (Rat.le_of_lt (Rat.inv_pos.2 h1))
theorem Zc2 {s t:ByteArray} : okP s t=true↔ZI s.data.toList=true∧ZI t.data.toList=true∧0<Zd t.data.toList∧Nat.gcd (Zd s.data.toList) (Zd t.data.toList)=1:=by
 unfold okP
 simp only[Bool.and_eq_true,decide_eq_true_eq]
 exact⟨fun⟨⟨⟨a,b⟩,c⟩,d⟩=>⟨a,b,c,d⟩,fun⟨a,b,c,d⟩=>⟨⟨⟨a,b⟩,c⟩,d⟩⟩
theorem Zak {s t:ByteArray} (h:okP s t=true):IsP (ratP s t) s t:=by
 obtain⟨h1,h2,h3,h4⟩:=Zc2.1 h
 obtain⟨e1,e2⟩:=Zhz h3 h4
 obtain⟨c1,l1⟩:=Z3 h1
 obtain⟨c2,l2⟩:=Z3 h2
 have n1:numD (ratP s t)=s.data.toList:=by
  unfold numD ratP
  rw[e1,Int.toNat_natCast,c1.text]
 have n2:denD (ratP s t)=t.data.toList:=by
  unfold denD ratP
  rw[e2,c2.text]
 exact⟨ZbE _ _,by rw[n1,ZaN],by rw[n2,ZaN],by rw[n1];exact l1,by rw[n2];exact l2⟩
theorem ZX {q:Rat} (h:0≤q):((q.num.toNat:Nat):Int)=q.num:=Int.toNat_of_nonneg (Rat.num_nonneg.2 h)
theorem IsP.vals {q:Rat} {s t:ByteArray} (h:IsP q s t):Zd s.data.toList=q.num.toNat∧Zd t.data.toList=q.den:=by
 rw[h.num,h.den,Za9,Za9]
 exact⟨Zap _,Zap _⟩
theorem IsP.ok {q:Rat} {s t:ByteArray} (h:IsP q s t):okP s t=true:=by
 obtain⟨e1,e2⟩:=h.vals
 refine Zc2.2 ⟨?_,?_,?_,?_⟩
 ·rw[h.num,Za9];exact Zct (Zco _) h.fits.1
 ·rw[h.den,Za9];exact Zct (Zco _) h.fits.2
 ·rw[e2];exact q.den_pos
 ·rw[e1,e2]
  have h1:Nat.gcd q.num.natAbs q.den=1:=q.reduced
  have h2:=ZX h.nn
  have h3:q.num.natAbs=q.num.toNat:=by omega
  rwa [h3] at h1
theorem IsP.rat {q:Rat} {s t:ByteArray} (h:IsP q s t):ratP s t=q:=by
 obtain⟨e1,e2⟩:=h.vals
 unfold ratP
 rw[e1,e2,ZX h.nn,Rat.mkRat_self]
theorem ZmE {a b:Rat} (ha:0≤a) (hb:0≤b) (h1:numD a=numD b) (h2:denD a=denD b):a=b:=by
 have e1:=ZcO h1
 have e2:=ZcO h2
 refine Rat.ext ?_ e2
 rw[← ZX ha,← ZX hb,e1]
theorem IsP.inj {a b:Rat} {s t u v:ByteArray} (ha:IsP a s t) (hb:IsP b u v) (h1:s=u) (h2:t=v):a=b:=by
 refine ZmE ha.nn hb.nn (ZjN ?_) (ZjN ?_)
 ·rw[← ha.num,← hb.num,h1]
 ·rw[← ha.den,← hb.den,h2]
theorem IsP.same {a b:Rat} {s t u v:ByteArray} (ha:IsP a s t) (hb:IsP b u v) (h:a=b):s=u∧t=v:=by
 subst h
 exact⟨ha.num.trans hb.num.symm,ha.den.trans hb.den.symm⟩
def Ans (q:Rat) (s t:ByteArray) (e:Int):Prop:=(IsP q s t∧e=0)∨(¬ Fits q∧s=str []∧t=str []∧e=4)
theorem Ans.fit {q:Rat} {s t:ByteArray} {e:Int} (h:Ans q s t e) (hf:Fits q):IsP q s t∧e=0:=by
 rcases h with h | h
 ·exact h
 ·exact absurd hf h.1
theorem Ans.zero {q:Rat} {s t:ByteArray} {e:Int} (h:Ans q s t e) (he:e=0):IsP q s t:=by
 rcases h with h | h
 ·exact h.1
 ·have:=h.2.2.2;omega
theorem Ans.det {q:Rat} {s t u v:ByteArray} {e f:Int} (h:Ans q s t e) (k:Ans q u v f):s=u∧t=v∧e=f:=by
 rcases h with ⟨h,rfl⟩ | ⟨h1,h2,h3,rfl⟩
 ·rcases k with ⟨k,rfl⟩ | ⟨k1,_⟩
  ·exact⟨(h.same k rfl).1,(h.same k rfl).2,rfl⟩
  ·exact absurd h.fits k1
 ·rcases k with ⟨k,rfl⟩ | ⟨k1,k2,k3,rfl⟩
  ·exact absurd k.fits h1
  ·exact⟨h2.trans k2.symm,h3.trans k3.symm,rfl⟩
theorem Zde (n:Nat) {d:Nat} (hd:0<d):numD (mkRat (n:Nat) d)=decDigits (n/Nat.gcd n d)∧denD (mkRat (n:Nat) d)=decDigits (d/Nat.gcd n d):=by
 have h0:d≠0:=by omega
 unfold numD denD
 rw[Rat.num_mkRat,Rat.den_mkRat,if_neg h0,if_neg h0,Int.natAbs_natCast,Nat.gcd_comm d n]
 refine⟨?_,rfl⟩
 congr 1
theorem ZjX {n d k:Nat} (hd:0<d) (hn:n<10 ^ k) (hd':d<10 ^ k) (hk0:0<k) (hk:k≤600):Fits (mkRat (n:Nat) d):=by
 obtain⟨e1,e2⟩:=Zde n hd
 unfold Fits
 rw[e1,e2]
 exact⟨Nat.le_trans (ZO hk0 (Nat.lt_of_le_of_lt (Nat.div_le_self _ _) hn)) hk,Nat.le_trans (ZO hk0 (Nat.lt_of_le_of_lt (Nat.div_le_self _ _) hd')) hk⟩
theorem IsP.lt {q:Rat} {s t:ByteArray} (h:IsP q s t):q.num.toNat<10 ^ s.size∧q.den<10 ^ t.size:=by
 rw[h.num,h.den,Zao,Zao]
 exact⟨Zek _,Zek _⟩
theorem Zk3 {a b:Rat} (ha:0≤a) (hb:0≤b):a+b=mkRat ((a.num.toNat*b.den+b.num.toNat*a.den:Nat):Int) (a.den*b.den):=by
 rw[Rat.add_def']
 congr 1
 rw[← ZX ha,← ZX hb]
 simp
theorem Zk6 {a b:Rat} (ha:0≤a) (hb:0≤b):a*b=mkRat ((a.num.toNat*b.num.toNat:Nat):Int) (a.den*b.den):=by
 rw[Rat.mul_def']
 congr 1
 rw[← ZX ha,← ZX hb]
 simp
theorem ZeT {a b:Rat} (ha:0≤a) (hb:0≤b):a≤b↔a.num.toNat*b.den≤b.num.toNat*a.den:=by
 rw[Rat.le_iff,← ZX ha,← ZX hb]
 simp only[Int.toNat_natCast]
 exact⟨fun h=>by exact_mod_cast h,fun h=>by exact_mod_cast h⟩
theorem ZiK {a b:Rat} (ha:0≤a) (hb:0≤b):a<b↔a.num.toNat*b.den<b.num.toNat*a.den:=by
 rw[← Rat.not_le,ZeT hb ha];omega
theorem Zlx {a b:Rat} (ha:0≤a) (hb:0≤b):a=b↔a.num.toNat*b.den=b.num.toNat*a.den:=by
 constructor
 ·rintro rfl;rfl
 ·intro h
  exact Rat.le_antisymm ((ZeT ha hb).2 (by omega)) ((ZeT hb ha).2 (by omega))
theorem ZlX {a b:Rat} (ha:0≤a) (hb:0≤b) (h:b≤a):a-b=mkRat ((a.num.toNat*b.den-b.num.toNat*a.den:Nat):Int) (a.den*b.den):=by
 have h1:=(ZeT hb ha).1 h
 rw[Rat.sub_def']
 congr 1
 rw[← ZX ha,← ZX hb]
 simp only[Int.toNat_natCast]
 rw[Int.ofNat_sub h1]
 simp
theorem Zlp {a b:Rat} (ha:0≤a) (hb:0<b):a/b=mkRat ((a.num.toNat*b.den:Nat):Int) (a.den*b.num.toNat):=by
 have hb':=Rat.le_of_lt hb
 have h0:0<b.num.toNat:=by
  rcases Nat.eq_zero_or_pos b.num.toNat with h | h
  ·exfalso
   have h2:=ZX hb'
   rw[h] at h2
   have h3:=Rat.num_eq_zero.1 h2.symm
   rw[h3] at hb
   exact absurd hb (by decide)
  ·exact h
 have hA:a=mkRat ((a.num.toNat:Nat):Int) a.den:=by rw[ZX ha,Rat.mkRat_self]
 have hB:b=mkRat ((b.num.toNat:Nat):Int) b.den:=by rw[ZX hb',Rat.mkRat_self]
 generalize a.num.toNat=n at *
 generalize b.num.toNat=m at *
 have hda:=a.den_pos
 have hdb:=b.den_pos
 generalize a.den=d at *
 generalize b.den=f at *
 subst hA;subst hB
 rw[Rat.mkRat_eq_div,Rat.mkRat_eq_div,Rat.mkRat_eq_div]
 have h1:(0:Rat)<(d:Nat):=Rat.natCast_pos.2 hda
 have h2:(0:Rat)<(f:Nat):=Rat.natCast_pos.2 hdb
 have h3:(0:Rat)<(m:Nat):=Rat.natCast_pos.2 h0
 simp only[Rat.intCast_natCast,Rat.natCast_mul]
 generalize ((d:Nat):Rat)=x at *
 generalize ((f:Nat):Rat)=y at *
 generalize ((m:Nat):Rat)=z at *
 generalize ((n:Nat):Rat)=u at *
 have hx:x≠0:=by grind
 have hy:y≠0:=by grind
 have hz:z≠0:=by grind
 grind
end Go.Proofs.YtmpaflidennnoaaGreatDoor
namespace Go.Proofs.YtmpaflidennnoaaGreatDoor
open Go.Lib
def Sz (k:Nat) (q:Rat):Prop:=q.num.toNat<10 ^ k∧q.den<10 ^ k
theorem Zks (n:Nat) {d:Nat} (hd:0<d):(mkRat (n:Nat) d).num.toNat=n/Nat.gcd n d∧(mkRat (n:Nat) d).den=d/Nat.gcd n d:=by
 have h0:d≠0:=by omega
 rw[Rat.num_mkRat,Rat.den_mkRat,if_neg h0,if_neg h0,Int.natAbs_natCast,Nat.gcd_comm d n]
 exact⟨rfl,rfl⟩
theorem Sz.mk {n d k:Nat} (hd:0<d) (h1:n<10 ^ k) (h2:d<10 ^ k):Sz k (mkRat (n:Nat) d):=by
 obtain⟨e1,e2⟩:=Zks n hd
 unfold Sz
 rw[e1,e2]
 exact⟨Nat.lt_of_le_of_lt (Nat.div_le_self _ _) h1,Nat.lt_of_le_of_lt (Nat.div_le_self _ _) h2⟩
theorem Sz.mono {k l:Nat} {q:Rat} (h:Sz k q) (hl:k≤l):Sz l q:=by
 have:=Nat.pow_le_pow_right (n:=10) (by omega) hl
 exact⟨Nat.lt_of_lt_of_le h.1 this,Nat.lt_of_lt_of_le h.2 this⟩
theorem Sz.fits {k:Nat} {q:Rat} (h:Sz k q) (h0:0<k) (hk:k≤600):Fits q:=
 ⟨Nat.le_trans (ZO h0 h.1) hk,Nat.le_trans (ZO h0 h.2) hk⟩
theorem IsP.sz {q:Rat} {s t:ByteArray} {k:Nat} (h:IsP q s t) (h1:s.size≤k) (h2:t.size≤k):Sz k q:=by
 have h3:=h.lt
 exact⟨Nat.lt_of_lt_of_le h3.1 (Nat.pow_le_pow_right (by omega) h1),Nat.lt_of_lt_of_le h3.2 (Nat.pow_le_pow_right (by omega) h2)⟩
theorem ZaO {a b k l:Nat} (h1:a<10 ^ k) (h2:b<10 ^ l):a*b<10 ^ (k+l):=by
 rw[Nat.pow_add]
 exact Nat.mul_lt_mul'' h1 h2
theorem Sz.mul {k l:Nat} {a b:Rat} (ha:0≤a) (hb:0≤b) (h1:Sz k a) (h2:Sz l b):Sz (k+l) (a*b):=by
 rw[Zk6 ha hb]
 exact Sz.mk (Nat.mul_pos a.den_pos b.den_pos) (ZaO h1.1 h2.1) (ZaO h1.2 h2.2)
theorem Sz.add {k l:Nat} {a b:Rat} (ha:0≤a) (hb:0≤b) (h1:Sz k a) (h2:Sz l b):Sz (k+l+1) (a+b):=by
 rw[Zk3 ha hb]
 have e1:=ZaO h1.1 h2.2
 have e2:=ZaO h2.1 h1.2
 have e3:=ZaO h1.2 h2.2
 have e4:(10:Nat) ^ (k+l+1)=10 ^ (k+l)*10:=Nat.pow_succ ..
 have e5:(10:Nat) ^ (l+k)=10 ^ (k+l):=by rw[Nat.add_comm]
 exact Sz.mk (Nat.mul_pos a.den_pos b.den_pos) (by omega) (by omega)
theorem Sz.sub {k l:Nat} {a b:Rat} (ha:0≤a) (hb:0≤b) (h:b≤a) (h1:Sz k a) (h2:Sz l b):Sz (k+l) (a-b):=by
 rw[ZlX ha hb h]
 have e1:=ZaO h1.1 h2.2
 have e3:=ZaO h1.2 h2.2
 exact Sz.mk (Nat.mul_pos a.den_pos b.den_pos) (by omega) e3
theorem Znh {b:Rat} (hb:0<b):0<b.num.toNat:=by
 rcases Nat.eq_zero_or_pos b.num.toNat with h | h
 ·exfalso
  have h2:=ZX (Rat.le_of_lt hb)
  rw[h] at h2
  have h3:=Rat.num_eq_zero.1 h2.symm
  rw[h3] at hb
  exact absurd hb (by decide)
 ·exact h
theorem Sz.div {k l:Nat} {a b:Rat} (ha:0≤a) (hb:0<b) (h1:Sz k a) (h2:Sz l b):Sz (k+l) (a/b):=by
 rw[Zlp ha hb]
 exact Sz.mk (Nat.mul_pos a.den_pos (Znh hb)) (ZaO h1.1 h2.2) (ZaO h1.2 h2.1)
theorem Zd0 {a b:Rat} (ha:0≤a) (hb:0≤b):0≤a/b:=by
 rcases Rat.le_iff_lt_or_eq.1 hb with h | h
 ·rw[Rat.div_def];exact Rat.mul_nonneg ha (Rat.le_of_lt (Rat.inv_pos.2 h))
 ·rw[← h,Rat.div_def,Rat.inv_zero,Rat.mul_zero];exact Rat.le_refl
end Go.Proofs.YtmpaflidennnoaaGreatDoor
namespace Go.Proofs.YtmpaflidennnoaaGreatDoor
open Go.RowKit
def slp (C H:Nat→Rat) (i:Nat):Rat:=(H (i+1)-H i)/(C (i+1)-C i)
structure Conc (n:Nat) (C H:Nat→Rat):Prop where
 two:2≤n
 c0:C 0=0
 h0:H 0=0
 top:∀ i,i<n→H i≤1
 up:∀ i,i+1<n→C i<C (i+1)∧H i≤H (i+1)
 conc:∀ i,i+2<n→slp C H (i+1)≤slp C H i
def slo (n:Nat) (C H:Nat→Rat) (i:Nat):Rat:=if i+1<n then slp C H i else 0
def lin (n:Nat) (C H:Nat→Rat) (i:Nat) (q:Rat):Rat:=H i+slo n C H i*(q-C i)
def ZaQ (n:Nat) (C:Nat→Rat) (q:Rat) (i:Nat):Prop:=i<n∧(∀ j,j<i→C (j+1)≤q)∧(i+1<n→q<C (i+1))
theorem ZaQ.unique {n:Nat} {C:Nat→Rat} {q:Rat} {i k:Nat} (h:ZaQ n C q i) (g:ZaQ n C q k):i=k:=by
 obtain⟨h1,h2,h3⟩:=h
 obtain⟨g1,g2,g3⟩:=g
 rcases Nat.lt_trichotomy i k with hl | hl | hl
 ·have a:=h3 (by omega)
  have b:=g2 i hl
  grind
 ·exact hl
 ·have a:=g3 (by omega)
  have b:=h2 k hl
  grind
theorem Zm9 {C H:Nat→Rat} {i:Nat} (h:C i<C (i+1)):slp C H i*(C (i+1)-C i)=H (i+1)-H i:=by
 unfold slp
 have:C (i+1)-C i≠0:=by grind
 exact Rat.div_mul_cancel this
theorem Zly {C H:Nat→Rat} {i:Nat} (h:C i<C (i+1)) (h2:H i≤H (i+1)):0≤slp C H i:=Zd0 (by grind) (by grind)
theorem Conc.slo_nn {n:Nat} {C H:Nat→Rat} (h:Conc n C H) (i:Nat):0≤slo n C H i:=by
 unfold slo
 split
 ·rename_i hi
  exact Zly (h.up i hi).1 (h.up i hi).2
 ·exact Rat.le_refl
theorem Conc.slo_down {n:Nat} {C H:Nat→Rat} (h:Conc n C H) {i:Nat} (hi:i+1<n):slo n C H (i+1)≤slo n C H i:=by
 by_cases h2:i+2<n
 ·unfold slo
  rw[if_pos (by omega),if_pos hi]
  exact h.conc i h2
 ·have e:slo n C H (i+1)=0:=by unfold slo;rw[if_neg (by omega)]
  rw[e]
  exact h.slo_nn i
theorem Conc.meet {n:Nat} {C H:Nat→Rat} (h:Conc n C H) {i:Nat} (hi:i+1<n) (q:Rat):lin n C H i q=H (i+1)+slo n C H i*(q-C (i+1)):=by
 have e:slo n C H i=slp C H i:=by unfold slo;rw[if_pos hi]
 unfold lin
 rw[e]
 have:=Zm9 (C:=C) (H:=H) (h.up i hi).1
 grind
theorem ZhU {s t d:Rat} (h:s≤t) (hd:0≤d):s*d≤t*d:=Rat.mul_le_mul_of_nonneg_right h hd
theorem Conc.lin_up {n:Nat} {C H:Nat→Rat} (h:Conc n C H) {i:Nat} (hi:i+1<n) {q:Rat} (hq:q≤C (i+1)):lin n C H i q≤lin n C H (i+1) q:=by
 rw[h.meet hi]
 unfold lin
 have:=ZhU (h.slo_down hi) (d:=C (i+1)-q) (by grind)
 grind
theorem Conc.lin_down {n:Nat} {C H:Nat→Rat} (h:Conc n C H) {i:Nat} (hi:i+1<n) {q:Rat} (hq:C (i+1)≤q):lin n C H (i+1) q≤lin n C H i q:=by
 rw[h.meet hi]
 unfold lin
 have:=ZhU (h.slo_down hi) (d:=q-C (i+1)) (by grind)
 grind
theorem Conc.c_mono {n:Nat} {C H:Nat→Rat} (h:Conc n C H) {i:Nat} : ∀ d,i+d<n→C i≤C (i+d)
 | 0,_=>Rat.le_refl
 | d+1,hd=>Rat.le_trans (h.c_mono d (by omega)) (Rat.le_of_lt (h.up (i+d) (by omega)).1)
theorem Conc.h_mono {n:Nat} {C H:Nat→Rat} (h:Conc n C H) {i:Nat} : ∀ d,i+d<n→H i≤H (i+d)
 | 0,_=>Rat.le_refl
 | d+1,hd=>Rat.le_trans (h.h_mono d (by omega)) (h.up (i+d) (by omega)).2
theorem Conc.c_nn {n:Nat} {C H:Nat→Rat} (h:Conc n C H) {i:Nat} (hi:i<n):0≤C i:=by
 have:=h.c_mono (i:=0) i (by omega)
 rw[Nat.zero_add,h.c0] at this
 exact this
theorem Conc.h_nn {n:Nat} {C H:Nat→Rat} (h:Conc n C H) {i:Nat} (hi:i<n):0≤H i:=by
 have:=h.h_mono (i:=0) i (by omega)
 rw[Nat.zero_add,h.h0] at this
 exact this
theorem Conc.least {n:Nat} {C H:Nat→Rat} (h:Conc n C H) {q:Rat} {k:Nat} (hk:ZaQ n C q k) {i:Nat} (hi:i<n):lin n C H k q≤lin n C H i q:=by
 obtain⟨h1,h2,h3⟩:=hk
 by_cases hl:k≤i
 ·have up:∀ d,k+d<n→lin n C H k q≤lin n C H (k+d) q:=fun d=>by
   induction d with
   | zero=>intro _;exact Rat.le_refl
   | succ d ih=>
    intro hd
    have a:=h3 (by omega)
    have b:=h.c_mono (i:=k+1) d (by omega)
    have e:k+1+d=k+d+1:=by omega
    rw[e] at b
    exact Rat.le_trans (ih (by omega)) (h.lin_up (i:=k+d) hd (by grind))
  have:=up (i-k) (by omega)
  rwa [Nat.add_sub_cancel' hl] at this
 ·have down:∀ d,i+d≤k→lin n C H (i+d) q≤lin n C H i q:=fun d=>by
   induction d with
   | zero=>intro _;exact Rat.le_refl
   | succ d ih=>
    intro hd
    exact Rat.le_trans (h.lin_down (i:=i+d) (by omega) (h2 (i+d) (by omega))) (ih (by omega))
  have:=down (k-i) (by omega)
  rwa [Nat.add_sub_cancel' (by omega)] at this
theorem ZaQ.low {n:Nat} {C H:Nat→Rat} {q:Rat} {k:Nat} (h:Conc n C H) (hk:ZaQ n C q k) (hq:0≤q):C k≤q:=by
 match k,hk with
 | 0,_=>rw[h.c0];exact hq
 | k+1,hk=>exact hk.2.1 k (by omega)
theorem ZaQ.exists {n:Nat} {C:Nat→Rat} (q:Rat):∀ m,m<n→∃ k,ZaQ (m+1) C q k
 | 0,_=>⟨0,by omega,fun j h=>by omega,fun h=>by omega⟩
 | m+1,hm=>by
  obtain⟨k,h1,h2,h3⟩:=ZaQ.exists (n:=n) (C:=C) q m (by omega)
  by_cases hk:k+1<m+1
  ·exact⟨k,by omega,h2,fun _=>h3 hk⟩
  ·obtain rfl:k=m:=by omega
   by_cases hq:q<C (k+1)
   ·exact⟨k,by omega,h2,fun _=>hq⟩
   ·refine⟨k+1,by omega,fun j hj=>?_,fun h=>by omega⟩
    by_cases hj2:j=k
    ·subst hj2;grind
    ·exact h2 j (by omega)
def ZD (n:Nat) (C H:Nat→Rat) (q r:Rat):Prop:=∃ k,ZaQ n C q k∧r=lin n C H k q
def ZdJ (n:Nat) (C H:Nat→Rat) (q r:Rat):Prop:=∃ k,ZaQ n C q k∧r=slo n C H k
theorem ZD.unique {n:Nat} {C H:Nat→Rat} {q r s:Rat} (h:ZD n C H q r) (g:ZD n C H q s):r=s:=by
 obtain⟨k,h1,h2⟩:=h
 obtain⟨m,g1,g2⟩:=g
 obtain rfl:=h1.unique g1
 rw[h2,g2]
theorem ZD.le {n:Nat} {C H:Nat→Rat} {q r:Rat} (h:Conc n C H) (hr:ZD n C H q r) {i:Nat} (hi:i<n):r≤lin n C H i q:=by
 obtain⟨k,hk,rfl⟩:=hr
 exact h.least hk hi
theorem ZD.top {n:Nat} {C H:Nat→Rat} {q r:Rat} (h:Conc n C H) (hr:ZD n C H q r):r≤1:=by
 have h2:=h.two
 have h1:=hr.le h (i:=n-1) (by omega)
 have e:slo n C H (n-1)=0:=by unfold slo;rw[if_neg (by omega)]
 unfold lin at h1
 rw[e] at h1
 have:=h.top (n-1) (by omega)
 grind
theorem ZD.nn {n:Nat} {C H:Nat→Rat} {q r:Rat} (h:Conc n C H) (hq:0≤q) (hr:ZD n C H q r):0≤r:=by
 obtain⟨k,hk,rfl⟩:=hr
 have h1:=hk.low h hq
 have h2:=h.h_nn hk.1
 have h3:=Rat.mul_nonneg (h.slo_nn k) (b:=q-C k) (by grind)
 unfold lin
 grind
theorem ZD.mono {n:Nat} {C H:Nat→Rat} {a b x y:Rat} (h:Conc n C H) (hab:a≤b) (hx:ZD n C H a x) (hy:ZD n C H b y):x≤y:=by
 obtain⟨k,hk,rfl⟩:=hy
 have h1:=hx.le h hk.1
 have h3:=Rat.mul_nonneg (h.slo_nn k) (b:=b-a) (by grind)
 unfold lin at h1 ⊢
 grind
theorem ZD.most {n:Nat} {C H:Nat→Rat} {a b x y s:Rat} (h:Conc n C H) (hx:ZD n C H a x) (hs:ZdJ n C H a s) (hy:ZD n C H b y):y-x≤s*(b-a):=by
 obtain⟨k,hk,rfl⟩:=hx
 obtain⟨m,hm,rfl⟩:=hs
 obtain rfl:=hk.unique hm
 have h1:=hy.le h hk.1
 unfold lin at h1 ⊢
 grind
theorem ZD.least {n:Nat} {C H:Nat→Rat} {a b x y t:Rat} (h:Conc n C H) (hx:ZD n C H a x) (hy:ZD n C H b y) (ht:ZdJ n C H b t):t*(b-a)≤y-x:=by
 obtain⟨k,hk,rfl⟩:=hy
 obtain⟨m,hm,rfl⟩:=ht
 obtain rfl:=hk.unique hm
 have h1:=hx.le h hk.1
 unfold lin at h1 ⊢
 grind
def Zdq (n:Nat) (C H:Nat→Rat) (p c:Rat):Prop:=(p=0∧c=0)∨∃ i,i+1<n∧H i<p∧p≤H (i+1)∧c=C i+(C (i+1)-C i)/(H (i+1)-H i)*(p-H i)
theorem ZjF {C H:Nat→Rat} {p c:Rat} {i:Nat} (hc:C i<C (i+1)) (h1:H i<p) (h2:p≤H (i+1)) (h3:c=C i+(C (i+1)-C i)/(H (i+1)-H i)*(p-H i)):p=H i+slp C H i*(c-C i)∧C i<c∧c≤C (i+1)∧0<slp C H i:=by
 have hd:0<H (i+1)-H i:=by grind
 have hc':0<C (i+1)-C i:=by grind
 have hs:0<slp C H i:=by
  unfold slp
  rw[Rat.div_def]
  exact Rat.mul_pos hd (Rat.inv_pos.2 hc')
 have e0:(C (i+1)-C i)/(H (i+1)-H i)*slp C H i=1:=by
  unfold slp
  grind
 have ht:0<(C (i+1)-C i)/(H (i+1)-H i):=by
  rw[Rat.div_def]
  exact Rat.mul_pos hc' (Rat.inv_pos.2 hd)
 have h4:=Rat.mul_pos ht (b:=p-H i) (by grind)
 have h5:(C (i+1)-C i)/(H (i+1)-H i)*(H (i+1)-H i)=C (i+1)-C i:=Rat.div_mul_cancel (by grind)
 have h6:=Rat.mul_le_mul_of_nonneg_left (a:=p-H i) (b:=H (i+1)-H i) (c:=(C (i+1)-C i)/(H (i+1)-H i)) (by grind) (Rat.le_of_lt ht)
 refine⟨?_,by grind,by grind,hs⟩
 have:c-C i=(C (i+1)-C i)/(H (i+1)-H i)*(p-H i):=by grind
 rw[this]
 grind
theorem Zdq.chance {n:Nat} {C H:Nat→Rat} {p c x:Rat} (h:Conc n C H) (hn:Zdq n C H p c) (hx:ZD n C H c x):x=p:=by
 rcases hn with ⟨rfl,rfl⟩ | ⟨i,hi,h1,h2,h3⟩
 ·have h2:=h.two
  have hp:ZaQ n C 0 0:=⟨by omega,fun j hj=>by omega,fun h1=>by have:=(h.up 0 h1).1;rw[h.c0] at this;exact this⟩
  have e:lin n C H 0 0=0:=by unfold lin;rw[h.c0,h.h0];grind
  exact hx.unique ⟨0,hp,e.symm⟩
 ·obtain⟨e1,e2,e3,e4⟩:=ZjF (h.up i hi).1 h1 h2 h3
  have es:slo n C H i=slp C H i:=by unfold slo;rw[if_pos hi]
  have el:lin n C H i c=p:=by unfold lin;rw[es];exact e1.symm
  have below:∀ j,j<i→C (j+1)≤c:=fun j hj=>by
   have:=h.c_mono (i:=j+1) (i-(j+1)) (by omega)
   have e:j+1+(i-(j+1))=i:=by omega
   rw[e] at this
   grind
  by_cases hl:c<C (i+1)
  ·exact hx.unique ⟨i,⟨by omega,below,fun _=>hl⟩,el.symm⟩
  ·have ec:c=C (i+1):=by grind
   refine hx.unique ⟨i+1,⟨hi,fun j hj=>?_,fun h4=>by rw[ec];exact(h.up (i+1) h4).1⟩,?_⟩
   ·by_cases hj2:j=i
    ·subst hj2;rw[ec];exact Rat.le_refl
    ·exact below j (by omega)
   ·rw[← el,h.meet hi,ec]
    unfold lin
    grind
theorem Zdq.less {n:Nat} {C H:Nat→Rat} {p c d y:Rat} (h:Conc n C H) (hn:Zdq n C H p c) (hd:d<c) (hc:c≠0) (hy:ZD n C H d y):y<p:=by
 rcases hn with ⟨rfl,rfl⟩ | ⟨i,hi,h1,h2,h3⟩
 ·exact absurd rfl hc
 ·obtain⟨e1,e2,e3,e4⟩:=ZjF (h.up i hi).1 h1 h2 h3
  have es:slo n C H i=slp C H i:=by unfold slo;rw[if_pos hi]
  have h5:=hy.le h (i:=i) (by omega)
  unfold lin at h5
  rw[es] at h5
  have:=Rat.mul_pos e4 (b:=c-d) (by grind)
  grind
def lenV:Value→Nat
 | .slice _ n _=>n
 | _=>0
theorem ZcP {B:Nat} {l:List Nat} {k:Nat} (hk:k<l.length) (h:l[k]=0):val B (l.take (k+1))=val B (l.take k):=by
 rw[Zb5 B l k hk,h];simp
theorem ZdZ {B:Nat} (hB:1<B) {l:List Nat} (hl:∀ x ∈ l,x<B) {k:Nat} (hk:k<l.length) (h:l[k]≠0):Zb B (val B (l.take (k+1)))=l.take (k+1):=by
 refine ZeC hB (fun x hx=>hl x (List.mem_of_mem_take hx)) ?_
 rw[List.take_succ_eq_append_getElem hk,List.getLast?_append]
 simpa using h
theorem ZaW {B:Nat} (hB:1<B):∀ {l:List Nat},(∀ x ∈ l,x<B)→Zb B (val B l)=l.take (Zb B (val B l)).length:=by
 intro l hl
 induction h:l.length generalizing l with
 | zero=>
  have:l=[]:=List.eq_nil_of_length_eq_zero h
  subst this;simp[val,ZA]
 | succ n ih=>
  have hn:n<l.length:=by omega
  by_cases hz:l[n]=0
  ·have h1:val B l=val B (l.take n):=by
    rw[← ZcP hn hz,List.take_of_length_le (by omega)]
   have h2:=ih (l:=l.take n) (fun x hx=>hl x (List.mem_of_mem_take hx)) (by rw[List.length_take];omega)
   rw[h1]
   rw[List.take_take] at h2
   have h3:(Zb B (val B (l.take n))).length≤n:=by
    have:=congrArg List.length h2
    rw[List.length_take] at this
    omega
   rw[Nat.min_eq_left h3] at h2
   exact h2
  ·have h1:=ZdZ hB hl hn hz
   rw[List.take_of_length_le (by omega)] at h1
   rw[h1,List.take_of_length_le ZnW]
theorem Zcq {B:Nat} (hB:1<B) {l:List Nat} (hl:∀ x ∈ l,x<B):(Zb B (val B l)).length≤l.length:=by
 have:=congrArg List.length (ZaW hB hl)
 rw[List.length_take] at this
 omega
theorem ZcT (p:Option Addr) (cap:Nat) (xs:List Nat) (w:World) (hlc:xs.length≤cap) (hcap:cap≤maxLen) (hlt:∀ x ∈ xs,x<1000000000)
  (hp:xs≠[]→∃ b off,p=some ⟨b,off,none⟩∧At .u64 w b off xs) :
  Calls Tryz.prog 126 #[.slice p xs.length cap] w fun e w'=>
   w=w'∧e=.returned (.slice p (Zb 1000000000 (val 1000000000 xs)).length cap):=by
 unfold maxLen at hcap
 have HP:=ZnV hp
 clear hp
 go_enter Tryz.func126,Tryz.ntmps126
 go_wp2
 go_loop [0] (fun v=>∃ k:Nat,k≤xs.length∧v=.slice p k cap∧Hid (val 1000000000 xs=val 1000000000 (xs.take k))) (fun v=>lenV v)
 case atStart=>exact⟨xs.length,Nat.le_refl _,rfl,by rw[List.take_of_length_le ZnW];rfl⟩
 case round=>
  obtain⟨k,hk,rfl,HV⟩:=hrel
  rcases Nat.eq_zero_or_pos k with h0 | h0
  ·subst h0
   go_wp2
   go_ret
   exact⟨rfl,by rw[HV.out];simp[val,ZA]⟩
  ·obtain⟨j,rfl⟩:∃ j,k=j+1:=⟨k-1,by omega⟩
   have hj:j<xs.length:=by omega
   obtain⟨b,off,rfl,hc⟩:=HP.out (List.ne_nil_of_length_pos (by omega))
   have hcj:w.cell? ⟨b,off+j,none⟩=some (.int .u64 (xs[j]:Nat)):=hc j hj
   clear hc
   by_cases hz:xs[j]=0
   ·have hz':((xs[j]:Nat):Int)=0:=by rw[hz];rfl
    rw[hz'] at hcj
    have HZ:=ZnV hz
    clear hz hz'
    go_wp2
    go_round
    case rel=>exact⟨j,by omega,by simp,by rw[HV.out,ZcP hj HZ.out];rfl⟩
    case measure=>simp[lenV]
   ·have hz':(((xs[j]:Nat):Int)==0)=false:=by simpa using hz
    have HZ:=ZnV hz
    clear hz
    go_wp2
    go_ret
    exact⟨rfl,by rw[HV.out,ZdZ (by omega) hlt hj HZ.out];simp;omega⟩
theorem Zb8 {E:TypeId} {B g cap:Nat} {xs:List Nat} {w:World} (h:Row .u64 E w B g cap xs) (hlt:∀ x ∈ xs,x<1000000000) (n:Nat) (hn:n=xs.length) (m:Nat) (hm:val 1000000000 xs=m) :
  Calls Tryz.prog 126 #[.slice (some ⟨g,0,none⟩) n cap] w fun e w'=>
   w=w'∧e=.returned (.slice (some ⟨g,0,none⟩) (Zb 1000000000 m).length cap)∧Row .u64 E w' B g cap (Zb 1000000000 m):=by
 subst hn;subst hm
 refine(ZcT (some ⟨g,0,none⟩) cap xs w h.cap_le.1 h.cap_le.2 hlt (fun _=>⟨g,0,rfl,h.at⟩)).mono ?_
 rintro e w' ⟨rfl,rfl⟩
 refine⟨rfl,rfl,?_⟩
 have:=h.take (Zb 1000000000 (val 1000000000 xs)).length
 rwa [← ZaW (by omega) hlt] at this
def Num (w:World) (v:Value) (n:Nat):Prop:=Nums .u64 w v (Zb 1000000000 n)
def ZcC (B:Nat) (w:World) (v:Value) (n:Nat):Prop:=∃ g cap,v=.slice (some ⟨g,0,none⟩) (Zb 1000000000 n).length cap∧Row .u64 158 w B g cap (Zb 1000000000 n)
theorem ZcC.num {B:Nat} {w:World} {v:Value} {n:Nat} (h:ZcC B w v n):Num w v n:=by
 obtain⟨g,cap,rfl,hr⟩:=h
 exact hr.nums
theorem Zg5 (p1 p2 q1 q2:Option Addr) (c1 c2 d1 d2:Nat) (xs ys:List Nat) (l1 l2:Nat) (w:World)
  (hsw:(l1=xs.length∧l2=ys.length∧q1=p1∧q2=p2∧d1=c1∧d2=c2)∨(l2=xs.length∧l1=ys.length∧l1<l2∧q2=p1∧q1=p2∧d2=c1∧d1=c2))
  (hle:ys.length≤xs.length) (hx:∀ x ∈ xs,x<1000000000) (hy:∀ x ∈ ys,x<1000000000) (hl:xs.length≤1000000)
  (hp1:xs≠[]→∃ b off,p1=some ⟨b,off,none⟩∧b<w.heap.size∧At .u64 w b off xs) (hp2:ys≠[]→∃ b off,p2=some ⟨b,off,none⟩∧b<w.heap.size∧At .u64 w b off ys) :
  Calls Tryz.prog 100 #[.slice q1 l1 d1,.slice q2 l2 d2] w fun e w'=>
   ∃ v,e=.returned v∧ZcC w.heap.size w' v (val 1000000000 xs+val 1000000000 ys)∧Below w.heap.size w w':=by
 obtain⟨i0,hi,hz0,hz1,hz2⟩:=info_parts Zb6
 have HX:=ZnV hx
 have HY:=ZnV hy
 have HP1:=ZnV hp1
 have HP2:=ZnV hp2
 clear hx hy hp1 hp2
 have hs:(l1=xs.length∧l2=ys.length∧q1=p1∧q2=p2∧d1=c1∧d2=c2∧¬ l1<l2)∨(l2=xs.length∧l1=ys.length∧l1<l2∧q2=p1∧q1=p2∧d2=c1∧d1=c2):=by
  rcases hsw with ⟨h1,h2,h3⟩ | h
  ·exact .inl ⟨h1,h2,h3.1,h3.2.1,h3.2.2.1,h3.2.2.2,by omega⟩
  ·exact .inr h
 clear hsw
 rcases hs with ⟨rfl,rfl,rfl,rfl,rfl,rfl,hn⟩ | ⟨rfl,rfl,hn,rfl,rfl,rfl,rfl⟩
 all_goals
  go_enter Tryz.func100,Tryz.ntmps100
  go_wp2_with (at_make;refine wpList_make_own _ rfl _ _ 110 rfl w.heap.size 158 i0 (.int .u64 0) 1 Tryz.underlying110 hi hz0 hz1 _ _ _ (xs.length+1) rfl rfl (by omega) ?b2 ?b3 ZnW ?_)
  case b2=>rw[hz2];omega
  case b3=>unfold maxLen;omega
  intro w0 hown0 hgrow0
  have HB0:=ZnV ((Below.refl w.heap.size w).grown hgrow0 ZnW (fun k h=>by cases h))
  have HR0:=ZnV (Row.made (k:=.u64) hown0)
  clear hgrow0 hown0
  go_wp2
  go_loopw [5,6,22] (fun o c i wr=>∃ (k:Nat) (out:List Nat) (cr:Nat),k≤xs.length∧i=.int .i64 k∧o=.slice (some ⟨w.heap.size,0,none⟩) k (xs.length+1)∧c=.int .u64 cr∧
    Hid (Row .u64 158 wr w.heap.size w.heap.size (xs.length+1) out)∧Hid (PlusInv 1000000000 xs ys k out cr)∧Hid (Below w.heap.size w wr)) (fun _ _ i _=>xs.length-(intOf i).toNat)
  case atStart=>exact⟨0,[],0,Nat.zero_le _,rfl,rfl,rfl,HR0,PlusInv.start _ _ _,HB0⟩
  case round=>
   obtain⟨k,out,cr,hk,rfl,rfl,rfl,HR,HI,HB⟩:=hrel
   have hcr:cr≤1:=HI.out.carry
   by_cases hlt:k<xs.length
   ·obtain⟨b1,off1,rfl,hb1,ha1⟩:=HP1.out (List.ne_nil_of_length_pos (by omega))
    obtain⟨x,hx⟩:=ZnX (xs.getD k 0)
    have hxl:x<1000000000:=by rw[← hx];exact Zy (by omega) HX.out k
    have cx:wr.cell? ⟨b1,off1+k,none⟩=some (.int .u64 (x:Nat)):=(HB.out.cell (p:=⟨b1,off1+k,none⟩) hb1).trans (ha1.getD hlt hx)
    have Hx:=ZnV hx
    clear hx ha1
    by_cases hlt2:k<ys.length
    ·obtain⟨b2,off2,rfl,hb2,ha2⟩:=HP2.out (List.ne_nil_of_length_pos (by omega))
     obtain⟨y,hy⟩:=ZnX (ys.getD k 0)
     have hyl:y<1000000000:=by rw[← hy];exact Zy (by omega) HY.out k
     have cy:wr.cell? ⟨b2,off2+k,none⟩=some (.int .u64 (y:Nat)):=(HB.out.cell (p:=⟨b2,off2+k,none⟩) hb2).trans (ha2.getD hlt2 hy)
     have Hy:=ZnV hy
     clear hy ha2
     have e1:((x:Int)+cr+y) % 1000000000=((x+cr+y) % 1000000000:Nat):=by omega
     have e2:((x:Int)+cr+y)/1000000000=((x+cr+y)/1000000000:Nat):=by omega
     have E1:=ZnV e1
     have E2:=ZnV e2
     clear e1 e2
     have HS:Hid (PlusInv 1000000000 xs ys (k+1) (out++[(x+cr+y) % 1000000000]) ((x+cr+y)/1000000000)):=
      HI.out.step (by omega) HX.out HY.out (by rw[Hx.out,Hy.out])
     have hown:=HR.out.own HI.out.len
     go_wp2_with (at_builtin;refine wpList_append_fits _ rfl (.tmp 40) (.tmp 43) 110 rfl w.heap.size 158 i0 1 Tryz.underlying110 hi hz1 w.heap.size k (xs.length+1) _ rfl (hown.alloc _) ⟨wr.heap.size,0,none⟩ 1 1 [.int .u64 (((x:Int)+cr+y) % 1000000000)] rfl rfl (cell_one_new _ _ _) (by simp[Value.oneCell']) (by omega) ?_;intro w1 hown1 hgrow1)
     have HR1:=ZnV (Row.snoc HI.out.len.symm E1.out hown1)
     have HB1:=ZnV ((HB.out.alloc HB.out.size _).grown hgrow1 (by have:=HB.out.size;simp;omega) (fun k h=>by cases h;exact Nat.le_refl _))
     clear hown1 hgrow1
     go_roundw
     case rel=>exact⟨k+1,_,_,by omega,by go_num,rfl,by rw[E2.out],HR1,HS,HB1⟩
     case measure=>simp[intOf];omega
    ·have e1:((x:Int)+cr) % 1000000000=((x+cr) % 1000000000:Nat):=by omega
     have e2:((x:Int)+cr)/1000000000=((x+cr)/1000000000:Nat):=by omega
     have E1:=ZnV e1
     have E2:=ZnV e2
     clear e1 e2
     have HS:Hid (PlusInv 1000000000 xs ys (k+1) (out++[(x+cr) % 1000000000]) ((x+cr)/1000000000)):=
      HI.out.step (by omega) HX.out HY.out (by rw[Hx.out];simp[List.getD,hlt2])
     have hown:=HR.out.own HI.out.len
     go_wp2_with (at_builtin;refine wpList_append_fits _ rfl (.tmp 40) (.tmp 43) 110 rfl w.heap.size 158 i0 1 Tryz.underlying110 hi hz1 w.heap.size k (xs.length+1) _ rfl (hown.alloc _) ⟨wr.heap.size,0,none⟩ 1 1 [.int .u64 (((x:Int)+cr) % 1000000000)] rfl rfl (cell_one_new _ _ _) (by simp[Value.oneCell']) (by omega) ?_;intro w1 hown1 hgrow1)
     have HR1:=ZnV (Row.snoc HI.out.len.symm E1.out hown1)
     have HB1:=ZnV ((HB.out.alloc HB.out.size _).grown hgrow1 (by have:=HB.out.size;simp;omega) (fun k h=>by cases h;exact Nat.le_refl _))
     clear hown1 hgrow1
     go_roundw
     case rel=>exact⟨k+1,_,_,by omega,by go_num,rfl,by rw[E2.out],HR1,HS,HB1⟩
     case measure=>simp[intOf];omega
   ·obtain rfl:k=xs.length:=by omega
    have hown:=HR.out.own HI.out.len
    have HV:=ZnV (HI.out.done hle)
    have HL:Hid (∀ z ∈ out++[cr],z<1000000000):=Zbv HI.out.lt (by omega)
    have HN:=ZnV HI.out.len
    go_wp2_with (at_builtin;refine wpList_append_fits _ rfl (.tmp 48) (.tmp 50) 110 rfl w.heap.size 158 i0 1 Tryz.underlying110 hi hz1 w.heap.size xs.length (xs.length+1) _ rfl (hown.alloc _) ⟨wr.heap.size,0,none⟩ 1 1 [.int .u64 cr] rfl rfl (cell_one_new _ _ _) (by simp[Value.oneCell']) (by omega) ?_;intro w1 hown1 hgrow1)
    have hr1:=Row.snoc HN.out.symm rfl hown1
    have HB1:=ZnV ((HB.out.alloc HB.out.size _).grown hgrow1 (by have:=HB.out.size;simp;omega) (fun k h=>by cases h;exact Nat.le_refl _))
    clear hown1 hgrow1
    refine(Zb8 hr1 HL.out _ (by simp[HN.out]) _ HV.out).mono ?_
    rintro e w' ⟨rfl,rfl,hr2⟩
    have HR2:=ZnV hr2
    clear hr1 hr2
    go_wp2
    go_ret
    exact⟨_,rfl,⟨_,_,rfl,HR2.out⟩,HB1.out⟩
theorem ZmL {v1 v2:Value} {n m:Nat} {w:World} (h1:Num w v1 n) (h2:Num w v2 m) (hl1:(Zb 1000000000 n).length≤1000000) (hl2:(Zb 1000000000 m).length≤1000000) :
  Calls Tryz.prog 100 #[v1,v2] w fun e w'=>∃ v,e=.returned v∧ZcC w.heap.size w' v (n+m)∧Below w.heap.size w w':=by
 obtain⟨p1,c1,rfl,_,_,hp1⟩:=h1
 obtain⟨p2,c2,rfl,_,_,hp2⟩:=h2
 have e1:=Zn (B:=1000000000) (by omega) n
 have e2:=Zn (B:=1000000000) (by omega) m
 rcases Nat.lt_or_ge (Zb 1000000000 n).length (Zb 1000000000 m).length with h | h
 ·have:=Zg5 p2 p1 p1 p2 c2 c1 c1 c2 _ _ _ _ w (.inr ⟨rfl,rfl,h,rfl,rfl,rfl,rfl⟩) (Nat.le_of_lt h) (Zu (by omega) m) (Zu (by omega) n) hl2 hp2 hp1
  rw[e1,e2,Nat.add_comm m n] at this
  exact this
 ·have:=Zg5 p1 p2 p1 p2 c1 c2 c1 c2 _ _ _ _ w (.inl ⟨rfl,rfl,rfl,rfl,rfl,rfl⟩) h (Zu (by omega) n) (Zu (by omega) m) hl1 hp1 hp2
  rw[e1,e2] at this
  exact this
end Go.Proofs.YtmpaflidennnoaaGreatDoor
namespace Go.Proofs.YtmpaflidennnoaaGreatDoor
open Go.RowKit Go.Shelf
attribute [local go_sem] Oper.semAt_some
def bk (n k:Nat):Nat:=n-1-k
theorem At.keeps {k:IntKind} {S:Nat→Prop} {w w':World} {b off:Nat} {xs:List Nat} (h:At k w b off xs) (hb:Keeps S w w') (hs:S b):At k w' b off xs:=
 fun j hj=>hb.cellAt (p:=⟨b,off+j,none⟩) (h j hj) hs
theorem ZeD (Bs:Nat) (S:Nat→Prop) (p:Option Addr) (cap:Nat) (xs:List Nat) (hl:xs.length≤1000000) (w0:World) (hS:S Bs)
  (hBs:w0.cell? ⟨Bs,0,none⟩=some (.slice p xs.length cap)) (hp:xs≠[]→∃ b off,p=some ⟨b,off,none⟩∧S b∧At .u64 w0 b off xs) :
  Iter Tryz.prog 176 #[.pointer (some ⟨Bs,0,none⟩)] (fun k=>#[.int .i64 (bk xs.length k:Nat),.int .u64 (lim xs (bk xs.length k):Nat)]) xs.length S (fun _=>True) w0:=by
 intro n l J Jx W hK hJ hJx hY h0
 have HP:Hid (xs≠[]→∃ b off,p=some ⟨b,off,none⟩∧S b∧At .u64 W b off xs):=fun hne=>by
  obtain⟨b,off,h1,h2,h3⟩:=hp hne
  exact⟨b,off,h1,h2,h3.keeps hK h2⟩
 have hB1:W.cell? ⟨Bs,0,none⟩=some (.slice p xs.length cap):=hK.cellAt hBs hS
 have HY:=ZnV hY
 clear hp hY hBs
 refine callsIn_of_wp Tryz.func176 rfl trivial ?_ rfl
 simp only[Tryz.ntmps176,List.size_toArray,List.length_cons,List.length_nil,Nat.reduceAdd,Nat.reduceSub,Array.replicate_succ,Array.replicate_zero,List.push_toArray,List.append_toArray,List.nil_append,List.cons_append]
 gi_wp2
 gi_loopw [3] (fun iv wr=>∃ (i:Int) (k:Nat),iv=.int .i64 i∧Hid (i+k+1=xs.length)∧-1≤i∧i<xs.length∧J k wr∧Hid (Keeps S W wr))
  (fun iv _=>(intOf iv+1).toNat)
 case atStart=>exact⟨_,0,rfl,by show _=_;omega,by omega,by omega,h0,Keeps.refl _ _⟩
 case round=>
  obtain⟨i,k,rfl,HK,hi1,hi2,hJs,HN⟩:=hrel
  have hbs':wr.cell? ⟨Bs,0,none⟩=some (.slice p xs.length cap):=HN.out.cellAt hB1 hS
  clear hB1
  by_cases hge:0≤i
  ·obtain⟨j,rfl⟩:∃ j:Nat,i=(j:Int):=⟨i.toNat,by omega⟩
   have hjl:j<xs.length:=by omega
   obtain⟨b,off,rfl,hb,ha⟩:=HP.out (List.ne_nil_of_length_pos (by omega))
   obtain⟨x,hx⟩:=ZnX (lim xs j)
   have hcx:wr.cell? ⟨b,off+j,none⟩=some (.int .u64 (x:Nat)):=HN.out.cellAt (ha.getD hjl hx) hb
   have hjk:bk xs.length k=j:=by have:=HK.out;unfold bk;omega
   have hkl:k<xs.length:=by have:=HK.out;omega
   obtain⟨fn,tmps,assign,body,hy,hR⟩:=HY.out k wr hkl hJs
   rw[hjk,hx] at hy
   clear ha hx hjk hJs
   gi_wp2
   refine⟨(fun h=>by cases h),hR.mono ?_⟩
   rintro e W3 (⟨rfl,hJ3,hk3⟩ | ⟨rfl,hJx3⟩)
   ·have HN3:=ZnV (HN.out.trans hk3)
    clear hk3
    gi_wp2
    go_roundw
    case rel=>exact⟨_,k+1,rfl,by show _=_;have:=HK.out;omega,by omega,by omega,hJ3,HN3⟩
    case measure=>simp[intOf]
   ·gi_wp2
    refine bodyPost_ret (results_none rfl _ _ _) rfl ?_
    exact⟨⟨_,rfl⟩,.inr ⟨k,hkl,hJx3⟩⟩
  ·obtain rfl:i = -1:=by omega
   have hkl:k=xs.length:=by have:=HK.out;omega
   have HKL:=ZnV hkl
   clear hkl
   gi_wp2
   go_end0
   exact⟨⟨_,rfl⟩,.inl (by rw[← HKL.out];exact hJs)⟩
theorem ZgV (F:Fence) (n:Nat) (hf:F.fn 127) (hro:F.round=none) (p:Option Addr) (len cap:Nat) (w:World) :
  CallsIn F n Tryz.prog 127 #[.slice p len cap] w fun e w'=>e=.returned (.func (.func 176) #[] #[.pointer (some ⟨w.heap.size,0,none⟩)])∧w'=w.alloc (.cells #[.slice p len cap] 110):=by
 refine callsIn_of_wp Tryz.func127 rfl hf ?_ hro
 simp only[Tryz.ntmps127,List.size_toArray,List.length_cons,List.length_nil,Nat.reduceAdd,Nat.reduceSub,Array.replicate_succ,Array.replicate_zero,List.push_toArray,List.append_toArray,List.nil_append,List.cons_append]
 gi_wp2
 go_ret
 exact⟨rfl,rfl⟩
end Go.Proofs.YtmpaflidennnoaaGreatDoor
