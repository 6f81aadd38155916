/- The parts Num, Alg, Base, Range, Boxes, LL, Dec, NatOk, Frac, Size, Curve. -/
import Derived.Tactics
import Derived.Calls
import Derived.KernelRfl
import Derived.Test.YtmpaflidennnoaaGreatDoorChecked
import Derived.WalkKit
import Derived.WalkSpells
import Derived.WalkLawsBesides
import Derived.WalkSmall
import Derived.Lib.Hide
import Derived.Outline
import Derived.Carry
import Derived.OwnWalk
import Derived.Maps.AppendAt
import Derived.RangeFuncNested
import Derived.RangeFuncLeaves
import Derived.Lib.SmallJoins
import Derived.Lib.ItoaNum
import Derived.Lib.ParseIntB
set_option linter.unusedVariables false
set_option linter.unusedSimpArgs false
namespace Go.Proofs.YtmpaflidennnoaaGreatDoor
open Go.RowKit
theorem Zl {α:Type} : (∀ {xs:List α} {i:Nat} (h:i<xs.toArray.size),xs.toArray[i]=xs[i]'(by simpa using h))/\(∀ {a:α} {l2:List α} {i:Nat} (h:i+1<(a::l2).length),(a::l2)[i+1]=l2[i]'(Nat.lt_of_succ_lt_succ h))/\(∀ {a:α} {l2:List α} (h:0<(a::l2).length),(a::l2)[0]=a)/\(∀ (l:List α) (i:Nat) (a:α),l.toArray.setIfInBounds i a=(l.set i a).toArray)/\(∀ {a b:α} {l2:List α},(a::l2).set 0 b=b::l2)/\(∀ {a b:α} {l2:List α} {n:Nat},(a::l2).set (n+1) b=a::l2.set n b):=⟨fun h=>List.getElem_toArray h,fun _=>rfl,fun _=>rfl,fun l i a=>List.setIfInBounds_toArray l i a,rfl,rfl⟩
theorem Zm {α:Type} : (∀ (l:List α) (i:Nat) (a:α),l.toArray.setIfInBounds i a=(l.set i a).toArray)/\(∀ {a b:α} {l2:List α},(a::l2).set 0 b=b::l2)/\(∀ {a b:α} {l2:List α} {n:Nat},(a::l2).set (n+1) b=a::l2.set n b):=⟨fun l i a=>List.setIfInBounds_toArray l i a,rfl,rfl⟩
theorem Za {p:Prop} (h:p:=by omega):p:=h
theorem Zb {p:Prop} (h:p:=by kernel_rfl):p:=h
theorem Zc {p:Prop} (h:p:=by simp):p:=h
theorem Zd {p:Prop} (h:p:=by decide):p:=h
theorem Ze {p:Prop} (h:p:=by go_simp;first | rfl | (rw[if_pos (by omega)])):p:=h
theorem Zf {p:Prop} (h:p:=by go_simp;rfl):p:=h
theorem Zg {p:Prop} (h:p:=by simp only[Act.put,Zm];go_simp;first | rfl | (rw[if_pos (by omega)])):p:=h
theorem Zh {p:Prop} (h:p:=by simp only[Act.put,Zm];go_simp;rfl):p:=h
theorem Zi {p:Prop} (h:p:=by intro _ _ o _ _ h;cases o<;>exact h):p:=h
theorem Zj {p:Prop} (h:p:=by simp[intOf];omega):p:=h
theorem Zk {p:Prop} (h:p:=by grind):p:=h
abbrev ZoK:=@Array.getElem?_eq_some_iff
abbrev ZoL:=@Below.refl
abbrev ZoM:=@bodyPost_ret
abbrev ZoN:=@Below.heap_setCell
abbrev ZoO:=@World.alloc_heap_new
abbrev ZoP:=@Option.some.inj
abbrev ZoQ:=@Joins.block_setCell
abbrev ZoR:=@Nat.lt_or_ge
abbrev ZoS:=@Nat.lt_of_lt_of_le
abbrev ZoT:=@List.ne_nil_of_length_pos
abbrev ZoU:=@Nat.le_trans
abbrev ZoV:=@List.take_of_length_le
abbrev ZoW:=@Nat.pow_le_pow_right
abbrev ZoX:=@List.eq_nil_of_length_eq_zero
abbrev ZoY:=@Nat.zero_le
abbrev ZoZ:=@World.ownsRow.lt
abbrev Zo0:=@Nat.eq_zero_or_pos
abbrev Zo1:=@Below.heap_alloc
abbrev Zo2:=@List.length_append
abbrev Zo3:=@World.cell?_of_block
abbrev Zo4:=@World.putObj_heap_other
abbrev Zo5:=@World.block_lt_of_cell?
abbrev Zo6:=@List.getElem?_eq_getElem
abbrev Zo7:=@Nat.mul_comm
abbrev Zo8:=@ByteArray.toList_eq
abbrev Zo9:=@List.getElem?_eq_some_iff
abbrev Zpa:=@World.size_alloc
abbrev Zpb:=@Nat.not_lt_zero
abbrev Zpc:=@List.getElem_mem
abbrev Zpd:=@Nat.mul_le_mul_right
abbrev Zpe:=@Nat.add_sub_cancel
abbrev Zpf:=@callsIn_wide
abbrev Zpg:=@wpList_append_own
abbrev Zph:=@Nat.le_of_lt
abbrev Zpi:=@Nat.pow_succ
abbrev Zpj:=@Bool.and_eq_true
abbrev Zpk:=@decide_eq_true_eq
abbrev Zpl:=@List.length_cons
abbrev Zpm:=@IntWalk.i64_in
abbrev Zpn:=@Nat.mul_one
abbrev Zpo:=@List.all_eq_true
abbrev Zpp:=@absurd
abbrev Zpq:=@And.intro
abbrev Zpr:=@List.length_take
abbrev Zps:=@List.nil_append
theorem Zpu {α:Type} {l:Array α} {i:Nat} {a:α} (h:l[i]?=some a):i<l.size:=(Array.getElem?_eq_some_iff.1 h).1
abbrev Zpv:ByteArray:=⟨#[]⟩
abbrev Zpw (s t:ByteArray):Value:=.agg #[.string s,.string t]
abbrev Zpt (w x:World):Prop:=Hid (Below w.heap.size w x)
abbrev Zpx (s t:ByteArray):Obj:=.cells #[.string s,.string t] 41
theorem Zpy {α:Type} : (∀ (l:List α),l.toArray.size=l.length)/\(∀ (a:α) (l:List α),(a::l).length=l.length+1)/\([]:List α).length=0/\(∀ (n:Nat) (a:α),Array.replicate (n+1) a=(Array.replicate n a).push a)/\(∀ a:α,Array.replicate 0 a = #[])/\(∀ (l:List α) (a:α),l.toArray.push a=(l++[a]).toArray)/\(∀ (a b:List α),a.toArray++b.toArray=(a++b).toArray)/\(∀ l:List α,[]++l=l)/\∀ (a:α) (l m:List α),a::l++m=a::(l++m):=⟨fun _=>rfl,fun _ _=>rfl,rfl,fun _ _=>Array.replicate_succ,fun _=>rfl,fun _ _=>by simp,fun _ _=>by simp,fun _=>rfl,fun _ _ _=>rfl⟩
theorem Zpz {p:Prop} (h:p):Hid p:=Lib.hid h
theorem ZpA {n:Nat} : n<=n:=Nat.le_refl n
theorem ZpB {α:Type} (a:α):∃ z,a=z:=⟨_,rfl⟩
def val (B:Nat):List Nat->Nat
 | []=>0
 | x::l=>x+B*val B l
theorem Zev (B x:Nat) (l:List Nat):val B (x::l)=x+B*val B l:=rfl
theorem ZbO (B:Nat) (l m:List Nat):val B (l++m)=val B l+B ^ l.length*val B m:=by
 induction l with
 | nil=>simp[val]
 | cons x l ih=>
  simp only[List.cons_append,val,ih,Zpl,Zpi]
  grind
theorem ZbQ (B:Nat) (l:List Nat) (x:Nat):val B (l++[x])=val B l+B ^ l.length*x:=by
 rw[ZbO];simp[val]
theorem Z8 {B:Nat} {l:List Nat} (h:∀ x ∈ l,x<B):val B l<B ^ l.length:=by
 induction l with
 | nil=>simp[val]
 | cons x l ih=>
  have h1:=ih (fun y hy=>h y (by simp[hy]))
  have h2:=h x Zc
  simp only[val,Zpl,Zpi]
  have h3:=Nat.mul_le_mul_left B (Nat.succ_le_of_lt h1)
  have h4:B*(val B l).succ=B*val B l+B:=Nat.mul_succ _ _
  rw[Zo7 (B ^ l.length) B]
  omega
theorem ZeY (B k:Nat):val B (List.replicate k 0)=0:=by
 induction k with
 | zero=>rfl
 | succ k ih=>simp[List.replicate_succ,val,ih]
theorem ZgQ {B:Nat} {l:List Nat} (h:∀ x ∈ l,x=0):val B l=0:=by
 induction l with
 | nil=>rfl
 | cons x l ih=>simp[val,h x Zc,ih (fun y hy=>h y (by simp[hy]))]
theorem ZeV (B:Nat) (l:List Nat) (k:Nat) (hk:k<=l.length):val B l=val B (l.take k)+B ^ k*val B (l.drop k):=by
 have h:=ZbO B (l.take k) (l.drop k)
 rw[List.take_append_drop,Zpr,Nat.min_eq_left hk] at h
 exact h
theorem Zcs (B:Nat) (l:List Nat) (k:Nat) (hk:k<l.length):val B (l.take (k+1))=val B (l.take k)+B ^ k*l[k]:=by
 rw[List.take_succ_eq_append_getElem hk,ZbQ,Zpr,Nat.min_eq_left (Zph hk)]
theorem ZeC (B:Nat) (l:List Nat) (k:Nat) (hk:k<l.length):val B (l.drop k)=l[k]+B*val B (l.drop (k+1)):=by
 rw[List.drop_eq_getElem_cons hk];rfl
def Zp (B n:Nat):List Nat:=
 if _h:n=0\/B<=1 then [] else n % B::Zp B (n/B)
 termination_by n
 decreasing_by exact Nat.div_lt_self Za Za
theorem ZO (B:Nat):Zp B 0=[]:=by rw[Zp];simp
theorem Za2 {B n:Nat} (hB:1<B) (hn:0<n):Zp B n=n % B::Zp B (n/B):=by
 rw[Zp,dif_neg Za]
theorem ZA {B:Nat} (hB:1<B) (n:Nat):val B (Zp B n)=n:=by
 induction n using Nat.strongRecOn with
 | _ n ih=>
  by_cases hn:n=0
  ·subst hn;rw[ZO];rfl
  ·rw[Za2 hB Za,Zev,ih _ (Nat.div_lt_self Za hB)]
   exact Nat.mod_add_div n B
theorem ZJ {B:Nat} (hB:1<B) (n:Nat):∀ x ∈ Zp B n,x<B:=by
 induction n using Nat.strongRecOn with
 | _ n ih=>
  by_cases hn:n=0
  ·subst hn;rw[ZO];simp
  ·rw[Za2 hB Za]
   intro x hx
   rcases List.mem_cons.1 hx with rfl | hx
   ·exact Nat.mod_lt _ Za
   ·exact ih _ (Nat.div_lt_self Za hB) x hx
theorem Zfg {B:Nat} (hB:1<B) {n:Nat} : Zp B n=[]<->n=0:=by
 constructor
 ·intro h
  have:=ZA hB n
  rw[h] at this
  exact this.symm
 ·rintro rfl;exact ZO B
theorem ZaN {B:Nat} (hB:1<B) {n:Nat} : 0<(Zp B n).length<->0<n:=by
 rw[List.length_pos_iff,ne_eq,Zfg hB];omega
theorem ZgR {B:Nat} (hB:1<B) (n:Nat):(Zp B n).getLast?≠some 0:=by
 induction n using Nat.strongRecOn with
 | _ n ih=>
  by_cases hn:n=0
  ·subst hn;rw[ZO];simp
  ·rw[Za2 hB Za]
   by_cases h0:n/B=0
   ·rw[h0,ZO]
    have:n<B:=(Nat.div_eq_zero_iff_lt Za).1 h0
    simp[Nat.mod_eq_of_lt this,hn]
   ·have h1:=ih _ (Nat.div_lt_self Za hB)
    cases h2:Zp B (n/B) with
    | nil=>exact Zpp ((Zfg hB).1 h2) h0
    | cons y l=>rw[h2] at h1;simpa[List.getLast?_cons] using h1
theorem Zfh {B:Nat} (hB:1<B):∀ {l:List Nat},(∀ x ∈ l,x<B)->l.getLast?≠some 0->Zp B (val B l)=l
 | [],_,_=>ZO B
 | x::l,h,hl=>by
  have hx:=h x Zc
  have hlt:∀ y ∈ l,y<B:=fun y hy=>h y (by simp[hy])
  cases l with
  | nil=>
   have hx0:x≠0:=by simpa using hl
   simp only[val,Nat.mul_zero,Nat.add_zero]
   rw[Za2 hB Za,Nat.mod_eq_of_lt hx,Nat.div_eq_of_lt hx,ZO]
  | cons y l=>
   have ih:=Zfh hB hlt (by simpa[List.getLast?_cons] using hl)
   have hv:0<val B (y::l):=by
    rw[<- ZaN hB,ih];simp
   have hpos:0<x+B*val B (y::l):=ZoS (Nat.mul_pos Za hv) (Nat.le_add_left _ _)
   rw[Zev,Za2 hB hpos,Nat.add_mul_mod_self_left,Nat.mod_eq_of_lt hx,Nat.add_mul_div_left _ _ Za,Nat.div_eq_of_lt hx,Nat.zero_add,ih]
theorem Zac {B:Nat} (hB:1<B) {n k:Nat} (h:n<B ^ k):(Zp B n).length<=k:=by
 induction k generalizing n with
 | zero=>
  have:n=0:=by simpa using h
  subst this;rw[ZO];simp
 | succ k ih=>
  by_cases hn:n=0
  ·subst hn;rw[ZO];simp
  ·rw[Za2 hB Za,Zpl]
   have:n/B<B ^ k:=by
    rw[Nat.div_lt_iff_lt_mul Za];rwa [Zpi] at h
   have:=ih this
   omega
theorem Zd9 {B:Nat} (hB:1<B) {n k:Nat} (h:B ^ k<=n):k<(Zp B n).length:=by
 rcases ZoR k (Zp B n).length with h' | h'
 ·exact h'
 ·have h1:=Z8 (ZJ hB n)
  rw[ZA hB] at h1
  have:=ZoW (show 0<B by omega) h'
  omega
theorem ZN {B:Nat} (hB:1<B) {m n:Nat} (h:m<=n):(Zp B m).length<=(Zp B n).length:=by
 refine Zac hB ?_
 have h1:=Z8 (ZJ hB n)
 rw[ZA hB] at h1
 omega
theorem ZbZ {B:Nat} (hB:1<B) {m n:Nat} (h:(Zp B m).length<(Zp B n).length):m<n:=by
 rcases ZoR m n with h' | h'
 ·exact h'
 ·have:=ZN hB h'
  omega
theorem Zct {B:Nat} {l m:List Nat} {k:Nat} (hl:∀ x ∈ l,x<B) (hk:k<l.length) (hkm:l.length=m.length)
  (heq:l.drop (k+1)=m.drop (k+1)) (h:l[k]<m[k]'Za):val B l<val B m:=by
 rw[ZeV B l (k+1) Za,ZeV B m (k+1) Za,heq,Zcs B l k hk,Zcs B m k Za]
 have h1:val B (l.take k)<B ^ k:=by
  have:=Z8 (B:=B) (l:=l.take k) (fun x hx=>hl x (List.mem_of_mem_take hx))
  rwa [Zpr,Nat.min_eq_left Za] at this
 have h2:B ^ k*l[k]+B ^ k<=B ^ k*m[k]'Za:=by
  have:=Nat.mul_le_mul_left (B ^ k) (Nat.succ_le_of_lt h)
  rwa [Nat.mul_succ] at this
 omega
theorem ZS (B:Nat) (l:List Nat) (k:Nat):val B (l.take (k+1))=val B (l.take k)+B ^ k*l.getD k 0:=by
 rcases ZoR k l.length with h | h
 ·rw[Zcs B l k h];simp[List.getD,h]
 ·rw[ZoV Za,ZoV h];simp[List.getD,h]
theorem ZM {B:Nat} (hB:0<B) {l:List Nat} (h:∀ x ∈ l,x<B) (k:Nat):l.getD k 0<B:=by
 rcases ZoR k l.length with h' | h'
 ·simp only[List.getD,Zo6 h',Option.getD_some];exact h _ (Zpc h')
 ·simp only[List.getD,List.getElem?_eq_none h',Option.getD_none];exact hB
theorem ZbV {B:Nat} {l:List Nat} {x:Nat} (h:∀ y ∈ l,y<B) (hx:x<B):∀ y ∈ l++[x],y<B:=by
 intro y hy
 rcases List.mem_append.1 hy with h' | h'
 ·exact h y h'
 ·simp at h';omega
theorem Zdt {B:Nat} {l:List Nat} {x j:Nat} (h:∀ y ∈ l,y<B) (hx:x<B):∀ y ∈ l.set j x,y<B:=by
 intro y hy
 rcases List.mem_or_eq_of_mem_set hy with h' | h'
 ·exact h y h'
 ·omega
theorem Zhj (B:Nat) (l:List Nat) (j v:Nat) (hj:j<l.length):val B (l.set j v)+B ^ j*l[j]=val B l+B ^ j*v:=by
 induction l generalizing j with
 | nil=>simp at hj
 | cons x l ih=>
  cases j with
  | zero=>simp[val];omega
  | succ j=>
   have h:=ih j (by simpa using hj)
   simp only[List.set_cons_succ,val,List.getElem_cons_succ,Zpi]
   grind
structure PlusInv (B:Nat) (n m:List Nat) (k:Nat) (o:List Nat) (c:Nat):Prop where
 len:o.length=k
 lt:∀ x ∈ o,x<B
 carry:c<=1
 eq:val B o+B ^ k*c=val B (n.take k)+val B (m.take k)
theorem PlusInv.start (B:Nat) (n m:List Nat):PlusInv B n m 0 [] 0:=⟨rfl,Zc,Za,by simp[val]⟩
theorem PlusInv.step {B:Nat} (hB:1<B) {n m:List Nat} (hn:∀ x ∈ n,x<B) (hm:∀ x ∈ m,x<B) {k:Nat} {o:List Nat} {c:Nat}
  (h:PlusInv B n m k o c) {x:Nat} (hx:x=n.getD k 0+c+m.getD k 0):PlusInv B n m (k+1) (o++[x % B]) (x/B):=by
 have h1:=ZM Za hn k
 have h2:=ZM Za hm k
 have h3:=h.carry
 have hx2:x<2*B:=Za
 refine⟨by simp[h.len],ZbV h.lt (Nat.mod_lt _ Za),?_,?_⟩
 ·have:x/B<2:=Nat.div_lt_of_lt_mul Za
  omega
 ·rw[ZbQ,h.len,ZS,ZS,Zpi]
  have h4:=h.eq
  have h5:=Nat.mod_add_div x B
  generalize x % B=r at *
  generalize x/B=q at *
  have h6:B ^ k*r+B ^ k*B*q=B ^ k*x:=by rw[<- h5];grind
  have h7:B ^ k*x=B ^ k*n.getD k 0+B ^ k*c+B ^ k*m.getD k 0:=by rw[hx];grind
  omega
theorem PlusInv.done {B:Nat} {n m:List Nat} {o:List Nat} {c:Nat} (h:PlusInv B n m n.length o c) (hl:m.length<=n.length) :
  val B (o++[c])=val B n+val B m:=by
 have:=h.eq
 rw[ZoV ZpA,ZoV hl] at this
 rw[ZbQ,h.len,this]
structure MinusInv (B:Nat) (n m:List Nat) (k:Nat) (o:List Nat) (b:Nat):Prop where
 len:o.length=k
 lt:∀ x ∈ o,x<B
 borrow:b<=1
 eq:val B o+val B (m.take k)=val B (n.take k)+B ^ k*b
theorem MinusInv.start (B:Nat) (n m:List Nat):MinusInv B n m 0 [] 0:=⟨rfl,Zc,Za,by simp[val]⟩
theorem MinusInv.step_borrow {B:Nat} (hB:1<B) {n m:List Nat} (hm:∀ x ∈ m,x<B) {k:Nat} {o:List Nat} {b:Nat}
  (h:MinusInv B n m k o b) {less:Nat} (hx:less=b+m.getD k 0) (hlt:n.getD k 0<less):MinusInv B n m (k+1) (o++[n.getD k 0+B-less]) 1:=by
 have h2:=ZM Za hm k
 have h3:=h.borrow
 refine⟨by simp[h.len],ZbV h.lt Za,Nat.le_refl _,?_⟩
 rw[ZbQ,h.len,ZS,ZS,Zpi]
 have h4:=h.eq
 have h5:n.getD k 0+B-less+b+m.getD k 0=n.getD k 0+B:=Za
 generalize n.getD k 0+B-less=r at *
 have h6:B ^ k*r+B ^ k*b+B ^ k*m.getD k 0=B ^ k*n.getD k 0+B ^ k*B:=by rw[<- Nat.mul_add,<- Nat.mul_add,h5,Nat.mul_add]
 omega
theorem MinusInv.step_plain {B:Nat} {n m:List Nat} (hn:∀ x ∈ n,x<B) (hB:1<B) {k:Nat} {o:List Nat} {b:Nat}
  (h:MinusInv B n m k o b) {less:Nat} (hx:less=b+m.getD k 0) (hlt:less<=n.getD k 0):MinusInv B n m (k+1) (o++[n.getD k 0-less]) 0:=by
 have h2:=ZM Za hn k
 refine⟨by simp[h.len],ZbV h.lt Za,Za,?_⟩
 rw[ZbQ,h.len,ZS,ZS,Zpi]
 have h4:=h.eq
 have h5:n.getD k 0-less+b+m.getD k 0=n.getD k 0:=Za
 generalize n.getD k 0-less=r at *
 have h6:B ^ k*r+B ^ k*b+B ^ k*m.getD k 0=B ^ k*n.getD k 0:=by rw[<- Nat.mul_add,<- Nat.mul_add,h5]
 omega
theorem MinusInv.done {B:Nat} {n m:List Nat} {o:List Nat} {b:Nat} (h:MinusInv B n m n.length o b) (hl:m.length<=n.length) (hle:val B m<=val B n) :
  val B o=val B n-val B m:=by
 have h1:=h.eq
 rw[ZoV ZpA,ZoV hl] at h1
 have h2:=Z8 h.lt
 rw[h.len] at h2
 have h3:=h.borrow
 rcases ZoR 0 b with hb | hb
 ·have:b=1:=Za
  subst this
  omega
 ·have:b=0:=Za
  subst this
  omega
structure TimesInv (B:Nat) (L i:Nat) (p x:Nat) (m:List Nat) (k:Nat) (o:List Nat) (c:Nat):Prop where
 len:o.length=L
 lt:∀ y ∈ o,y<B
 carry:c<B
 zero:∀ j,i+m.length<=j->o.getD j 0=0
 eq:val B o+B ^ (i+k)*c=p+B ^ i*(x*val B (m.take k))
theorem TimesInv.step {B:Nat} (hB:1<B) {L i p x:Nat} {m:List Nat} (hm:∀ y ∈ m,y<B) (hx:x<B) {k:Nat} {o:List Nat} {c:Nat}
  (h:TimesInv B L i p x m k o c) (hk:k<m.length) (hL:i+m.length<=L) {s:Nat} (hs:s=c+o.getD (i+k) 0+x*m.getD k 0) :
  TimesInv B L i p x m (k+1) (o.set (i+k) (s % B)) (s/B):=by
 have h1:=ZM Za h.lt (i+k)
 have h2:=ZM Za hm k
 have h3:=h.carry
 have hlen:=h.len
 have hmul:x*m.getD k 0<=(B-1)*(B-1):=Nat.mul_le_mul Za Za
 have hBB:(B-1)*(B-1)+2*(B-1)+1=B*B:=by
  obtain⟨d,rfl⟩:∃ d,B=d+1:=⟨B-1,Za⟩
  simp only[Zpe];grind
 have hsB:s<B*B:=Za
 refine⟨by simp[hlen],Zdt h.lt (Nat.mod_lt _ Za),Nat.div_lt_of_lt_mul hsB,?_,?_⟩
 ·intro j hj
  have:=h.zero j hj
  simp only[List.getD,List.getElem?_set] at this ⊢
  rw[if_neg Za];exact this
 ·have hij:i+k<o.length:=Za
  have h5:=Zhj B o (i+k) (s % B) hij
  have h6:o.getD (i+k) 0=o[i+k]:=by simp[List.getD,hij]
  rw[h6] at hs h1
  have h7:=Nat.mod_add_div s B
  have h8:=h.eq
  rw[ZS,show i+(k+1)=i+k+1 from rfl,Zpi]
  generalize s % B=r at *
  generalize s/B=q at *
  generalize val B (o.set (i+k) r)=V at *
  generalize val B o=W at *
  generalize o[i+k]=z at *
  generalize val B (m.take k)=M at *
  generalize m.getD k 0=y at *
  rw[Nat.pow_add] at *
  generalize B ^ i=I at *
  generalize B ^ k=K at *
  have h9:I*K*r+I*K*B*q=I*K*s:=by rw[<- h7];grind
  have h10:I*K*s=I*K*c+I*K*z+I*K*(x*y):=by rw[hs];grind
  have h11:I*(x*(M+K*y))=I*(x*M)+I*K*(x*y):=Zk
  rw[h11]
  omega
structure RowsInv (B:Nat) (L:Nat) (n m:List Nat) (i:Nat) (o:List Nat):Prop where
 len:o.length=L
 lt:∀ y ∈ o,y<B
 zero:∀ j,i+m.length<=j->o.getD j 0=0
 eq:val B o=val B (n.take i)*val B m
theorem RowsInv.start {B:Nat} (hB:1<B) (L:Nat) (n m:List Nat):RowsInv B L n m 0 (List.replicate L 0):=by
 refine⟨Zc,fun y hy=>?_,fun j _=>?_,?_⟩
 ·have:=(List.mem_replicate.1 hy).2;omega
 ·simp only[List.getD,List.getElem?_replicate];split<;>rfl
 ·simp[ZeY,val]
theorem RowsInv.inner {B:Nat} (hB:1<B) {L:Nat} {n m:List Nat} {i:Nat} {o:List Nat} (h:RowsInv B L n m i o) (x:Nat) :
  TimesInv B L i (val B (n.take i)*val B m) x m 0 o 0:=
 ⟨h.len,h.lt,Za,h.zero,by simp[h.eq,val]⟩
theorem RowsInv.step {B:Nat} {L:Nat} {n m:List Nat} {i x:Nat} {o:List Nat} {c:Nat} (hL:i+m.length<L) (hx:x=n.getD i 0)
  (h:TimesInv B L i (val B (n.take i)*val B m) x m m.length o c):RowsInv B L n m (i+1) (o.set (i+m.length) c):=by
 have hlen:=h.len
 refine⟨by simp[hlen],Zdt h.lt h.carry,?_,?_⟩
 ·intro j hj
  have:=h.zero j Za
  simp only[List.getD,List.getElem?_set] at this ⊢
  rw[if_neg Za];exact this
 ·have h1:=Zhj B o (i+m.length) c Za
  have h2:=h.zero (i+m.length) ZpA
  have h3:o[i+m.length]'Za=0:=by
   simpa[List.getD,Zo6 (show i+m.length<o.length by omega)] using h2
  rw[h3] at h1
  have h4:=h.eq
  rw[ZoV (Nat.le_refl m.length)] at h4
  rw[ZS,<- hx]
  have h5:(val B (n.take i)+B ^ i*x)*val B m=val B (n.take i)*val B m+B ^ i*(x*val B m):=Zk
  rw[h5]
  omega
theorem RowsInv.done {B:Nat} {L:Nat} {n m:List Nat} {o:List Nat} (h:RowsInv B L n m n.length o):val B o=val B n*val B m:=by
 have:=h.eq
 rwa [ZoV ZpA] at this
structure ShortInv (B:Nat) (n:List Nat) (d:Nat) (k:Nat) (o:List Nat) (r:Nat):Prop where
 len:o.length=n.length
 lt:∀ y ∈ o,y<B
 rest:r<d
 eq:val B (n.drop k)=val B (o.drop k)*d+r
theorem ShortInv.start {B:Nat} (hB:1<B) (n:List Nat) {d:Nat} (hd:0<d):ShortInv B n d n.length (List.replicate n.length 0) 0:=by
 refine⟨Zc,fun y hy=>?_,hd,by simp[val]⟩
 have:=(List.mem_replicate.1 hy).2;omega
theorem ShortInv.step {B:Nat} {n:List Nat} (hn:∀ y ∈ n,y<B) {d k:Nat} {o:List Nat} {r:Nat} (h:ShortInv B n d (k+1) o r) (hk:k<n.length) {s:Nat} (hs:s=r*B+n.getD k 0) :
  ShortInv B n d k (o.set k (s/d)) (s % d):=by
 have hlen:=h.len
 have h1:=h.rest
 have h2:n.getD k 0<B:=by simp only[List.getD,Zo6 hk,Option.getD_some];exact hn _ (Zpc hk)
 have hq:s/d<B:=by
  refine Nat.div_lt_of_lt_mul ?_
  have:(r+1)*B<=d*B:=Zpd _ Za
  rw[Nat.add_mul] at this
  omega
 refine⟨by simp[hlen],Zdt h.lt hq,Nat.mod_lt _ Za,?_⟩
 have hk':k<(o.set k (s/d)).length:=by simp;omega
 rw[ZeC B n k hk,ZeC B _ k hk',h.eq]
 have h3:(o.set k (s/d)).drop (k+1)=o.drop (k+1):=by
  rw[List.drop_set,if_pos Za]
 have h4:(o.set k (s/d))[k]=s/d:=Zc
 rw[h3,h4]
 have h5:n.getD k 0=n[k]:=by simp[List.getD,hk]
 rw[h5] at hs
 have h6:=Nat.mod_add_div s d
 generalize s % d=q at *
 generalize s/d=t at *
 generalize val B (o.drop (k+1))=V at *
 have h7:n[k]+B*(V*d+r)=s+B*(V*d):=by rw[hs];grind
 rw[h7,<- h6]
 grind
theorem ShortInv.done {B:Nat} {n:List Nat} {d:Nat} {o:List Nat} {r:Nat} (h:ShortInv B n d 0 o r):val B o=val B n/d/\r=val B n % d:=by
 have h1:=h.eq
 have h2:=h.rest
 simp only[List.drop_zero] at h1
 constructor
 ·rw[h1,Zo7,Nat.mul_add_div Za,Nat.div_eq_of_lt h2];rfl
 ·rw[h1,Zo7,Nat.mul_add_mod,Nat.mod_eq_of_lt h2]
def lim (xs:List Nat) (i:Nat):Nat:=xs.getD i 0
def At (k:IntKind) (w:World) (b off:Nat) (xs:List Nat):Prop:=∀ j (h:j<xs.length),w.cell? ⟨b,off+j,none⟩=some (.int k (xs[j]:Nat))
theorem At.below {k:IntKind} {B:Nat} {w w':World} {b off:Nat} {xs:List Nat} (h:At k w b off xs) (hb:Below B w w') (hB:b<B):At k w' b off xs:=
 fun j hj=>(hb.cell (p:=⟨b,off+j,none⟩) hB).trans (h j hj)
theorem At.getD {k:IntKind} {w:World} {b off:Nat} {xs:List Nat} (h:At k w b off xs) {j x:Nat} (hj:j<xs.length) (hx:xs.getD j 0=x):w.cell? ⟨b,off+j,none⟩=some (.int k (x:Nat)):=by
 rw[h j hj];subst hx;simp[List.getD,hj]
def Nums (k:IntKind) (w:World) (v:Value) (xs:List Nat):Prop:=
 ∃ p cap,v=.slice p xs.length cap/\xs.length<=cap/\cap<=maxLen/\(xs≠[]->∃ b off,p=some ⟨b,off,none⟩/\b<w.heap.size/\At k w b off xs)
theorem Nums.below {k:IntKind} {B:Nat} {w w':World} {v:Value} {xs:List Nat} (h:Nums k w v xs) (hb:Below B w w') (hB:w.heap.size<=B):Nums k w' v xs:=by
 obtain⟨p,cap,h1,h2,h3,h4⟩:=h
 refine⟨p,cap,h1,h2,h3,fun hne=>?_⟩
 obtain⟨b,off,h5,h6,h7⟩:=h4 hne
 exact⟨b,off,h5,ZoS h6 hb.size,h7.below hb Za⟩
theorem Nums.nil (k:IntKind) (w:World):Nums k w (.slice none 0 0) []:=⟨none,0,rfl,Nat.le_refl _,by simp[maxLen],Zc⟩
def Row (k:IntKind) (E:TypeId) (w:World) (B g cap:Nat) (xs:List Nat):Prop:=
 w.ownsRow B E 1 (.slice (some ⟨g,0,none⟩) xs.length cap) xs.length (xs.map fun x=>Value.int k (x:Nat))
section
variable {k:IntKind} {E:TypeId} {w:World} {B g cap:Nat} {xs:List Nat}
theorem Row.cell (h:Row k E w B g cap xs) {j x:Nat} (hj:j<xs.length) (hx:xs.getD j 0=x):w.cell? ⟨g,j,none⟩=some (.int k (x:Nat)):=by
 have:=World.ownsRow.cellAt h j Za
 rw[this];subst hx;simp[List.getD,hj]
theorem Row.at (h:Row k E w B g cap xs):At k w g 0 xs:=fun j hj=>by
 rw[Nat.zero_add];exact h.cell hj (by simp[List.getD,hj])
theorem Row.frozen (h:Row k E w B g cap xs) (j:Nat):w.frozen? ⟨g,j,none⟩=false:=World.ownsRow.frozenAt h j
theorem Row.lt (h:Row k E w B g cap xs):B<=g/\g<w.heap.size:=ZoZ h g (by simp[Value.ownBlock])
theorem Row.cap_le (h:Row k E w B g cap xs):xs.length<=cap/\cap<=maxLen:=by
 rcases h.2 with ⟨h',_⟩ | ⟨g',cap',cur,h',_,_,h5,h6,_⟩
 ·simp at h'
 ·simp only[Value.slice.injEq,Option.some.injEq,Addr.mk.injEq,and_true,true_and] at h'
  obtain⟨rfl,rfl⟩:=h'
  exact⟨h5,h6⟩
theorem Row.set (h:Row k E w B g cap xs) (j v:Nat):Row k E (w.setCell ⟨g,j,none⟩ (.int k (v:Nat))) B g cap (xs.set j v):=by
 have:=(World.ownsRow.stored h j (.int k (v:Nat))).1
 unfold Row
 rw[List.length_set,List.map_set]
 exact this
theorem Row.kept {w':World} (h:Row k E w B g cap xs) (hb:w'.heap[g]?=w.heap[g]?):Row k E w' B g cap xs:=by
 obtain⟨h1,h2⟩:=h
 refine⟨h1,?_⟩
 rcases h2 with ⟨h',_⟩ | ⟨g',cap',cur,h',h3,h4,h5⟩
 ·simp at h'
 ·simp only[Value.slice.injEq,Option.some.injEq,Addr.mk.injEq,and_true,true_and] at h'
  obtain⟨rfl,rfl⟩:=h'
  exact .inr ⟨g,cap,cur,rfl,h3,by rw[hb];exact h4,h5⟩
theorem Row.below {w':World} {C:Nat} (h:Row k E w B g cap xs) (hb:Below C w w') (hC:g<C):Row k E w' B g cap xs:=h.kept (hb.block g hC)
theorem Row.alloc (h:Row k E w B g cap xs) (o:Obj):Row k E (w.alloc o) B g cap xs:=World.ownsRow.alloc h o
theorem Row.drew (h:Row k E w B g cap xs):Row k E w.drew B g cap xs:=h
theorem Row.setOther (h:Row k E w B g cap xs) {a:Addr} (ha:a.block≠g) (v:Value):Row k E (w.setCell a v) B g cap xs:=h.kept (ZoN w a v g (Ne.symm ha))
theorem Row.grown {w':World} {row:Option Nat} (h:Row k E w B g cap xs) (hg:w.grownBy w' row) (hr:row≠some g):Row k E w' B g cap xs:=h.kept (hg.block g h.lt.2 (Ne.symm hr))
theorem Row.nums (h:Row k E w B g cap xs):Nums k w (.slice (some ⟨g,0,none⟩) xs.length cap) xs:=
 ⟨_,cap,rfl,h.cap_le.1,h.cap_le.2,fun _=>⟨g,0,rfl,h.lt.2,h.at⟩⟩
theorem Row.take (h:Row k E w B g cap xs) (n:Nat):Row k E w B g cap (xs.take n):=by
 obtain⟨h1,h2⟩:=h
 rcases h2 with ⟨h',_⟩ | ⟨g',cap',cur,h',h3,h4,h5,h6,h7,h8⟩
 ·simp at h'
 ·simp only[Value.slice.injEq,Option.some.injEq,Addr.mk.injEq,and_true,true_and] at h'
  obtain⟨rfl,rfl⟩:=h'
  refine⟨Zc,.inr ⟨g,cap,cur,rfl,h3,h4,?_,h6,h7,?_⟩⟩
  ·rw[Zpr];omega
  ·rw[List.map_take,<- h8,List.take_take,Zpr]
   congr 1;omega
end
theorem Row.own {k:IntKind} {E:TypeId} {w:World} {B g cap n:Nat} {xs:List Nat} (h:Row k E w B g cap xs) (hn:xs.length=n) :
  w.ownsRow B E 1 (.slice (some ⟨g,0,none⟩) n cap) n (xs.map fun x=>Value.int k (x:Nat)):=by subst hn;exact h
theorem Row.made {k:IntKind} {E:TypeId} {w:World} {B g cap:Nat} (h:w.ownsRow B E 1 (.slice (some ⟨g,0,none⟩) 0 cap) 0 []):Row k E w B g cap []:=h
theorem Row.full {k:IntKind} {E:TypeId} {w:World} {B g n:Nat} (h:w.ownsRow B E 1 (.slice (some ⟨g,0,none⟩) n n) n (madeCells #[Value.int k 0] n).toList):Row k E w B g n (List.replicate n 0):=by
 unfold Row
 have e:(madeCells #[Value.int k 0] n).toList=(List.replicate n 0).map fun x:Nat=>Value.int k (x:Nat):=by
  have:=toList_madeCells_one (Value.int k 0) n
  rw[List.map_replicate];exact this
 rw[<- e,List.length_replicate]
 exact h
theorem Row.snoc {k:IntKind} {E:TypeId} {w:World} {B g cap n x:Nat} {xs:List Nat} {y:Int} (hn:n=xs.length) (hy:y=(x:Nat))
  (h:w.ownsRow B E 1 (.slice (some ⟨g,0,none⟩) (n+1) cap) (n+1) ((xs.map fun x=>Value.int k (x:Nat))++[.int k y])):Row k E w B g cap (xs++[x]):=by
 subst hn;subst hy
 unfold Row
 rw[Zo2,List.map_append]
 exact h
theorem Zcx:(Tryz.prog.info? 158).map (fun i=>(i.zero,i.size,i.bytes))=some (some (.int .u64 0),1,8):=Zb
structure Keeps (S:Nat->Prop) (w w':World):Prop where
 os:w'.os=w.os
 tape:w'.tape=w.tape
 output:w'.output=w.output
 size:w.heap.size<=w'.heap.size
 block:∀ k,k<w.heap.size->S k->w'.heap[k]?=w.heap[k]?
section
variable {S S':Nat->Prop} {a w w':World}
theorem Keeps.refl (S:Nat->Prop) (w:World):Keeps S w w:=⟨rfl,rfl,rfl,Nat.le_refl _,fun _ _ _=>rfl⟩
theorem Keeps.trans (h:Keeps S a w) (k:Keeps S w w'):Keeps S a w':=
 ⟨k.os.trans h.os,k.tape.trans h.tape,k.output.trans h.output,ZoU h.size k.size,fun i hi hs=>(k.block i (ZoS hi h.size) hs).trans (h.block i hi hs)⟩
theorem Keeps.mono (h:Keeps S w w') (hs:∀ b,b<w.heap.size->S' b->S b):Keeps S' w w':=⟨h.os,h.tape,h.output,h.size,fun k hk hk'=>h.block k hk (hs k hk hk')⟩
theorem Keeps.alloc (h:Keeps S a w) (o:Obj):Keeps S a (w.alloc o):=
 h.trans ⟨rfl,rfl,rfl,Zc,fun k hk _=>Zo1 _ _ _ hk⟩
theorem Keeps.drew (h:Keeps S a w):Keeps S a w.drew:=⟨h.os,h.tape,h.output,h.size,h.block⟩
theorem Keeps.setCell (h:Keeps S a w) {p:Addr} (hp:¬ S p.block) (u:Value):Keeps S a (w.setCell p u):=
 h.trans ⟨rfl,rfl,rfl,by simp[World.setCell],fun k _ hs=>ZoN _ _ _ _ (fun e=>hp (by rw[<- e];exact hs))⟩
theorem Keeps.putObj (h:Keeps S a w) {r:Nat} (hr:¬ S r) (o:Obj):Keeps S a (w.putObj r o):=
 h.trans ⟨rfl,rfl,rfl,Zc,fun _ _ hs=>Zo4 (fun e=>hr (by rw[<- e];exact hs))⟩
theorem Keeps.below {B:Nat} (h:Keeps S a w) (hb:Below B w w') (hB:∀ b,b<w.heap.size->S b->b<B):Keeps S a w':=
 h.trans ⟨hb.os,hb.tape,hb.output,hb.size,fun k hk hs=>hb.block k (hB k hk hs)⟩
theorem Keeps.grown {row:Option Nat} (h:Keeps S a w) (hg:w.grownBy w' row) (hr:∀ r,row=some r->¬ S r):Keeps S a w':=
 h.trans ⟨hg.os,hg.tape,hg.output,hg.size,fun k hk hs=>hg.block k hk (fun e=>hr k e.symm hs)⟩
theorem Keeps.cell (h:Keeps S w w') {p:Addr} (hp:p.block<w.heap.size) (hs:S p.block):w'.cell? p=w.cell? p:=Zo3 (w:=w) (h.block _ hp hs)
theorem Keeps.frozen (h:Keeps S w w') {p:Addr} (hp:p.block<w.heap.size) (hs:S p.block):w'.frozen? p=w.frozen? p:=World.frozen?_of_block (w:=w) (h.block _ hp hs)
theorem Keeps.cellAt (h:Keeps S w w') {p:Addr} {v:Value} (hc:w.cell? p=some v) (hs:S p.block):w'.cell? p=some v:=(h.cell (Zo5 w p hc) hs).trans hc
theorem Below.keeps {B:Nat} (h:Below B w w'):Keeps (fun b=>b<B) w w':=⟨h.os,h.tape,h.output,h.size,fun k _ hs=>h.block k hs⟩
end
theorem ZK (w:World) (cs:Array Value) (T:TypeId) {b:Nat} (j:Nat) (hb:b=w.heap.size):(w.alloc (.cells cs T)).cell? ⟨b,j,none⟩=cs[j]?:=by
 subst hb
 have h:(w.alloc (.cells cs T)).heap[w.heap.size]?=some (.cells cs T):=ZoO w _
 unfold World.cell?
 simp only[h]
 rfl
theorem ZcL (w:World) (cs:Array Value) (T:TypeId) {b:Nat} (j:Nat) (hb:b=w.heap.size):(w.alloc (.cells cs T)).frozen? ⟨b,j,none⟩=false:=by
 subst hb
 have h:(w.alloc (.cells cs T)).heap[w.heap.size]?=some (.cells cs T):=ZoO w _
 unfold World.frozen?
 simp only[h]
 simp
theorem Zai (w:World) (o:Obj) {b:Nat} (j:Nat) (hb:b<w.heap.size):(w.alloc o).cell? ⟨b,j,none⟩=w.cell? ⟨b,j,none⟩:=
 Zo3 (w:=w) (Zo1 w o b hb)
theorem Zdw (w:World) (o:Obj) {b:Nat} (j:Nat) (hb:b<w.heap.size):(w.alloc o).frozen? ⟨b,j,none⟩=w.frozen? ⟨b,j,none⟩:=
 World.frozen?_of_block (w:=w) (Zo1 w o b hb)
def Iter (P:Program) (gf:Nat) (lb:Array Value) (f:Nat->Array Value) (N:Nat) (S T:Nat->Prop) (w0:World):Prop:=
 ∀ (n l:Nat) (J Jx:Nat->World->Prop) (W:World),Keeps S w0 W->
  (∀ k W1 W2,J k W1->Keeps T W1 W2->J k W2)->(∀ k W1 W2,Jx k W1->Keeps T W1 W2->Jx k W2)->
  (∀ k W1,k<N->J k W1->YieldAt Fence.wide (n-1) P l (f k) W1 fun e W'=>(e=.returned (.bool true)/\J (k+1) W'/\Keeps S W1 W')\/(e=.returned (.bool false)/\Jx k W'))->
  J 0 W->CallsIn Fence.wide n P gf (#[.func (.yield l) #[] #[]]++lb) W fun e W'=>(∃ v,e=.returned v)/\(J N W'\/∃ k,k<N/\Jx k W')
def ZdT (S:Nat->Prop) (D:Nat) (I:Nat->World->Prop) (Ix:Code->Nat->World->Prop) (k:Nat) (W:World):Exit->Act->World->Prop
 | .normal,_,W'=>Keeps (fun b=>S b\/b=D\/b=D+1) W W'/\I (k+1) W'
 | .ret,_,W'=>Keeps (fun b=>S b\/b=D\/b=D+1) W W'/\Ix .ret k W'
 | .exit id,_,W'=>Keeps (fun b=>S b\/b=D\/b=D+1) W W'/\Ix (.exit id) k W'
 | .goto t,_,W'=>Keeps (fun b=>S b\/b=D\/b=D+1) W W'/\Ix (.goto t) k W'
 | .panic _,_,_=>False
 | .outgrown,_,_=>False
theorem ZfZ {P:Program} {n:Nat} {g:Operand} {ps:Array Tmp} {assign body:Code} {Q:Exit->Act->World->Prop} {a:Act} {w:World}
  {gf:Nat} {lb:Array Value} {f:Nat->Array Value} {N:Nat} {S T:Nat->Prop} (D:Nat) (hD:w.heap.size=D)
  (hg:a.eval g=.func (.func gf) #[] lb) (eg:∀ args w,(callFunc gf args).run P w=.ok (.enter gf args) w) (hps:∀ k,(f k).size=ps.size)
  (hit:Iter P gf lb f N S T w) (hSD:∀ b,S b->b<D) (hTD:T D/\T (D+1))
  (I:Nat->World->Prop) (Ix:Code->Nat->World->Prop)
  (hI:∀ k W1 W2,I k W1->Keeps (fun b=>T b/\b≠D/\b≠D+1) W1 W2->I k W2)
  (hIx:∀ c k W1 W2,Ix c k W1->Keeps (fun b=>T b/\b≠D/\b≠D+1) W1 W2->Ix c k W2)
  (h0:I 0 w) (a₁:Nat->Act)
  (hassign:∀ (l k:Nat) (W:World) (K:Act->World->Prop),K (a₁ k) W->
   assign.wpIn (Fence.wide.inRound l) (n-1-1) P (Exit.then K (fun _ _ _=>False)) { tmps:=(ps.zip (f k)).foldl (fun t (p,v)=>t.setIfInBounds p v) a.tmps,defers:=[] } W)
  (hbody:∀ (l k:Nat) (W:World),k<N->I k W->D+2<=W.heap.size->(W.heap[D]?=some (.deferred (some []))/\∃ l',W.heap[D+1]?=some (.loop l'))->body.wpIn (Fence.wide.inRound l) (n-1-1) P (ZdT S D I Ix k W) (a₁ k) W)
  (hdone:∀ W:World,I N W->W.heap[D]?=some (.deferred (some []))->Q .normal { a with defers:={ target:=.collected D,args:=#[] }::a.defers } W)
  (hstop:∀ (c:Code) (k:Nat) (W:World),k<N->Ix c k W->W.heap[D]?=some (.deferred (some []))->c.wpIn Fence.wide n P Q { a with defers:={ target:=.collected D,args:=#[] }::a.defers } W) :
  (Code.rangeFunc g ps assign body).wpIn Fence.wide n P Q a w:=by
 subst hD
 refine wpIn_rangeFunc fun fn _=>?_
 let rec0:LoopState->Option Code->Loop:=fun st pe=>{ state:=st,pending:=pe,fn,tmps:=a.tmps,params:=ps,assign,body,defers:=w.heap.size }
 obtain⟨mk,hmk⟩:∃ mk:LoopState->Option Code->Loop,mk=rec0:=⟨_,rfl⟩
 obtain⟨W1,hW1⟩:=ZpB ((w.alloc (.deferred (some []))).alloc (.loop (mk .ready none)))
 have hrec1:W1.heap[w.heap.size+1]?=some (.loop (mk .ready none)):=by
  have:=ZoO (w.alloc (.deferred (some []))) (.loop (mk .ready none))
  rwa [Zpa,hW1] at this
 have hdef1:W1.heap[w.heap.size]?=some (.deferred (some [])):=by
  rw[<- hW1];exact(Zo1 _ _ _ Zc).trans (ZoO w _)
 have keepAny:∀ S':Nat->Prop,Keeps S' w W1:=fun S'=>by rw[<- hW1];exact((Keeps.refl S' w).alloc _).alloc _
 refine⟨w.heap.size+1,[{ target:=.collected w.heap.size,args:=#[] }],W1,{ target:=.fn (.func gf) lb,args:=#[.func (.yield (w.heap.size+1)) #[] #[]] },W1,gf,
  #[.func (.yield (w.heap.size+1)) #[] #[]]++lb,W1,?_,?_,fun _ _=>trivial,?_,(fun h=>by cases h),?_⟩
 ·rw[<- hW1,hmk];exact run_enterLoop_outer _ _ _ _ _
 ·simp only[resolve,hg]
  simp[go_sem]
 ·simp[invoke,go_sem,eg]
 ·-- the record between two rounds,and when one has said 'no more'
  have turn:∀ {k:Nat} {W2:World} (l:Loop),I k W2->W2.heap[w.heap.size]?=some (.deferred (some []))->w.heap.size+1<W2.heap.size->
    I k (W2.putObj (w.heap.size+1) (.loop l))/\(W2.putObj (w.heap.size+1) (.loop l)).heap[w.heap.size]?=some (.deferred (some []))/\(W2.putObj (w.heap.size+1) (.loop l)).heap[w.heap.size+1]?=some (.loop l):=
   fun l hi hd hlt=>⟨hI _ _ _ hi ((Keeps.refl _ _).putObj (fun h=>h.2.2 rfl) _),(Zo4 Za).trans hd,World.putObj_heap_same hlt⟩
  have turnx:∀ {c:Code} {k:Nat} {W2:World} (l:Loop),Ix c k W2->W2.heap[w.heap.size]?=some (.deferred (some []))->w.heap.size+1<W2.heap.size->
    Ix c k (W2.putObj (w.heap.size+1) (.loop l))/\(W2.putObj (w.heap.size+1) (.loop l)).heap[w.heap.size]?=some (.deferred (some []))/\(W2.putObj (w.heap.size+1) (.loop l)).heap[w.heap.size+1]?=some (.loop l):=
   fun l hi hd hlt=>⟨hIx _ _ _ _ hi ((Keeps.refl _ _).putObj (fun h=>h.2.2 rfl) _),(Zo4 Za).trans hd,World.putObj_heap_same hlt⟩
  have ltOf:∀ {W2:World} {o:Obj},W2.heap[w.heap.size+1]?=some o->w.heap.size+1<W2.heap.size:=fun h=>(Zpu h)
  have stay:∀ {k:Nat} {A B:World} {l:Loop},(A.heap[w.heap.size+1]?=some (.loop l)/\A.heap[w.heap.size]?=some (.deferred (some [])))->Keeps T A B->
    B.heap[w.heap.size+1]?=some (.loop l)/\B.heap[w.heap.size]?=some (.deferred (some [])):=fun {k A B l} h hk=>
   ⟨(hk.block _ (ltOf h.1) hTD.2).trans h.1,(hk.block _ (by have:=ltOf h.1;omega) hTD.1).trans h.2⟩
  refine(hit (n-1) (w.heap.size+1)
   (fun k W=>I k W/\(W.heap[w.heap.size+1]?=some (.loop (mk .ready none))/\W.heap[w.heap.size]?=some (.deferred (some []))))
   (fun k W=>∃ c,Ix c k W/\(W.heap[w.heap.size+1]?=some (.loop (mk .done (some c)))/\W.heap[w.heap.size]?=some (.deferred (some []))))
   W1 (keepAny S)
   (fun k A B h hk=>⟨hI _ _ _ h.1 (hk.mono fun b _ hb=>hb.1),stay (k:=k) h.2 hk⟩)
   (fun k A B h hk=>by obtain⟨c,h1,h2⟩:=h;exact⟨c,hIx _ _ _ _ h1 (hk.mono fun b _ hb=>hb.1),stay (k:=k) h2 hk⟩)
   ?_ ⟨hI _ _ _ h0 (keepAny _),hrec1,hdef1⟩).mono ?_
  ·rintro k W hk ⟨hi,hl,hd⟩
   have hlt:=ltOf hl
   have hy:=run_yield (P:=P) (args:=f k) hl (by rw[hmk];exact hps k)
   rw[hmk] at hy
   refine⟨fn,_,assign,body,hy,roundIn_of_wpIn (F:=Fence.wide) trivial (hassign _ k W _ ⟨_,run_beginRound hl (by rw[hmk]),?_⟩)⟩
   obtain⟨hi2,hd2,hl2⟩:=turn { mk .ready none with state:=.busy } hi hd hlt
   have keepSame:Keeps S W (W.putObj (w.heap.size+1) (.loop { mk .ready none with state:=.busy })):=(Keeps.refl _ _).putObj (fun h=>by have:=hSD _ h;omega) _
   refine wpIn_mono (hbody _ k _ hk hi2 (by simp;omega) ⟨hd2,_,hl2⟩) ?_
   generalize hV:W.putObj (w.heap.size+1) (.loop { mk .ready none with state:=.busy })=V at hi2 hd2 hl2 keepSame
   have fin:∀ (jump:Option Code) (W3:World),Keeps (fun b=>S b\/b=w.heap.size\/b=w.heap.size+1) V W3->
     (Instr.endRound (w.heap.size+1) jump).run P W3=.ok (.bool jump.isNone) (W3.putObj (w.heap.size+1) (.loop (mk (if jump.isNone then .ready else .done) jump)))/\
      W3.heap[w.heap.size]?=some (.deferred (some []))/\w.heap.size+1<W3.heap.size:=fun jump W3 hk3=>by
    have hl3:W3.heap[w.heap.size+1]?=some (.loop { mk .ready none with state:=.busy }):=(hk3.block _ (ltOf hl2) (.inr (.inr rfl))).trans hl2
    have hd3:=(hk3.block _ (by have:=ltOf hl2;omega) (.inr (.inl rfl))).trans hd2
    have:=run_endRound (P:=P) jump hl3
    rw[hmk] at this ⊢
    exact⟨this,hd3,ltOf hl3⟩
   rintro e a3 W3 hp
   cases e with
   | normal=>
    obtain⟨hk3,hi3⟩:=hp
    obtain⟨hr,hd3,hlt3⟩:=fin none W3 hk3
    obtain⟨x1,x2,x3⟩:=turn (mk .ready none) hi3 hd3 hlt3
    exact⟨_,_,hr,.inl ⟨rfl,⟨x1,x3,x2⟩,(keepSame.trans (hk3.mono fun b _ hb=>.inl hb)).putObj (fun h=>by have:=hSD _ h;omega) _⟩⟩
   | ret=>
    obtain⟨hk3,hi3⟩:=hp
    obtain⟨hr,hd3,hlt3⟩:=fin (some .ret) W3 hk3
    obtain⟨x1,x2,x3⟩:=turnx (mk .done (some .ret)) hi3 hd3 hlt3
    exact⟨_,_,hr,.inr ⟨rfl,.ret,x1,x3,x2⟩⟩
   | exit id=>
    obtain⟨hk3,hi3⟩:=hp
    obtain⟨hr,hd3,hlt3⟩:=fin (some (.exit id)) W3 hk3
    obtain⟨x1,x2,x3⟩:=turnx (mk .done (some (.exit id))) hi3 hd3 hlt3
    exact⟨_,_,hr,.inr ⟨rfl,.exit id,x1,x3,x2⟩⟩
   | goto t=>
    obtain⟨hk3,hi3⟩:=hp
    obtain⟨hr,hd3,hlt3⟩:=fin (some (.goto t)) W3 hk3
    obtain⟨x1,x2,x3⟩:=turnx (mk .done (some (.goto t))) hi3 hd3 hlt3
    exact⟨_,_,hr,.inr ⟨rfl,.goto t,x1,x3,x2⟩⟩
   | panic ch=>exact hp.elim
   | outgrown=>exact hp.elim
  ·rintro e W2 ⟨⟨v,rfl⟩,(⟨hi,hl,hd⟩ | ⟨k,hk,c,hi,hl,hd⟩)⟩
   ·have he:=run_endLoop (P:=P) hl (by rw[hmk];simp[rec0])
    obtain⟨x1,x2,_⟩:=turn { mk .ready none with state:=.exhausted } hi hd (ltOf hl)
    refine⟨none,_,by rw[hmk] at he ⊢;exact he,hdone _ x1 x2⟩
   ·have he:=run_endLoop (P:=P) hl (by rw[hmk];simp[rec0])
    obtain⟨x1,x2,_⟩:=turnx { mk .done (some c) with state:=.exhausted } hi hd (ltOf hl)
    refine⟨some c,_,by rw[hmk] at he ⊢;exact he,hstop c k _ hk x1 x2⟩
theorem Zgc {P:Program} {n:Nat} {g:Operand} {ps:Array Tmp} {assign body:Code} {Q:Exit->Act->World->Prop} {a:Act} {w:World}
  {gf:Nat} {lb:Array Value} {f:Nat->Array Value} {N:Nat} {S T:Nat->Prop} (D:Nat) (hD:w.heap.size=D)
  (hg:a.eval g=.func (.func gf) #[] lb) (eg:∀ args w,(callFunc gf args).run P w=.ok (.enter gf args) w) (hps:∀ k,(f k).size=ps.size)
  (hit:Iter P gf lb f N S T w) (hSD:∀ b,S b->b<D) (hTD:T D/\T (D+1))
  (I:Nat->World->Prop) (Ix:Code->Nat->World->Prop)
  (hI:∀ k W1 W2,I k W1->Keeps (fun b=>T b/\b≠D/\b≠D+1) W1 W2->I k W2)
  (hIx:∀ c k W1 W2,Ix c k W1->Keeps (fun b=>T b/\b≠D/\b≠D+1) W1 W2->Ix c k W2)
  (h0:I 0 w) (a₁:Nat->Act)
  (hassign:∀ (l k:Nat) (W:World) (K:Act->World->Prop),K (a₁ k) W->
   assign.wpIn (Fence.wide.inRound l) (n-1-1) P (Exit.then K (fun _ _ _=>False)) { tmps:=(ps.zip (f k)).foldl (fun t (p,v)=>t.setIfInBounds p v) a.tmps,defers:=[] } W)
  (hbody:∀ (l k:Nat) (W:World),k<N->I k W->D+2<=W.heap.size->body.wpIn (Fence.wide.inRound l) (n-1-1) P (ZdT S D I Ix k W) (a₁ k) W)
  (hdone:∀ W:World,I N W->W.heap[D]?=some (.deferred (some []))->Q .normal { a with defers:={ target:=.collected D,args:=#[] }::a.defers } W)
  (hstop:∀ (c:Code) (k:Nat) (W:World),k<N->Ix c k W->W.heap[D]?=some (.deferred (some []))->c.wpIn Fence.wide n P Q { a with defers:={ target:=.collected D,args:=#[] }::a.defers } W) :
  (Code.rangeFunc g ps assign body).wpIn Fence.wide n P Q a w:=
 ZfZ D hD hg eg hps hit hSD hTD I Ix hI hIx h0 a₁ hassign (fun l k W h1 h2 h3 _=>hbody l k W h1 h2 h3) hdone hstop
theorem Zn {w:World} {b:Nat} {cs:Array Value} {T:TypeId} (h:w.heap[b]?=some (.cells cs T (0,0))) (j:Nat) {v:Value} (hv:cs[j]?=some v):w.cell? ⟨b,j,none⟩=some v:=by
 unfold World.cell?
 simp only[h]
 exact hv
theorem Zo {w:World} {b:Nat} {cs:Array Value} {T:TypeId} (h:w.heap[b]?=some (.cells cs T (0,0))) (j:Nat):w.frozen? ⟨b,j,none⟩=false:=by
 unfold World.frozen?
 simp only[h]
 simp
def Zv (B:Nat) (os:List Obj) (w:World):Prop:=B+os.length<=w.heap.size/\∀ i o,os[i]?=some o->w.heap[B+i]?=some o
theorem Zv.none (w:World):Zv w.heap.size [] w:=⟨Zc,fun i o h=>by simp at h⟩
theorem Zv.snoc {B:Nat} {os:List Obj} {w:World} (h:Zv B os w) (hs:w.heap.size=B+os.length) (o:Obj):Zv B (os++[o]) (w.alloc o):=by
 refine⟨by simp[hs];omega,fun i x hx=>?_⟩
 rcases ZoR i os.length with hi | hi
 ·rw[List.getElem?_append_left hi] at hx
  rw[Zo1 _ _ _ Za]
  exact h.2 i x hx
 ·rw[List.getElem?_append_right hi] at hx
  rcases Zo0 (i-os.length) with h0 | h0
  ·rw[h0] at hx
   simp at hx
   subst hx
   have e:B+i=w.heap.size:=Za
   rw[e]
   exact ZoO w _
  ·rw[List.getElem?_eq_none (by simp;omega)] at hx
   cases hx
theorem Zv.one (w:World) (o:Obj):Zv w.heap.size [o] (w.alloc o):=(Zv.none w).snoc Zc o
theorem Zv.two (w:World) (o p:Obj):Zv w.heap.size [o,p] ((w.alloc o).alloc p):=(Zv.one w o).snoc Zc p
theorem Zv.three (w:World) (o p q:Obj):Zv w.heap.size [o,p,q] (((w.alloc o).alloc p).alloc q):=(Zv.two w o p).snoc Zc q
theorem Zv.four (w:World) (o p q r:Obj):Zv w.heap.size [o,p,q,r] ((((w.alloc o).alloc p).alloc q).alloc r):=(Zv.three w o p q).snoc Zc r
theorem Zv.below {B C:Nat} {os:List Obj} {w w':World} (h:Zv B os w) (hb:Below C w w') (hC:B+os.length<=C):Zv B os w':=by
 refine⟨ZoU h.1 hb.size,fun i o ho=>?_⟩
 have hi:i<os.length:=by
  rcases ZoR i os.length with h1 | h1
  ·exact h1
  ·rw[List.getElem?_eq_none h1] at ho;cases ho
 rw[hb.block _ Za]
 exact h.2 i o ho
theorem Zv.keeps {B:Nat} {S:Nat->Prop} {os:List Obj} {w w':World} (h:Zv B os w) (hb:Keeps S w w') (hS:∀ i,i<os.length->S (B+i)):Zv B os w':=by
 refine⟨ZoU h.1 hb.size,fun i o ho=>?_⟩
 have hi:i<os.length:=by
  rcases ZoR i os.length with h1 | h1
  ·exact h1
  ·rw[List.getElem?_eq_none h1] at ho;cases ho
 rw[hb.block _ (by have:=h.1;omega) (hS i hi)]
 exact h.2 i o ho
theorem Zv.drew {B:Nat} {os:List Obj} {w:World} (h:Zv B os w):Zv B os w.drew:=h
theorem Zv.alloc {B:Nat} {os:List Obj} {w:World} (h:Zv B os w) (o:Obj):Zv B os (w.alloc o):=by
 refine⟨by have:=h.1;simp;omega,fun i x hx=>?_⟩
 have h1:=h.2 i x hx
 rw[Zo1 _ _ _ (Zpu h1)]
 exact h1
theorem Zv.block {B:Nat} {os:List Obj} {w:World} (h:Zv B os w) (i:Nat) {b:Nat} {o:Obj} (hb:b=B+i) (ho:os[i]?=some o):w.heap[b]?=some o:=by subst hb;exact h.2 i o ho
theorem Zv.cell {B:Nat} {os:List Obj} {w:World} (h:Zv B os w) (i j:Nat) {b:Nat} {cs:Array Value} {T:TypeId} {v:Value} (hb:b=B+i) (ho:os[i]?=some (.cells cs T (0,0))) (hv:cs[j]?=some v):w.cell? ⟨b,j,Option.none⟩=some v:=
 Zn (h.block i hb ho) j hv
theorem Zv.free {B:Nat} {os:List Obj} {w:World} (h:Zv B os w) (i j:Nat) {b:Nat} {cs:Array Value} {T:TypeId} (hb:b=B+i) (ho:os[i]?=some (.cells cs T (0,0))):w.frozen? ⟨b,j,Option.none⟩=false:=
 Zo (h.block i hb ho) j
theorem Zv.lt {B:Nat} {os:List Obj} {w:World} (h:Zv B os w):B+os.length<=w.heap.size:=h.1
theorem Zan {w:World} {b:Nat} {u0 u1:Value} {T:TypeId} (h:w.heap[b]?=some (.cells #[u0,u1] T (0,0))) (x y:Value) :
  ((w.setCell ⟨b,0,none⟩ x).setCell ⟨b,1,none⟩ y).heap[b]?=some (.cells #[x,y] T (0,0)):=
 ZoQ (ZoQ h x) y
theorem Zu {w:World} {b:Nat} {u0 u1:Value} {T:TypeId} (h:w.heap[b]?=some (.cells #[u0,u1] T (0,0))) (x y:Value) :
  ((w.setCell ⟨b,0,none⟩ x).setCell ⟨b,1,none⟩ y).cell? ⟨b,0,none⟩=some x/\((w.setCell ⟨b,0,none⟩ x).setCell ⟨b,1,none⟩ y).cell? ⟨b,1,none⟩=some y:=
 ⟨Zn (Zan h x y) 0 rfl,Zn (Zan h x y) 1 rfl⟩
theorem Zs {B:Nat} {w0 w:World} (h:Below B w0 w) {b:Nat} (hB:B<=b) (x y:Value):Below B w0 ((w.setCell ⟨b,0,none⟩ x).setCell ⟨b,1,none⟩ y):=
 (h.setCell (p:=⟨b,0,none⟩) hB x).setCell (p:=⟨b,1,none⟩) hB y
theorem Zed (w:World) (x y:Value) {b c:Nat} (h:c≠b) (j:Nat):((w.setCell ⟨b,0,none⟩ x).setCell ⟨b,1,none⟩ y).cell? ⟨c,j,none⟩=w.cell? ⟨c,j,none⟩:=
 (Zo3 (w:=w.setCell ⟨b,0,none⟩ x) (ZoN _ _ _ _ h)).trans (Zo3 (w:=w) (ZoN _ _ _ _ h))
theorem Zv.f4 {B:Nat} {a b c d:Value} {S T:TypeId} {os:List Obj} {w:World} (h:Zv B (.cells #[a,b] S (0,0)::.cells #[c,d] T (0,0)::os) w) :
  w.cell? ⟨B,0,Option.none⟩=some a/\w.cell? ⟨B,1,Option.none⟩=some b/\w.cell? ⟨B+1,0,Option.none⟩=some c/\w.cell? ⟨B+1,1,Option.none⟩=some d:=
 ⟨h.cell 0 0 rfl rfl rfl,h.cell 0 1 rfl rfl rfl,h.cell 1 0 rfl rfl rfl,h.cell 1 1 rfl rfl rfl⟩
theorem ZaW {w:World} {B C g:Nat} {a b c d:Value} (h1:B≠g) (h2:C≠g) (h:w.cell? ⟨B,0,none⟩=some a/\w.cell? ⟨B,1,none⟩=some b/\w.cell? ⟨C,0,none⟩=some c/\w.cell? ⟨C,1,none⟩=some d) (x y:Value) :
  ((w.setCell ⟨g,0,none⟩ x).setCell ⟨g,1,none⟩ y).cell? ⟨B,0,none⟩=some a/\((w.setCell ⟨g,0,none⟩ x).setCell ⟨g,1,none⟩ y).cell? ⟨B,1,none⟩=some b/\
   ((w.setCell ⟨g,0,none⟩ x).setCell ⟨g,1,none⟩ y).cell? ⟨C,0,none⟩=some c/\((w.setCell ⟨g,0,none⟩ x).setCell ⟨g,1,none⟩ y).cell? ⟨C,1,none⟩=some d:=
 ⟨(Zed _ _ _ h1 _).trans h.1,(Zed _ _ _ h1 _).trans h.2.1,(Zed _ _ _ h2 _).trans h.2.2.1,(Zed _ _ _ h2 _).trans h.2.2.2⟩
section
variable {α:Type} {k:Nat} {R:World->Nat->Nat->α->Prop} {w w':World} {v:Value} {xs:List α} {B:Nat}
def LL (k:Nat) (R:World->Nat->Nat->α->Prop) (w:World) (v:Value) (xs:List α):Prop:=
 ∃ p cap,v=.slice p xs.length cap/\xs.length<=cap/\cap<=maxLen/\(xs≠[]->∃ b off,p=some ⟨b,off,none⟩/\b<w.heap.size/\∀ j (h:j<xs.length),R w b (off+j*k) xs[j])
def ZeA (R:World->Nat->Nat->α->Prop):Prop:=∀ (w w':World) (b o:Nat) (x:α) (B:Nat),R w b o x->b<w.heap.size->Below B w w'->w.heap.size<=B->R w' b o x
theorem LL.after (hR:ZeA R) (h:LL k R w v xs) (hb:Below B w w') (hB:w.heap.size<=B):LL k R w' v xs:=by
 obtain⟨p,cap,h1,h2,h3,h4⟩:=h
 refine⟨p,cap,h1,h2,h3,fun hne=>?_⟩
 obtain⟨b,off,h5,h6,h7⟩:=h4 hne
 exact⟨b,off,h5,ZoS h6 hb.size,fun j hj=>hR w w' b _ _ B (h7 j hj) h6 hb hB⟩
theorem LL.nil (w:World):LL k R w (.slice none 0 0) []:=⟨none,0,rfl,Nat.le_refl _,by simp[maxLen],Zc⟩
theorem LL.shape (h:LL k R w v xs) {n:Nat} (hn:xs.length=n):∃ p c,v=.slice p n c/\n<=c/\c<=9223372036854775807:=by
 obtain⟨p,c,h1,h2,h3,_⟩:=h
 unfold maxLen at h3
 exact⟨p,c,by rw[<- hn];exact h1,Za,h3⟩
theorem LL.len {p:Option Addr} {n c:Nat} (h:LL k R w (.slice p n c) xs):xs.length=n:=by
 obtain⟨p',c',hv,_⟩:=h
 injection hv with e1 e2 e3
 exact e2.symm
theorem LL.at {p:Option Addr} {n cap:Nat} (hR:ZeA R) (h:LL k R w (.slice p n cap) xs) (hn:xs.length=n) (h0:0<n) :
  ∃ b off,p=some ⟨b,off,none⟩/\b<w.heap.size/\∀ W,Below w.heap.size w W->∀ j (hj:j<xs.length),R W b (off+j*k) xs[j]:=by
 obtain⟨p',c',hv,_,_,h4⟩:=h
 injection hv with e1 e2 e3
 obtain⟨b,off,rfl,hb,hat⟩:=h4 (ZoT Za)
 exact⟨b,off,e1,hb,fun W hW j hj=>hR w W b _ _ _ (hat j hj) hb hW ZpA⟩
end
def IntR (w:World) (b o:Nat) (x:Int):Prop:=w.cell? ⟨b,o,none⟩=some (.int .i64 x)
theorem IntR.stays:ZeA IntR:=fun w w' b o x B h hb hw hB=>(hw.cell (p:=⟨b,o,none⟩) (by show b<B;omega)).trans h
def InR {β:Type} (S:World->Value->β->Prop) (w:World) (b o:Nat) (x:β):Prop:=∃ v,w.cell? ⟨b,o,none⟩=some v/\S w v x
theorem InR.stays {β:Type} {S:World->Value->β->Prop} (hS:∀ (w w':World) (v:Value) (x:β) (B:Nat),S w v x->Below B w w'->w.heap.size<=B->S w' v x):ZeA (InR S):=fun w w' b o x B ⟨v,h1,h2⟩ hb hw hB=>
 ⟨v,(hw.cell (p:=⟨b,o,none⟩) (by show b<B;omega)).trans h1,hS w w' v x B h2 hw hB⟩
abbrev IL (w:World) (v:Value) (xs:List Int):Prop:=LL 1 IntR w v xs
theorem IL.stay (w w':World) (v:Value) (x:List Int) (B:Nat) (h:IL w v x) (hb:Below B w w') (hB:w.heap.size<=B):IL w' v x:=LL.after IntR.stays h hb hB
abbrev IIL (w:World) (v:Value) (xs:List (List Int)):Prop:=LL 1 (InR IL) w v xs
theorem IIL.stays:ZeA (InR IL):=InR.stays IL.stay
theorem IIL.stay2 {w w':World} {v:Value} {x:List (List Int)} {B:Nat} (h:IIL w v x) (hb:Below B w w') (hB:w.heap.size<=B):IIL w' v x:=LL.after IIL.stays h hb hB
end Go.Proofs.YtmpaflidennnoaaGreatDoor
namespace Go.Proofs.YtmpaflidennnoaaGreatDoor
open Go.Lib
def dg1 (c:UInt8):Nat:=c.toNat-48
def ZG (c:UInt8):Bool:=decide (48<=c.toNat/\c.toNat<=57)
def Zq (s:List UInt8):Nat:=s.foldl (fun a c=>a*10+dg1 c) 0
theorem Zjp (s:List UInt8):∀ a,s.foldl (fun a c=>a*10+dg1 c) a=a*10 ^ s.length+Zq s:=by
 unfold Zq
 induction s with
 | nil=>intro a;simp
 | cons c s ih=>
  intro a
  rw[List.foldl_cons,ih,List.foldl_cons,ih (0*10+dg1 c),Zpl,Zpi]
  grind
theorem Zb7:Zq []=0:=rfl
theorem Zcu (s t:List UInt8):Zq (s++t)=Zq s*10 ^ t.length+Zq t:=by
 show List.foldl _ 0 (s++t)=_
 rw[List.foldl_append,Zjp]
 rfl
theorem Zez (c:UInt8):Zq [c]=dg1 c:=by simp[Zq]
theorem Zef (s:List UInt8) (c:UInt8):Zq (s++[c])=Zq s*10+dg1 c:=by rw[Zcu,Zez];simp
theorem Zcp (c:UInt8) (s:List UInt8):Zq (c::s)=dg1 c*10 ^ s.length+Zq s:=by
 have:=Zcu [c] s
 rwa [Zez] at this
theorem Zil {c:UInt8} (h:ZG c=true):dg1 c<10:=by
 unfold ZG at h;unfold dg1
 have:=of_decide_eq_true h
 omega
theorem Zdd {d:Nat} (h:d<10):dg1 (UInt8.ofNat (48+d))=d/\ZG (UInt8.ofNat (48+d))=true:=by
 have:(UInt8.ofNat (48+d)).toNat=48+d:=by rw[UInt8.toNat_ofNat'];omega
 unfold dg1 ZG
 rw[this]
 exact⟨Za,by simp;omega⟩
theorem Zfm {c:UInt8} (h:ZG c=true):UInt8.ofNat (48+dg1 c)=c:=by
 have h1:=of_decide_eq_true h
 apply UInt8.toNat_inj.1
 rw[UInt8.toNat_ofNat']
 unfold dg1
 have:=c.toNat_lt
 omega
theorem Zb5 {s:List UInt8} (h:∀ c ∈ s,ZG c=true):Zq s<10 ^ s.length:=by
 induction s with
 | nil=>simp[Zq]
 | cons c s ih=>
  rw[Zcp,Zpl,Zpi]
  have h1:=Zil (h c Zc)
  have h2:=ih fun x hx=>h x (by simp[hx])
  have h3:dg1 c*10 ^ s.length<=9*10 ^ s.length:=Zpd _ Za
  omega
theorem Zaq {n:Nat} (h:n<10):decDigits n=[UInt8.ofNat (48+n)]:=by rw[decDigits,dif_pos h]
theorem ZaG {n:Nat} (h:10<=n):decDigits n=decDigits (n/10)++[UInt8.ofNat (48+n % 10)]:=by rw[decDigits,dif_neg Za]
theorem Zax (n:Nat):Zq (decDigits n)=n:=by
 induction n using Nat.strongRecOn with
 | _ n ih=>
  rcases ZoR n 10 with h | h
  ·rw[Zaq h,Zez];exact(Zdd h).1
  ·rw[ZaG h,Zef,ih (n/10) Za,(Zdd (Nat.mod_lt n Za)).1];omega
theorem ZdP (n:Nat):∀ c ∈ decDigits n,ZG c=true:=by
 induction n using Nat.strongRecOn with
 | _ n ih=>
  intro c hc
  rcases ZoR n 10 with h | h
  ·rw[Zaq h] at hc;have hc:=List.mem_singleton.1 hc;subst hc;exact(Zdd h).2
  ·rw[ZaG h] at hc
   rcases List.mem_append.1 hc with hc | hc
   ·exact ih (n/10) Za c hc
   ·have hc:=List.mem_singleton.1 hc;subst hc;exact(Zdd (Nat.mod_lt n Za)).2
theorem ZdU (n:Nat):decDigits n≠[]:=by
 rcases ZoR n 10 with h | h
 ·rw[Zaq h];simp
 ·rw[ZaG h];simp
theorem Zdk {n m:Nat} (h:decDigits n=decDigits m):n=m:=by
 have:=congrArg Zq h
 rwa [Zax,Zax] at this
theorem ZbD:decDigits 0=[48]:=by rw[Zaq Za];rfl
theorem Zcg:decDigits 1=[49]:=by rw[Zaq Za];rfl
theorem ZfS {α:Type} {s t:List α} (h:s≠[]):(s++t).head?=s.head?:=by
 cases s with
 | nil=>exact Zpp rfl h
 | cons c s=>rfl
theorem Zhf (n:Nat) (h:0<n):(decDigits n).head?≠some 48:=by
 induction n using Nat.strongRecOn with
 | _ n ih=>
  rcases ZoR n 10 with h1 | h1
  ·rw[Zaq h1]
   intro hc
   have hc:=ZoP hc
   have:=congrArg UInt8.toNat hc
   rw[UInt8.toNat_ofNat'] at this
   have h48:(48:UInt8).toNat=48:=rfl
   omega
  ·rw[ZaG h1]
   have:=ih (n/10) Za Za
   rwa [ZfS (ZdU _)]
structure Canon (s:List UInt8):Prop where
 dig:∀ c ∈ s,ZG c=true
 ne:s≠[]
 head:1<s.length->s.head?≠some 48
theorem ZcP (n:Nat):Canon (decDigits n):=by
 refine⟨ZdP n,ZdU n,fun h=>?_⟩
 rcases Zo0 n with h0 | h0
 ·subst h0;rw[ZbD] at h;simp at h
 ·exact Zhf n h0
theorem Zls {s:List UInt8} (hd:∀ c ∈ s,ZG c=true) (hn:s≠[]) (hh:s.head?≠some 48):0<Zq s:=by
 rcases s with _ | ⟨c,s⟩
 ·exact Zpp rfl hn
 ·rw[Zcp]
  have h1:ZG c=true:=hd c Zc
  have h2:dg1 c≠0:=by
   intro h0
   apply hh
   have:=Zfm h1
   rw[h0] at this
   rw[List.head?_cons,<- this]
   rfl
  have:0<dg1 c*10 ^ s.length:=Nat.mul_pos Za (Nat.pow_pos Za)
  omega
theorem Zk9 {α:Type} (s:List α) (h:s≠[]):∃ t c,s=t++[c]:=⟨s.dropLast,s.getLast h,(List.dropLast_concat_getLast h).symm⟩
theorem ZdX {s:List UInt8} (hd:∀ c ∈ s,ZG c=true) (hn:s≠[]) (hh:1<s.length->s.head?≠some 48):decDigits (Zq s)=s:=by
 induction hlen:s.length generalizing s with
 | zero=>exact Zpp (ZoX hlen) hn
 | succ k ih=>
  obtain⟨t,c,rfl⟩:=Zk9 s hn
  have hc:ZG c=true:=hd c Zc
  have ht:∀ x ∈ t,ZG x=true:=fun x hx=>hd x (by simp[hx])
  have hcl:=Zil hc
  rw[Zef]
  by_cases h0:t=[]
  ·subst h0
   rw[Zb7,Zaq Za]
   simp only[Nat.zero_mul,Nat.zero_add,Zps]
   rw[Zfm hc]
  ·have hlen2:1<(t++[c]).length:=by
    have:t.length≠0:=fun h=>h0 (ZoX h)
    rw[Zo2,List.length_singleton];omega
   have hh2:t.head?≠some 48:=by
    have:=hh hlen2
    rwa [ZfS h0] at this
   have hp:=Zls ht h0 hh2
   rw[ZaG Za,show (Zq t*10+dg1 c)/10=Zq t by omega,show (Zq t*10+dg1 c) % 10=dg1 c by omega,
    ih ht h0 (fun _=>hh2) (by simpa using hlen),Zfm hc]
theorem Canon.text {s:List UInt8} (h:Canon s):decDigits (Zq s)=s:=ZdX h.dig h.ne h.head
theorem Canon.eq {s t:List UInt8} (hs:Canon s) (ht:Canon t) (h:Zq s=Zq t):s=t:=by
 rw[<- hs.text,<- ht.text,h]
theorem Z3 {n k:Nat} (hk:0<k) (h:n<10 ^ k):(decDigits n).length<=k:=by
 induction k generalizing n with
 | zero=>omega
 | succ k ih=>
  rcases ZoR n 10 with h1 | h1
  ·rw[Zaq h1];simp
  ·rw[ZaG h1,Zo2,List.length_singleton]
   have hk0:0<k:=by
    rcases Zo0 k with h0 | h0
    ·subst h0;simp at h;omega
    ·exact h0
   have:=ih (n:=n/10) hk0 (by rw[Nat.div_lt_iff_lt_mul Za];rwa [Zpi] at h)
   omega
theorem ZeW (n:Nat):n<10 ^ (decDigits n).length:=by
 have:=Zb5 (ZdP n)
 rwa [Zax] at this
def fix:Nat->Nat->List UInt8
 | 0,_=>[]
 | k+1,n=>fix k (n/10)++[UInt8.ofNat (48+n % 10)]
theorem Zhd (h k l:Nat) (hh:0<h) (hl:l<10 ^ k):decDigits (h*10 ^ k+l)=decDigits h++fix k l:=by
 induction k generalizing l with
 | zero=>
  have:l=0:=by simpa using hl
  subst this
  simp[fix]
 | succ k ih=>
  have hp:0<10 ^ k:=Nat.pow_pos Za
  have h1:h*10 ^ (k+1)=h*10 ^ k*10:=by rw[Zpi];grind
  have h2:1<=h*10 ^ k:=Nat.mul_pos hh hp
  rw[ZaG Za,fix,show (h*10 ^ (k+1)+l)/10=h*10 ^ k+l/10 by omega,show (h*10 ^ (k+1)+l) % 10=l % 10 by omega,
   ih (l/10) (by rw[Nat.div_lt_iff_lt_mul Za];rwa [Zpi] at hl),List.append_assoc]
theorem ZmP (k:Nat):fix k 0=List.replicate k 48:=by
 induction k with
 | zero=>rfl
 | succ k ih=>rw[fix,Nat.zero_div,ih,List.replicate_succ'];rfl
theorem ZnJ (k l:Nat) (hk:0<k) (hl:l<10 ^ k):fix k l=List.replicate (k-(decDigits l).length) 48++decDigits l:=by
 induction k generalizing l with
 | zero=>omega
 | succ k ih=>
  rw[fix]
  rcases ZoR l 10 with h1 | h1
  ·rw[Nat.div_eq_of_lt h1,Nat.mod_eq_of_lt h1,ZmP,Zaq h1];simp
  ·have hk0:0<k:=by
    rcases Zo0 k with h0 | h0
    ·subst h0;simp at hl;omega
    ·exact h0
   rw[ih (l/10) hk0 (by rw[Nat.div_lt_iff_lt_mul Za];rwa [Zpi] at hl),ZaG h1,Zo2,List.append_assoc]
   simp only[List.length_singleton]
   congr 2
   omega
theorem Zdq (M:Nat) (hM:M<=18446744073709551615):∀ (s:List UInt8) (a:Nat),(∀ c ∈ s,ZG c=true)->a*10 ^ s.length+Zq s<=M->parseUintM M a s=.ok (a*10 ^ s.length+Zq s)
 | [],a,_,_=>by simp[parseUintM,Zq]
 | c::r,a,hd,hle=>by
  have hc:ZG c=true:=hd c Zc
  have hc1:=of_decide_eq_true hc
  have hp:0<10 ^ r.length:=Nat.pow_pos Za
  have he:a*10 ^ (c::r).length+Zq (c::r)=(a*10+dg1 c)*10 ^ r.length+Zq r:=by
   rw[Zcp,Zpl,Zpi];grind
  rw[he] at hle ⊢
  have h1:(a*10+dg1 c)*1<=(a*10+dg1 c)*10 ^ r.length:=Nat.mul_le_mul_left _ hp
  have h2:a*10+dg1 c<=M:=Za
  have h3:dg1 c=c.toNat-48:=rfl
  rw[parseUintM,if_pos hc1,if_neg Za,if_neg Za]
  exact Zdq M hM r _ (fun x hx=>hd x (by simp[hx])) hle
theorem ZfE {s:List UInt8} (hd:∀ c ∈ s,ZG c=true) (hn:s≠[]) (hl:s.length<=19):parseUintB 64 s=.ok (Zq s):=by
 rw[parseUintB,if_neg hn]
 have h1:=Zb5 hd
 have h2:10 ^ s.length<=10 ^ 19:=ZoW Za hl
 have:=Zdq (2 ^ 64-1) Za s 0 hd Za
 simpa using this
end Go.Proofs.YtmpaflidennnoaaGreatDoor
namespace Go.Proofs.YtmpaflidennnoaaGreatDoor
open Go.Lib
theorem Zy (s:ByteArray):s.data.toList.length=s.size:=rfl
def Zdx (l:List UInt8):Bool:=decide (l≠[]) && l.all ZG
def ZcD (l:List UInt8):Bool:=Zdx l && decide (1<l.length->l.head?≠some 48)
def ZU (l:List UInt8):Bool:=ZcD l && decide (l.length<=600)
theorem Zhb {l:List UInt8} (h:ZcD l=true):Canon l:=by
 unfold ZcD Zdx at h
 simp only[Zpj,Zpk,Zpo] at h
 exact⟨h.1.2,h.1.1,h.2⟩
theorem Zak {l:List UInt8} (h:ZU l=true):Canon l/\l.length<=600:=by
 unfold ZU at h
 simp only[Zpj,Zpk] at h
 exact⟨Zhb h.1,h.2⟩
theorem ZcZ {l:List UInt8} (h:Canon l) (hl:l.length<=600):ZU l=true:=by
 unfold ZU ZcD Zdx
 simp only[Zpj,Zpk,Zpo]
 exact⟨⟨⟨h.ne,h.dig⟩,h.head⟩,hl⟩
end Go.Proofs.YtmpaflidennnoaaGreatDoor
namespace Go.Proofs.YtmpaflidennnoaaGreatDoor
open Go.Lib
def numD (q:Rat):List UInt8:=decDigits q.num.toNat
def denD (q:Rat):List UInt8:=decDigits q.den
def Fits (q:Rat):Prop:=(numD q).length<=600/\(denD q).length<=600
def str (l:List UInt8):ByteArray:=⟨l.toArray⟩
theorem Zbv (l:List UInt8):(str l).data.toList=l:=by simp[str]
theorem Za1 (s:ByteArray):str s.data.toList=s:=by simp[str]
theorem Zkn {l m:List UInt8} (h:str l=str m):l=m:=by rw[<- Zbv l,h,Zbv]
theorem Zay (l:List UInt8):(str l).size=l.length:=by rw[<- Zy,Zbv]
structure IsP (q:Rat) (s t:ByteArray):Prop where
 nn:0<=q
 num:s=str (numD q)
 den:t=str (denD q)
 fits:Fits q
def okP (s t:ByteArray):Bool:=
 ZU s.data.toList && ZU t.data.toList && decide (0<Zq t.data.toList) && decide (Nat.gcd (Zq s.data.toList) (Zq t.data.toList)=1)
def ratP (s t:ByteArray):Rat:=mkRat (Zq s.data.toList:Nat) (Zq t.data.toList)
theorem Zh2 {n d:Nat} (hd:0<d) (hg:Nat.gcd n d=1):(mkRat (n:Nat) d).num=(n:Nat)/\(mkRat (n:Nat) d).den=d:=by
 have e:=Rat.mk_eq_mkRat (n:Nat) d Za (by simpa[Nat.Coprime] using hg)
 rw[<- e]
 exact⟨rfl,rfl⟩
theorem ZcF (n d:Nat):0<=mkRat (n:Nat) d:=by
 rw[Rat.mkRat_eq_div]
 rcases Zo0 d with h | h
 ·subst h
  have:((n:Nat):Int)/((0:Nat):Rat)=(0:Rat):=by rw[Rat.div_def];simp
  grind
 ·have h1:(0:Rat)<(d:Nat):=Rat.natCast_pos.2 h
  have h2:(0:Rat)<=((n:Nat):Int):=Rat.intCast_nonneg.2 Za
  rw[Rat.div_def]
  exact Rat.mul_nonneg h2 (Rat.le_of_lt (Rat.inv_pos.2 h1))
theorem Zc0 {s t:ByteArray} : okP s t=true<->ZU s.data.toList=true/\ZU t.data.toList=true/\0<Zq t.data.toList/\Nat.gcd (Zq s.data.toList) (Zq t.data.toList)=1:=by
 unfold okP
 simp only[Zpj,Zpk]
 exact⟨fun⟨⟨⟨a,b⟩,c⟩,d⟩=>⟨a,b,c,d⟩,fun⟨a,b,c,d⟩=>⟨⟨⟨a,b⟩,c⟩,d⟩⟩
theorem Zav {s t:ByteArray} (h:okP s t=true):IsP (ratP s t) s t:=by
 obtain⟨h1,h2,h3,h4⟩:=Zc0.1 h
 obtain⟨e1,e2⟩:=Zh2 h3 h4
 obtain⟨c1,l1⟩:=Zak h1
 obtain⟨c2,l2⟩:=Zak h2
 have n1:numD (ratP s t)=s.data.toList:=by
  unfold numD ratP
  rw[e1,Int.toNat_natCast,c1.text]
 have n2:denD (ratP s t)=t.data.toList:=by
  unfold denD ratP
  rw[e2,c2.text]
 exact⟨ZcF _ _,by rw[n1,Za1],by rw[n2,Za1],by rw[n1];exact l1,by rw[n2];exact l2⟩
theorem Zab {q:Rat} (h:0<=q):((q.num.toNat:Nat):Int)=q.num:=Int.toNat_of_nonneg (Rat.num_nonneg.2 h)
theorem IsP.vals {q:Rat} {s t:ByteArray} (h:IsP q s t):Zq s.data.toList=q.num.toNat/\Zq t.data.toList=q.den:=by
 rw[h.num,h.den,Zbv,Zbv]
 exact⟨Zax _,Zax _⟩
theorem IsP.ok {q:Rat} {s t:ByteArray} (h:IsP q s t):okP s t=true:=by
 obtain⟨e1,e2⟩:=h.vals
 refine Zc0.2 ⟨?_,?_,?_,?_⟩
 ·rw[h.num,Zbv];exact ZcZ (ZcP _) h.fits.1
 ·rw[h.den,Zbv];exact ZcZ (ZcP _) h.fits.2
 ·rw[e2];exact q.den_pos
 ·rw[e1,e2]
  have h1:Nat.gcd q.num.natAbs q.den=1:=q.reduced
  have h2:=Zab h.nn
  have h3:q.num.natAbs=q.num.toNat:=Za
  rwa [h3] at h1
theorem IsP.rat {q:Rat} {s t:ByteArray} (h:IsP q s t):ratP s t=q:=by
 obtain⟨e1,e2⟩:=h.vals
 unfold ratP
 rw[e1,e2,Zab h.nn,Rat.mkRat_self]
theorem Zm6 {a b:Rat} (ha:0<=a) (hb:0<=b) (h1:numD a=numD b) (h2:denD a=denD b):a=b:=by
 have e1:=Zdk h1
 have e2:=Zdk h2
 refine Rat.ext ?_ e2
 rw[<- Zab ha,<- Zab hb,e1]
theorem IsP.inj {a b:Rat} {s t u v:ByteArray} (ha:IsP a s t) (hb:IsP b u v) (h1:s=u) (h2:t=v):a=b:=by
 refine Zm6 ha.nn hb.nn (Zkn ?_) (Zkn ?_)
 ·rw[<- ha.num,<- hb.num,h1]
 ·rw[<- ha.den,<- hb.den,h2]
theorem IsP.same {a b:Rat} {s t u v:ByteArray} (ha:IsP a s t) (hb:IsP b u v) (h:a=b):s=u/\t=v:=by
 subst h
 exact⟨ha.num.trans hb.num.symm,ha.den.trans hb.den.symm⟩
def Ans (q:Rat) (s t:ByteArray) (e:Int):Prop:=(IsP q s t/\e=0)\/(¬ Fits q/\s=str []/\t=str []/\e=4)
theorem Ans.fit {q:Rat} {s t:ByteArray} {e:Int} (h:Ans q s t e) (hf:Fits q):IsP q s t/\e=0:=by
 rcases h with h | h
 ·exact h
 ·exact Zpp hf h.1
theorem Ans.zero {q:Rat} {s t:ByteArray} {e:Int} (h:Ans q s t e) (he:e=0):IsP q s t:=by
 rcases h with h | h
 ·exact h.1
 ·have:=h.2.2.2;omega
theorem Ans.det {q:Rat} {s t u v:ByteArray} {e f:Int} (h:Ans q s t e) (k:Ans q u v f):s=u/\t=v/\e=f:=by
 rcases h with ⟨h,rfl⟩ | ⟨h1,h2,h3,rfl⟩
 ·rcases k with ⟨k,rfl⟩ | ⟨k1,_⟩
  ·exact⟨(h.same k rfl).1,(h.same k rfl).2,rfl⟩
  ·exact Zpp h.fits k1
 ·rcases k with ⟨k,rfl⟩ | ⟨k1,k2,k3,rfl⟩
  ·exact Zpp k.fits h1
  ·exact⟨h2.trans k2.symm,h3.trans k3.symm,rfl⟩
theorem ZdN (n:Nat) {d:Nat} (hd:0<d):numD (mkRat (n:Nat) d)=decDigits (n/Nat.gcd n d)/\denD (mkRat (n:Nat) d)=decDigits (d/Nat.gcd n d):=by
 have h0:d≠0:=Za
 unfold numD denD
 rw[Rat.num_mkRat,Rat.den_mkRat,if_neg h0,if_neg h0,Int.natAbs_natCast,Nat.gcd_comm d n]
 refine⟨?_,rfl⟩
 congr 1
theorem Zla {n d k:Nat} (hd:0<d) (hn:n<10 ^ k) (hd':d<10 ^ k) (hk0:0<k) (hk:k<=600):Fits (mkRat (n:Nat) d):=by
 obtain⟨e1,e2⟩:=ZdN n hd
 unfold Fits
 rw[e1,e2]
 exact⟨ZoU (Z3 hk0 (Nat.lt_of_le_of_lt (Nat.div_le_self _ _) hn)) hk,ZoU (Z3 hk0 (Nat.lt_of_le_of_lt (Nat.div_le_self _ _) hd')) hk⟩
theorem IsP.lt {q:Rat} {s t:ByteArray} (h:IsP q s t):q.num.toNat<10 ^ s.size/\q.den<10 ^ t.size:=by
 rw[h.num,h.den,Zay,Zay]
 exact⟨ZeW _,ZeW _⟩
theorem Zl4 {a b:Rat} (ha:0<=a) (hb:0<=b):a+b=mkRat ((a.num.toNat*b.den+b.num.toNat*a.den:Nat):Int) (a.den*b.den):=by
 rw[Rat.add_def']
 congr 1
 rw[<- Zab ha,<- Zab hb]
 simp
theorem ZmH {a b:Rat} (ha:0<=a) (hb:0<=b):a*b=mkRat ((a.num.toNat*b.num.toNat:Nat):Int) (a.den*b.den):=by
 rw[Rat.mul_def']
 congr 1
 rw[<- Zab ha,<- Zab hb]
 simp
theorem Ze9 {a b:Rat} (ha:0<=a) (hb:0<=b):a<=b<->a.num.toNat*b.den<=b.num.toNat*a.den:=by
 rw[Rat.le_iff,<- Zab ha,<- Zab hb]
 simp only[Int.toNat_natCast]
 exact⟨fun h=>by exact_mod_cast h,fun h=>by exact_mod_cast h⟩
theorem ZiJ {a b:Rat} (ha:0<=a) (hb:0<=b):a<b<->a.num.toNat*b.den<b.num.toNat*a.den:=by
 rw[<- Rat.not_le,Ze9 hb ha];omega
theorem Zmn {a b:Rat} (ha:0<=a) (hb:0<=b):a=b<->a.num.toNat*b.den=b.num.toNat*a.den:=by
 constructor
 ·rintro rfl;rfl
 ·intro h
  exact Rat.le_antisymm ((Ze9 ha hb).2 Za) ((Ze9 hb ha).2 Za)
theorem ZlK {a b:Rat} (ha:0<=a) (hb:0<=b) (h:b<=a):a-b=mkRat ((a.num.toNat*b.den-b.num.toNat*a.den:Nat):Int) (a.den*b.den):=by
 have h1:=(Ze9 hb ha).1 h
 rw[Rat.sub_def']
 congr 1
 rw[<- Zab ha,<- Zab hb]
 simp only[Int.toNat_natCast]
 rw[Int.ofNat_sub h1]
 simp
theorem Zmh {a b:Rat} (ha:0<=a) (hb:0<b):a/b=mkRat ((a.num.toNat*b.den:Nat):Int) (a.den*b.num.toNat):=by
 have hb':=Rat.le_of_lt hb
 have h0:0<b.num.toNat:=by
  rcases Zo0 b.num.toNat with h | h
  ·exfalso
   have h2:=Zab hb'
   rw[h] at h2
   have h3:=Rat.num_eq_zero.1 h2.symm
   rw[h3] at hb
   exact Zpp hb Zd
  ·exact h
 have hA:a=mkRat ((a.num.toNat:Nat):Int) a.den:=by rw[Zab ha,Rat.mkRat_self]
 have hB:b=mkRat ((b.num.toNat:Nat):Int) b.den:=by rw[Zab hb',Rat.mkRat_self]
 generalize a.num.toNat=n at *
 generalize b.num.toNat=m at *
 have hda:=a.den_pos
 have hdb:=b.den_pos
 generalize a.den=d at *
 generalize b.den=f at *
 subst hA;subst hB
 rw[Rat.mkRat_eq_div,Rat.mkRat_eq_div,Rat.mkRat_eq_div]
 have h1:(0:Rat)<(d:Nat):=Rat.natCast_pos.2 hda
 have h2:(0:Rat)<(f:Nat):=Rat.natCast_pos.2 hdb
 have h3:(0:Rat)<(m:Nat):=Rat.natCast_pos.2 h0
 simp only[Rat.intCast_natCast,Rat.natCast_mul]
 generalize ((d:Nat):Rat)=x at *
 generalize ((f:Nat):Rat)=y at *
 generalize ((m:Nat):Rat)=z at *
 generalize ((n:Nat):Rat)=u at *
 have hx:x≠0:=Zk
 have hy:y≠0:=Zk
 have hz:z≠0:=Zk
 grind
end Go.Proofs.YtmpaflidennnoaaGreatDoor
namespace Go.Proofs.YtmpaflidennnoaaGreatDoor
open Go.Lib
def Sz (k:Nat) (q:Rat):Prop:=q.num.toNat<10 ^ k/\q.den<10 ^ k
theorem Zk3 (n:Nat) {d:Nat} (hd:0<d):(mkRat (n:Nat) d).num.toNat=n/Nat.gcd n d/\(mkRat (n:Nat) d).den=d/Nat.gcd n d:=by
 have h0:d≠0:=Za
 rw[Rat.num_mkRat,Rat.den_mkRat,if_neg h0,if_neg h0,Int.natAbs_natCast,Nat.gcd_comm d n]
 exact⟨rfl,rfl⟩
theorem Sz.mk {n d k:Nat} (hd:0<d) (h1:n<10 ^ k) (h2:d<10 ^ k):Sz k (mkRat (n:Nat) d):=by
 obtain⟨e1,e2⟩:=Zk3 n hd
 unfold Sz
 rw[e1,e2]
 exact⟨Nat.lt_of_le_of_lt (Nat.div_le_self _ _) h1,Nat.lt_of_le_of_lt (Nat.div_le_self _ _) h2⟩
theorem Sz.mono {k l:Nat} {q:Rat} (h:Sz k q) (hl:k<=l):Sz l q:=by
 have:=ZoW (n:=10) Za hl
 exact⟨ZoS h.1 this,ZoS h.2 this⟩
theorem Sz.fits {k:Nat} {q:Rat} (h:Sz k q) (h0:0<k) (hk:k<=600):Fits q:=
 ⟨ZoU (Z3 h0 h.1) hk,ZoU (Z3 h0 h.2) hk⟩
theorem IsP.sz {q:Rat} {s t:ByteArray} {k:Nat} (h:IsP q s t) (h1:s.size<=k) (h2:t.size<=k):Sz k q:=by
 have h3:=h.lt
 exact⟨ZoS h3.1 (ZoW Za h1),ZoS h3.2 (ZoW Za h2)⟩
theorem ZaS {a b k l:Nat} (h1:a<10 ^ k) (h2:b<10 ^ l):a*b<10 ^ (k+l):=by
 rw[Nat.pow_add]
 exact Nat.mul_lt_mul'' h1 h2
theorem Sz.mul {k l:Nat} {a b:Rat} (ha:0<=a) (hb:0<=b) (h1:Sz k a) (h2:Sz l b):Sz (k+l) (a*b):=by
 rw[ZmH ha hb]
 exact Sz.mk (Nat.mul_pos a.den_pos b.den_pos) (ZaS h1.1 h2.1) (ZaS h1.2 h2.2)
theorem Sz.add {k l:Nat} {a b:Rat} (ha:0<=a) (hb:0<=b) (h1:Sz k a) (h2:Sz l b):Sz (k+l+1) (a+b):=by
 rw[Zl4 ha hb]
 have e1:=ZaS h1.1 h2.2
 have e2:=ZaS h2.1 h1.2
 have e3:=ZaS h1.2 h2.2
 have e4:(10:Nat) ^ (k+l+1)=10 ^ (k+l)*10:=Zpi ..
 have e5:(10:Nat) ^ (l+k)=10 ^ (k+l):=by rw[Nat.add_comm]
 exact Sz.mk (Nat.mul_pos a.den_pos b.den_pos) Za Za
theorem Sz.sub {k l:Nat} {a b:Rat} (ha:0<=a) (hb:0<=b) (h:b<=a) (h1:Sz k a) (h2:Sz l b):Sz (k+l) (a-b):=by
 rw[ZlK ha hb h]
 have e1:=ZaS h1.1 h2.2
 have e3:=ZaS h1.2 h2.2
 exact Sz.mk (Nat.mul_pos a.den_pos b.den_pos) Za e3
theorem ZnH {b:Rat} (hb:0<b):0<b.num.toNat:=by
 rcases Zo0 b.num.toNat with h | h
 ·exfalso
  have h2:=Zab (Rat.le_of_lt hb)
  rw[h] at h2
  have h3:=Rat.num_eq_zero.1 h2.symm
  rw[h3] at hb
  exact Zpp hb Zd
 ·exact h
theorem Sz.div {k l:Nat} {a b:Rat} (ha:0<=a) (hb:0<b) (h1:Sz k a) (h2:Sz l b):Sz (k+l) (a/b):=by
 rw[Zmh ha hb]
 exact Sz.mk (Nat.mul_pos a.den_pos (ZnH hb)) (ZaS h1.1 h2.2) (ZaS h1.2 h2.1)
theorem ZeP {a b:Rat} (ha:0<=a) (hb:0<=b):0<=a/b:=by
 rcases Rat.le_iff_lt_or_eq.1 hb with h | h
 ·rw[Rat.div_def];exact Rat.mul_nonneg ha (Rat.le_of_lt (Rat.inv_pos.2 h))
 ·rw[<- h,Rat.div_def,Rat.inv_zero,Rat.mul_zero];exact Rat.le_refl
end Go.Proofs.YtmpaflidennnoaaGreatDoor
namespace Go.Proofs.YtmpaflidennnoaaGreatDoor
def slp (C H:Nat->Rat) (i:Nat):Rat:=(H (i+1)-H i)/(C (i+1)-C i)
structure Conc (n:Nat) (C H:Nat->Rat):Prop where
 two:2<=n
 c0:C 0=0
 h0:H 0=0
 top:∀ i,i<n->H i<=1
 up:∀ i,i+1<n->C i<C (i+1)/\H i<=H (i+1)
 conc:∀ i,i+2<n->slp C H (i+1)<=slp C H i
def slo (n:Nat) (C H:Nat->Rat) (i:Nat):Rat:=if i+1<n then slp C H i else 0
def lin (n:Nat) (C H:Nat->Rat) (i:Nat) (q:Rat):Rat:=H i+slo n C H i*(q-C i)
def Zbf (n:Nat) (C:Nat->Rat) (q:Rat) (i:Nat):Prop:=i<n/\(∀ j,j<i->C (j+1)<=q)/\(i+1<n->q<C (i+1))
theorem Zbf.unique {n:Nat} {C:Nat->Rat} {q:Rat} {i k:Nat} (h:Zbf n C q i) (g:Zbf n C q k):i=k:=by
 obtain⟨h1,h2,h3⟩:=h
 obtain⟨g1,g2,g3⟩:=g
 rcases Nat.lt_trichotomy i k with hl | hl | hl
 ·have a:=h3 Za
  have b:=g2 i hl
  grind
 ·exact hl
 ·have a:=g3 Za
  have b:=h2 k hl
  grind
theorem Zoa {C H:Nat->Rat} {i:Nat} (h:C i<C (i+1)):slp C H i*(C (i+1)-C i)=H (i+1)-H i:=by
 unfold slp
 have:C (i+1)-C i≠0:=Zk
 exact Rat.div_mul_cancel this
theorem ZlH {C H:Nat->Rat} {i:Nat} (h:C i<C (i+1)) (h2:H i<=H (i+1)):0<=slp C H i:=ZeP Zk Zk
theorem Conc.slo_nn {n:Nat} {C H:Nat->Rat} (h:Conc n C H) (i:Nat):0<=slo n C H i:=by
 unfold slo
 split
 ·rename_i hi
  exact ZlH (h.up i hi).1 (h.up i hi).2
 ·exact Rat.le_refl
theorem Conc.slo_down {n:Nat} {C H:Nat->Rat} (h:Conc n C H) {i:Nat} (hi:i+1<n):slo n C H (i+1)<=slo n C H i:=by
 by_cases h2:i+2<n
 ·unfold slo
  rw[if_pos Za,if_pos hi]
  exact h.conc i h2
 ·have e:slo n C H (i+1)=0:=by unfold slo;rw[if_neg Za]
  rw[e]
  exact h.slo_nn i
theorem Conc.meet {n:Nat} {C H:Nat->Rat} (h:Conc n C H) {i:Nat} (hi:i+1<n) (q:Rat):lin n C H i q=H (i+1)+slo n C H i*(q-C (i+1)):=by
 have e:slo n C H i=slp C H i:=by unfold slo;rw[if_pos hi]
 unfold lin
 rw[e]
 have:=Zoa (C:=C) (H:=H) (h.up i hi).1
 grind
theorem Zio {s t d:Rat} (h:s<=t) (hd:0<=d):s*d<=t*d:=Rat.mul_le_mul_of_nonneg_right h hd
theorem Conc.lin_up {n:Nat} {C H:Nat->Rat} (h:Conc n C H) {i:Nat} (hi:i+1<n) {q:Rat} (hq:q<=C (i+1)):lin n C H i q<=lin n C H (i+1) q:=by
 rw[h.meet hi]
 unfold lin
 have:=Zio (h.slo_down hi) (d:=C (i+1)-q) Zk
 grind
theorem Conc.lin_down {n:Nat} {C H:Nat->Rat} (h:Conc n C H) {i:Nat} (hi:i+1<n) {q:Rat} (hq:C (i+1)<=q):lin n C H (i+1) q<=lin n C H i q:=by
 rw[h.meet hi]
 unfold lin
 have:=Zio (h.slo_down hi) (d:=q-C (i+1)) Zk
 grind
theorem Conc.c_mono {n:Nat} {C H:Nat->Rat} (h:Conc n C H) {i:Nat} : ∀ d,i+d<n->C i<=C (i+d)
 | 0,_=>Rat.le_refl
 | d+1,hd=>Rat.le_trans (h.c_mono d Za) (Rat.le_of_lt (h.up (i+d) Za).1)
theorem Conc.h_mono {n:Nat} {C H:Nat->Rat} (h:Conc n C H) {i:Nat} : ∀ d,i+d<n->H i<=H (i+d)
 | 0,_=>Rat.le_refl
 | d+1,hd=>Rat.le_trans (h.h_mono d Za) (h.up (i+d) Za).2
theorem Conc.c_nn {n:Nat} {C H:Nat->Rat} (h:Conc n C H) {i:Nat} (hi:i<n):0<=C i:=by
 have:=h.c_mono (i:=0) i Za
 rw[Nat.zero_add,h.c0] at this
 exact this
theorem Conc.h_nn {n:Nat} {C H:Nat->Rat} (h:Conc n C H) {i:Nat} (hi:i<n):0<=H i:=by
 have:=h.h_mono (i:=0) i Za
 rw[Nat.zero_add,h.h0] at this
 exact this
theorem Conc.least {n:Nat} {C H:Nat->Rat} (h:Conc n C H) {q:Rat} {k:Nat} (hk:Zbf n C q k) {i:Nat} (hi:i<n):lin n C H k q<=lin n C H i q:=by
 obtain⟨h1,h2,h3⟩:=hk
 by_cases hl:k<=i
 ·have up:∀ d,k+d<n->lin n C H k q<=lin n C H (k+d) q:=fun d=>by
   induction d with
   | zero=>intro _;exact Rat.le_refl
   | succ d ih=>
    intro hd
    have a:=h3 Za
    have b:=h.c_mono (i:=k+1) d Za
    have e:k+1+d=k+d+1:=Za
    rw[e] at b
    exact Rat.le_trans (ih Za) (h.lin_up (i:=k+d) hd Zk)
  have:=up (i-k) Za
  rwa [Nat.add_sub_cancel' hl] at this
 ·have down:∀ d,i+d<=k->lin n C H (i+d) q<=lin n C H i q:=fun d=>by
   induction d with
   | zero=>intro _;exact Rat.le_refl
   | succ d ih=>
    intro hd
    exact Rat.le_trans (h.lin_down (i:=i+d) Za (h2 (i+d) Za)) (ih Za)
  have:=down (k-i) Za
  rwa [Nat.add_sub_cancel' Za] at this
theorem Zbf.low {n:Nat} {C H:Nat->Rat} {q:Rat} {k:Nat} (h:Conc n C H) (hk:Zbf n C q k) (hq:0<=q):C k<=q:=by
 match k,hk with
 | 0,_=>rw[h.c0];exact hq
 | k+1,hk=>exact hk.2.1 k Za
theorem Zbf.exists {n:Nat} {C:Nat->Rat} (q:Rat):∀ m,m<n->∃ k,Zbf (m+1) C q k
 | 0,_=>⟨0,Za,fun j h=>Za,fun h=>Za⟩
 | m+1,hm=>by
  obtain⟨k,h1,h2,h3⟩:=Zbf.exists (n:=n) (C:=C) q m Za
  by_cases hk:k+1<m+1
  ·exact⟨k,Za,h2,fun _=>h3 hk⟩
  ·obtain rfl:k=m:=Za
   by_cases hq:q<C (k+1)
   ·exact⟨k,Za,h2,fun _=>hq⟩
   ·refine⟨k+1,Za,fun j hj=>?_,fun h=>Za⟩
    by_cases hj2:j=k
    ·subst hj2;grind
    ·exact h2 j Za
def ZW (n:Nat) (C H:Nat->Rat) (q r:Rat):Prop:=∃ k,Zbf n C q k/\r=lin n C H k q
def Zfw (n:Nat) (C H:Nat->Rat) (q r:Rat):Prop:=∃ k,Zbf n C q k/\r=slo n C H k
theorem ZW.unique {n:Nat} {C H:Nat->Rat} {q r s:Rat} (h:ZW n C H q r) (g:ZW n C H q s):r=s:=by
 obtain⟨k,h1,h2⟩:=h
 obtain⟨m,g1,g2⟩:=g
 obtain rfl:=h1.unique g1
 rw[h2,g2]
theorem ZW.le {n:Nat} {C H:Nat->Rat} {q r:Rat} (h:Conc n C H) (hr:ZW n C H q r) {i:Nat} (hi:i<n):r<=lin n C H i q:=by
 obtain⟨k,hk,rfl⟩:=hr
 exact h.least hk hi
theorem ZW.top {n:Nat} {C H:Nat->Rat} {q r:Rat} (h:Conc n C H) (hr:ZW n C H q r):r<=1:=by
 have h2:=h.two
 have h1:=hr.le h (i:=n-1) Za
 have e:slo n C H (n-1)=0:=by unfold slo;rw[if_neg Za]
 unfold lin at h1
 rw[e] at h1
 have:=h.top (n-1) Za
 grind
theorem ZW.nn {n:Nat} {C H:Nat->Rat} {q r:Rat} (h:Conc n C H) (hq:0<=q) (hr:ZW n C H q r):0<=r:=by
 obtain⟨k,hk,rfl⟩:=hr
 have h1:=hk.low h hq
 have h2:=h.h_nn hk.1
 have h3:=Rat.mul_nonneg (h.slo_nn k) (b:=q-C k) Zk
 unfold lin
 grind
theorem ZW.mono {n:Nat} {C H:Nat->Rat} {a b x y:Rat} (h:Conc n C H) (hab:a<=b) (hx:ZW n C H a x) (hy:ZW n C H b y):x<=y:=by
 obtain⟨k,hk,rfl⟩:=hy
 have h1:=hx.le h hk.1
 have h3:=Rat.mul_nonneg (h.slo_nn k) (b:=b-a) Zk
 unfold lin at h1 ⊢
 grind
theorem ZW.most {n:Nat} {C H:Nat->Rat} {a b x y s:Rat} (h:Conc n C H) (hx:ZW n C H a x) (hs:Zfw n C H a s) (hy:ZW n C H b y):y-x<=s*(b-a):=by
 obtain⟨k,hk,rfl⟩:=hx
 obtain⟨m,hm,rfl⟩:=hs
 obtain rfl:=hk.unique hm
 have h1:=hy.le h hk.1
 unfold lin at h1 ⊢
 grind
theorem ZW.least {n:Nat} {C H:Nat->Rat} {a b x y t:Rat} (h:Conc n C H) (hx:ZW n C H a x) (hy:ZW n C H b y) (ht:Zfw n C H b t):t*(b-a)<=y-x:=by
 obtain⟨k,hk,rfl⟩:=hy
 obtain⟨m,hm,rfl⟩:=ht
 obtain rfl:=hk.unique hm
 have h1:=hx.le h hk.1
 unfold lin at h1 ⊢
 grind
end Go.Proofs.YtmpaflidennnoaaGreatDoor
