/- The parts Num, Alg, Base, Range, Boxes, LL. -/
import Derived.Tactics
import Derived.Calls
import Derived.KernelRfl
import Derived.Test.YtjmckebecpjjfaaGreatDoorChecked
import Derived.WalkKit
import Derived.WalkSpells
import Derived.WalkLawsBesides
import Derived.WalkSmall
import Derived.Lib.Hide
import Derived.Outline
import Derived.Carry
import Derived.OwnWalk
import Derived.Maps.AppendAt
import Derived.RangeFuncNested
import Derived.RangeFuncLeaves
import Derived.Lib.SmallJoins
set_option linter.unusedVariables false
set_option linter.unusedSimpArgs false
namespace Go.Proofs.YtjmckebecpjjfaaGreatDoor
open Go.RowKit
theorem Zl {α:Type} : (∀ {xs:List α} {i:Nat} (h:i<xs.toArray.size),xs.toArray[i]=xs[i]'(by simpa using h))/\(∀ {a:α} {l2:List α} {i:Nat} (h:i+1<(a::l2).length),(a::l2)[i+1]=l2[i]'(Nat.lt_of_succ_lt_succ h))/\(∀ {a:α} {l2:List α} (h:0<(a::l2).length),(a::l2)[0]=a)/\(∀ (l:List α) (i:Nat) (a:α),l.toArray.setIfInBounds i a=(l.set i a).toArray)/\(∀ {a b:α} {l2:List α},(a::l2).set 0 b=b::l2)/\(∀ {a b:α} {l2:List α} {n:Nat},(a::l2).set (n+1) b=a::l2.set n b):=⟨fun h=>List.getElem_toArray h,fun _=>rfl,fun _=>rfl,fun l i a=>List.setIfInBounds_toArray l i a,rfl,rfl⟩
theorem Zm {α:Type} : (∀ (l:List α) (i:Nat) (a:α),l.toArray.setIfInBounds i a=(l.set i a).toArray)/\(∀ {a b:α} {l2:List α},(a::l2).set 0 b=b::l2)/\(∀ {a b:α} {l2:List α} {n:Nat},(a::l2).set (n+1) b=a::l2.set n b):=⟨fun l i a=>List.setIfInBounds_toArray l i a,rfl,rfl⟩
theorem Za {p:Prop} (h:p:=by omega):p:=h
theorem Zb {p:Prop} (h:p:=by kernel_rfl):p:=h
theorem Zc {p:Prop} (h:p:=by simp):p:=h
theorem Zd {p:Prop} (h:p:=by decide):p:=h
theorem Ze {p:Prop} (h:p:=by go_simp;first | rfl | (rw[if_pos (by omega)])):p:=h
theorem Zf {p:Prop} (h:p:=by go_simp;rfl):p:=h
theorem Zg {p:Prop} (h:p:=by simp only[Act.put,Zm];go_simp;first | rfl | (rw[if_pos (by omega)])):p:=h
theorem Zh {p:Prop} (h:p:=by simp only[Act.put,Zm];go_simp;rfl):p:=h
theorem Zi {p:Prop} (h:p:=by intro _ _ o _ _ h;cases o<;>exact h):p:=h
theorem Zj {p:Prop} (h:p:=by simp[intOf];omega):p:=h
theorem Zk {p:Prop} (h:p:=by grind):p:=h
abbrev ZpU:=@Array.getElem?_eq_some_iff
abbrev ZpV:=@Below.refl
abbrev ZpW:=@bodyPost_ret
abbrev ZpX:=@Below.heap_setCell
abbrev ZpY:=@World.alloc_heap_new
abbrev ZpZ:=@Option.some.inj
abbrev Zp0:=@Joins.block_setCell
abbrev Zp1:=@Nat.lt_or_ge
abbrev Zp2:=@Nat.lt_of_lt_of_le
abbrev Zp3:=@List.ne_nil_of_length_pos
abbrev Zp4:=@Nat.le_trans
abbrev Zp5:=@List.take_of_length_le
abbrev Zp6:=@Nat.pow_le_pow_right
abbrev Zp7:=@List.eq_nil_of_length_eq_zero
abbrev Zp8:=@Nat.zero_le
abbrev Zp9:=@World.ownsRow.lt
abbrev Zqa:=@Nat.eq_zero_or_pos
abbrev Zqb:=@Below.heap_alloc
abbrev Zqc:=@List.length_append
abbrev Zqd:=@World.cell?_of_block
abbrev Zqe:=@World.putObj_heap_other
abbrev Zqf:=@World.block_lt_of_cell?
abbrev Zqg:=@List.getElem?_eq_getElem
abbrev Zqh:=@Nat.mul_comm
abbrev Zqi:=@ByteArray.toList_eq
abbrev Zqj:=@List.getElem?_eq_some_iff
abbrev Zqk:=@World.size_alloc
abbrev Zql:=@Nat.not_lt_zero
abbrev Zqm:=@List.getElem_mem
abbrev Zqn:=@Nat.mul_le_mul_right
abbrev Zqo:=@Nat.add_sub_cancel
abbrev Zqp:=@callsIn_wide
abbrev Zqq:=@wpList_append_own
abbrev Zqr:=@Nat.le_of_lt
abbrev Zqs:=@Nat.pow_succ
abbrev Zqt:=@Bool.and_eq_true
abbrev Zqu:=@decide_eq_true_eq
abbrev Zqv:=@List.length_cons
abbrev Zqw:=@List.all_eq_true
abbrev Zqx:=@absurd
abbrev Zqy:=@And.intro
abbrev Zqz:=@List.length_take
abbrev ZqA:=@List.nil_append
theorem ZqC {α:Type} {l:Array α} {i:Nat} {a:α} (h:l[i]?=some a):i<l.size:=(Array.getElem?_eq_some_iff.1 h).1
abbrev ZqD:ByteArray:=⟨#[]⟩
abbrev ZqE (s t:ByteArray):Value:=.agg #[.string s,.string t]
abbrev ZqB (w x:World):Prop:=Hid (Below w.heap.size w x)
abbrev ZqF (s t:ByteArray):Obj:=.cells #[.string s,.string t] 39
theorem ZqG {α:Type} : (∀ (l:List α),l.toArray.size=l.length)/\(∀ (a:α) (l:List α),(a::l).length=l.length+1)/\([]:List α).length=0/\(∀ (n:Nat) (a:α),Array.replicate (n+1) a=(Array.replicate n a).push a)/\(∀ a:α,Array.replicate 0 a = #[])/\(∀ (l:List α) (a:α),l.toArray.push a=(l++[a]).toArray)/\(∀ (a b:List α),a.toArray++b.toArray=(a++b).toArray)/\(∀ l:List α,[]++l=l)/\∀ (a:α) (l m:List α),a::l++m=a::(l++m):=⟨fun _=>rfl,fun _ _=>rfl,rfl,fun _ _=>Array.replicate_succ,fun _=>rfl,fun _ _=>by simp,fun _ _=>by simp,fun _=>rfl,fun _ _ _=>rfl⟩
theorem ZqH {p:Prop} (h:p):Hid p:=Lib.hid h
theorem ZqI {n:Nat} : n<=n:=Nat.le_refl n
theorem ZqJ {α:Type} (a:α):∃ z,a=z:=⟨_,rfl⟩
def val (B:Nat):List Nat->Nat
 | []=>0
 | x::l=>x+B*val B l
theorem ZgL (B x:Nat) (l:List Nat):val B (x::l)=x+B*val B l:=rfl
theorem ZbR (B:Nat) (l m:List Nat):val B (l++m)=val B l+B ^ l.length*val B m:=by
 induction l with
 | nil=>simp[val]
 | cons x l ih=>
  simp only[List.cons_append,val,ih,Zqv,Zqs]
  grind
theorem Zc5 (B:Nat) (l:List Nat) (x:Nat):val B (l++[x])=val B l+B ^ l.length*x:=by
 rw[ZbR];simp[val]
theorem Z4 {B:Nat} {l:List Nat} (h:∀ x ∈ l,x<B):val B l<B ^ l.length:=by
 induction l with
 | nil=>simp[val]
 | cons x l ih=>
  have h1:=ih (fun y hy=>h y (by simp[hy]))
  have h2:=h x Zc
  simp only[val,Zqv,Zqs]
  have h3:=Nat.mul_le_mul_left B (Nat.succ_le_of_lt h1)
  have h4:B*(val B l).succ=B*val B l+B:=Nat.mul_succ _ _
  rw[Zqh (B ^ l.length) B]
  omega
theorem Ze3 (B k:Nat):val B (List.replicate k 0)=0:=by
 induction k with
 | zero=>rfl
 | succ k ih=>simp[List.replicate_succ,val,ih]
theorem Zhx {B:Nat} {l:List Nat} (h:∀ x ∈ l,x=0):val B l=0:=by
 induction l with
 | nil=>rfl
 | cons x l ih=>simp[val,h x Zc,ih (fun y hy=>h y (by simp[hy]))]
theorem Zfa (B:Nat) (l:List Nat) (k:Nat) (hk:k<=l.length):val B l=val B (l.take k)+B ^ k*val B (l.drop k):=by
 have h:=ZbR B (l.take k) (l.drop k)
 rw[List.take_append_drop,Zqz,Nat.min_eq_left hk] at h
 exact h
theorem Zcx (B:Nat) (l:List Nat) (k:Nat) (hk:k<l.length):val B (l.take (k+1))=val B (l.take k)+B ^ k*l[k]:=by
 rw[List.take_succ_eq_append_getElem hk,Zc5,Zqz,Nat.min_eq_left (Zqr hk)]
theorem Zeu (B:Nat) (l:List Nat) (k:Nat) (hk:k<l.length):val B (l.drop k)=l[k]+B*val B (l.drop (k+1)):=by
 rw[List.drop_eq_getElem_cons hk];rfl
def Zp (B n:Nat):List Nat:=
 if _h:n=0\/B<=1 then [] else n % B::Zp B (n/B)
 termination_by n
 decreasing_by exact Nat.div_lt_self Za Za
theorem ZL (B:Nat):Zp B 0=[]:=by rw[Zp];simp
theorem ZbJ {B n:Nat} (hB:1<B) (hn:0<n):Zp B n=n % B::Zp B (n/B):=by
 rw[Zp,dif_neg Za]
theorem ZO {B:Nat} (hB:1<B) (n:Nat):val B (Zp B n)=n:=by
 induction n using Nat.strongRecOn with
 | _ n ih=>
  by_cases hn:n=0
  ·subst hn;rw[ZL];rfl
  ·rw[ZbJ hB Za,ZgL,ih _ (Nat.div_lt_self Za hB)]
   exact Nat.mod_add_div n B
theorem ZR {B:Nat} (hB:1<B) (n:Nat):∀ x ∈ Zp B n,x<B:=by
 induction n using Nat.strongRecOn with
 | _ n ih=>
  by_cases hn:n=0
  ·subst hn;rw[ZL];simp
  ·rw[ZbJ hB Za]
   intro x hx
   rcases List.mem_cons.1 hx with rfl | hx
   ·exact Nat.mod_lt _ Za
   ·exact ih _ (Nat.div_lt_self Za hB) x hx
theorem Zfm {B:Nat} (hB:1<B) {n:Nat} : Zp B n=[]<->n=0:=by
 constructor
 ·intro h
  have:=ZO hB n
  rw[h] at this
  exact this.symm
 ·rintro rfl;exact ZL B
theorem Zbe {B:Nat} (hB:1<B) {n:Nat} : 0<(Zp B n).length<->0<n:=by
 rw[List.length_pos_iff,ne_eq,Zfm hB];omega
theorem Zg6 {B:Nat} (hB:1<B) (n:Nat):(Zp B n).getLast?≠some 0:=by
 induction n using Nat.strongRecOn with
 | _ n ih=>
  by_cases hn:n=0
  ·subst hn;rw[ZL];simp
  ·rw[ZbJ hB Za]
   by_cases h0:n/B=0
   ·rw[h0,ZL]
    have:n<B:=(Nat.div_eq_zero_iff_lt Za).1 h0
    simp[Nat.mod_eq_of_lt this,hn]
   ·have h1:=ih _ (Nat.div_lt_self Za hB)
    cases h2:Zp B (n/B) with
    | nil=>exact Zqx ((Zfm hB).1 h2) h0
    | cons y l=>rw[h2] at h1;simpa[List.getLast?_cons] using h1
theorem Zfe {B:Nat} (hB:1<B):∀ {l:List Nat},(∀ x ∈ l,x<B)->l.getLast?≠some 0->Zp B (val B l)=l
 | [],_,_=>ZL B
 | x::l,h,hl=>by
  have hx:=h x Zc
  have hlt:∀ y ∈ l,y<B:=fun y hy=>h y (by simp[hy])
  cases l with
  | nil=>
   have hx0:x≠0:=by simpa using hl
   simp only[val,Nat.mul_zero,Nat.add_zero]
   rw[ZbJ hB Za,Nat.mod_eq_of_lt hx,Nat.div_eq_of_lt hx,ZL]
  | cons y l=>
   have ih:=Zfe hB hlt (by simpa[List.getLast?_cons] using hl)
   have hv:0<val B (y::l):=by
    rw[<- Zbe hB,ih];simp
   have hpos:0<x+B*val B (y::l):=Zp2 (Nat.mul_pos Za hv) (Nat.le_add_left _ _)
   rw[ZgL,ZbJ hB hpos,Nat.add_mul_mod_self_left,Nat.mod_eq_of_lt hx,Nat.add_mul_div_left _ _ Za,Nat.div_eq_of_lt hx,Nat.zero_add,ih]
theorem Za0 {B:Nat} (hB:1<B) {n k:Nat} (h:n<B ^ k):(Zp B n).length<=k:=by
 induction k generalizing n with
 | zero=>
  have:n=0:=by simpa using h
  subst this;rw[ZL];simp
 | succ k ih=>
  by_cases hn:n=0
  ·subst hn;rw[ZL];simp
  ·rw[ZbJ hB Za,Zqv]
   have:n/B<B ^ k:=by
    rw[Nat.div_lt_iff_lt_mul Za];rwa [Zqs] at h
   have:=ih this
   omega
theorem Zho {B:Nat} (hB:1<B) {n k:Nat} (h:B ^ k<=n):k<(Zp B n).length:=by
 rcases Zp1 k (Zp B n).length with h' | h'
 ·exact h'
 ·have h1:=Z4 (ZR hB n)
  rw[ZO hB] at h1
  have:=Zp6 (show 0<B by omega) h'
  omega
theorem Zas {B:Nat} (hB:1<B) {m n:Nat} (h:m<=n):(Zp B m).length<=(Zp B n).length:=by
 refine Za0 hB ?_
 have h1:=Z4 (ZR hB n)
 rw[ZO hB] at h1
 omega
theorem ZdW {B:Nat} (hB:1<B) {m n:Nat} (h:(Zp B m).length<(Zp B n).length):m<n:=by
 rcases Zp1 m n with h' | h'
 ·exact h'
 ·have:=Zas hB h'
  omega
theorem Ze9 {B:Nat} {l m:List Nat} {k:Nat} (hl:∀ x ∈ l,x<B) (hk:k<l.length) (hkm:l.length=m.length)
  (heq:l.drop (k+1)=m.drop (k+1)) (h:l[k]<m[k]'Za):val B l<val B m:=by
 rw[Zfa B l (k+1) Za,Zfa B m (k+1) Za,heq,Zcx B l k hk,Zcx B m k Za]
 have h1:val B (l.take k)<B ^ k:=by
  have:=Z4 (B:=B) (l:=l.take k) (fun x hx=>hl x (List.mem_of_mem_take hx))
  rwa [Zqz,Nat.min_eq_left Za] at this
 have h2:B ^ k*l[k]+B ^ k<=B ^ k*m[k]'Za:=by
  have:=Nat.mul_le_mul_left (B ^ k) (Nat.succ_le_of_lt h)
  rwa [Nat.mul_succ] at this
 omega
theorem ZU (B:Nat) (l:List Nat) (k:Nat):val B (l.take (k+1))=val B (l.take k)+B ^ k*l.getD k 0:=by
 rcases Zp1 k l.length with h | h
 ·rw[Zcx B l k h];simp[List.getD,h]
 ·rw[Zp5 Za,Zp5 h];simp[List.getD,h]
theorem ZM {B:Nat} (hB:0<B) {l:List Nat} (h:∀ x ∈ l,x<B) (k:Nat):l.getD k 0<B:=by
 rcases Zp1 k l.length with h' | h'
 ·simp only[List.getD,Zqg h',Option.getD_some];exact h _ (Zqm h')
 ·simp only[List.getD,List.getElem?_eq_none h',Option.getD_none];exact hB
theorem Zdc {B:Nat} {l:List Nat} {x:Nat} (h:∀ y ∈ l,y<B) (hx:x<B):∀ y ∈ l++[x],y<B:=by
 intro y hy
 rcases List.mem_append.1 hy with h' | h'
 ·exact h y h'
 ·simp at h';omega
theorem Zdw {B:Nat} {l:List Nat} {x j:Nat} (h:∀ y ∈ l,y<B) (hx:x<B):∀ y ∈ l.set j x,y<B:=by
 intro y hy
 rcases List.mem_or_eq_of_mem_set hy with h' | h'
 ·exact h y h'
 ·omega
theorem ZhR (B:Nat) (l:List Nat) (j v:Nat) (hj:j<l.length):val B (l.set j v)+B ^ j*l[j]=val B l+B ^ j*v:=by
 induction l generalizing j with
 | nil=>simp at hj
 | cons x l ih=>
  cases j with
  | zero=>simp[val];omega
  | succ j=>
   have h:=ih j (by simpa using hj)
   simp only[List.set_cons_succ,val,List.getElem_cons_succ,Zqs]
   grind
structure PlusInv (B:Nat) (n m:List Nat) (k:Nat) (o:List Nat) (c:Nat):Prop where
 len:o.length=k
 lt:∀ x ∈ o,x<B
 carry:c<=1
 eq:val B o+B ^ k*c=val B (n.take k)+val B (m.take k)
theorem PlusInv.start (B:Nat) (n m:List Nat):PlusInv B n m 0 [] 0:=⟨rfl,Zc,Za,by simp[val]⟩
theorem PlusInv.step {B:Nat} (hB:1<B) {n m:List Nat} (hn:∀ x ∈ n,x<B) (hm:∀ x ∈ m,x<B) {k:Nat} {o:List Nat} {c:Nat}
  (h:PlusInv B n m k o c) {x:Nat} (hx:x=n.getD k 0+c+m.getD k 0):PlusInv B n m (k+1) (o++[x % B]) (x/B):=by
 have h1:=ZM Za hn k
 have h2:=ZM Za hm k
 have h3:=h.carry
 have hx2:x<2*B:=Za
 refine⟨by simp[h.len],Zdc h.lt (Nat.mod_lt _ Za),?_,?_⟩
 ·have:x/B<2:=Nat.div_lt_of_lt_mul Za
  omega
 ·rw[Zc5,h.len,ZU,ZU,Zqs]
  have h4:=h.eq
  have h5:=Nat.mod_add_div x B
  generalize x % B=r at *
  generalize x/B=q at *
  have h6:B ^ k*r+B ^ k*B*q=B ^ k*x:=by rw[<- h5];grind
  have h7:B ^ k*x=B ^ k*n.getD k 0+B ^ k*c+B ^ k*m.getD k 0:=by rw[hx];grind
  omega
theorem PlusInv.done {B:Nat} {n m:List Nat} {o:List Nat} {c:Nat} (h:PlusInv B n m n.length o c) (hl:m.length<=n.length) :
  val B (o++[c])=val B n+val B m:=by
 have:=h.eq
 rw[Zp5 ZqI,Zp5 hl] at this
 rw[Zc5,h.len,this]
structure MinusInv (B:Nat) (n m:List Nat) (k:Nat) (o:List Nat) (b:Nat):Prop where
 len:o.length=k
 lt:∀ x ∈ o,x<B
 borrow:b<=1
 eq:val B o+val B (m.take k)=val B (n.take k)+B ^ k*b
theorem MinusInv.start (B:Nat) (n m:List Nat):MinusInv B n m 0 [] 0:=⟨rfl,Zc,Za,by simp[val]⟩
theorem MinusInv.done {B:Nat} {n m:List Nat} {o:List Nat} {b:Nat} (h:MinusInv B n m n.length o b) (hl:m.length<=n.length) (hle:val B m<=val B n) :
  val B o=val B n-val B m:=by
 have h1:=h.eq
 rw[Zp5 ZqI,Zp5 hl] at h1
 have h2:=Z4 h.lt
 rw[h.len] at h2
 have h3:=h.borrow
 rcases Zp1 0 b with hb | hb
 ·have:b=1:=Za
  subst this
  omega
 ·have:b=0:=Za
  subst this
  omega
structure TimesInv (B:Nat) (L i:Nat) (p x:Nat) (m:List Nat) (k:Nat) (o:List Nat) (c:Nat):Prop where
 len:o.length=L
 lt:∀ y ∈ o,y<B
 carry:c<B
 zero:∀ j,i+m.length<=j->o.getD j 0=0
 eq:val B o+B ^ (i+k)*c=p+B ^ i*(x*val B (m.take k))
theorem TimesInv.step {B:Nat} (hB:1<B) {L i p x:Nat} {m:List Nat} (hm:∀ y ∈ m,y<B) (hx:x<B) {k:Nat} {o:List Nat} {c:Nat}
  (h:TimesInv B L i p x m k o c) (hk:k<m.length) (hL:i+m.length<=L) {s:Nat} (hs:s=c+o.getD (i+k) 0+x*m.getD k 0) :
  TimesInv B L i p x m (k+1) (o.set (i+k) (s % B)) (s/B):=by
 have h1:=ZM Za h.lt (i+k)
 have h2:=ZM Za hm k
 have h3:=h.carry
 have hlen:=h.len
 have hmul:x*m.getD k 0<=(B-1)*(B-1):=Nat.mul_le_mul Za Za
 have hBB:(B-1)*(B-1)+2*(B-1)+1=B*B:=by
  obtain⟨d,rfl⟩:∃ d,B=d+1:=⟨B-1,Za⟩
  simp only[Zqo];grind
 have hsB:s<B*B:=Za
 refine⟨by simp[hlen],Zdw h.lt (Nat.mod_lt _ Za),Nat.div_lt_of_lt_mul hsB,?_,?_⟩
 ·intro j hj
  have:=h.zero j hj
  simp only[List.getD,List.getElem?_set] at this ⊢
  rw[if_neg Za];exact this
 ·have hij:i+k<o.length:=Za
  have h5:=ZhR B o (i+k) (s % B) hij
  have h6:o.getD (i+k) 0=o[i+k]:=by simp[List.getD,hij]
  rw[h6] at hs h1
  have h7:=Nat.mod_add_div s B
  have h8:=h.eq
  rw[ZU,show i+(k+1)=i+k+1 from rfl,Zqs]
  generalize s % B=r at *
  generalize s/B=q at *
  generalize val B (o.set (i+k) r)=V at *
  generalize val B o=W at *
  generalize o[i+k]=z at *
  generalize val B (m.take k)=M at *
  generalize m.getD k 0=y at *
  rw[Nat.pow_add] at *
  generalize B ^ i=I at *
  generalize B ^ k=K at *
  have h9:I*K*r+I*K*B*q=I*K*s:=by rw[<- h7];grind
  have h10:I*K*s=I*K*c+I*K*z+I*K*(x*y):=by rw[hs];grind
  have h11:I*(x*(M+K*y))=I*(x*M)+I*K*(x*y):=Zk
  rw[h11]
  omega
structure RowsInv (B:Nat) (L:Nat) (n m:List Nat) (i:Nat) (o:List Nat):Prop where
 len:o.length=L
 lt:∀ y ∈ o,y<B
 zero:∀ j,i+m.length<=j->o.getD j 0=0
 eq:val B o=val B (n.take i)*val B m
theorem RowsInv.start {B:Nat} (hB:1<B) (L:Nat) (n m:List Nat):RowsInv B L n m 0 (List.replicate L 0):=by
 refine⟨Zc,fun y hy=>?_,fun j _=>?_,?_⟩
 ·have:=(List.mem_replicate.1 hy).2;omega
 ·simp only[List.getD,List.getElem?_replicate];split<;>rfl
 ·simp[Ze3,val]
theorem RowsInv.inner {B:Nat} (hB:1<B) {L:Nat} {n m:List Nat} {i:Nat} {o:List Nat} (h:RowsInv B L n m i o) (x:Nat) :
  TimesInv B L i (val B (n.take i)*val B m) x m 0 o 0:=
 ⟨h.len,h.lt,Za,h.zero,by simp[h.eq,val]⟩
theorem RowsInv.step {B:Nat} {L:Nat} {n m:List Nat} {i x:Nat} {o:List Nat} {c:Nat} (hL:i+m.length<L) (hx:x=n.getD i 0)
  (h:TimesInv B L i (val B (n.take i)*val B m) x m m.length o c):RowsInv B L n m (i+1) (o.set (i+m.length) c):=by
 have hlen:=h.len
 refine⟨by simp[hlen],Zdw h.lt h.carry,?_,?_⟩
 ·intro j hj
  have:=h.zero j Za
  simp only[List.getD,List.getElem?_set] at this ⊢
  rw[if_neg Za];exact this
 ·have h1:=ZhR B o (i+m.length) c Za
  have h2:=h.zero (i+m.length) ZqI
  have h3:o[i+m.length]'Za=0:=by
   simpa[List.getD,Zqg (show i+m.length<o.length by omega)] using h2
  rw[h3] at h1
  have h4:=h.eq
  rw[Zp5 (Nat.le_refl m.length)] at h4
  rw[ZU,<- hx]
  have h5:(val B (n.take i)+B ^ i*x)*val B m=val B (n.take i)*val B m+B ^ i*(x*val B m):=Zk
  rw[h5]
  omega
theorem RowsInv.done {B:Nat} {L:Nat} {n m:List Nat} {o:List Nat} (h:RowsInv B L n m n.length o):val B o=val B n*val B m:=by
 have:=h.eq
 rwa [Zp5 ZqI] at this
structure ShortInv (B:Nat) (n:List Nat) (d:Nat) (k:Nat) (o:List Nat) (r:Nat):Prop where
 len:o.length=n.length
 lt:∀ y ∈ o,y<B
 rest:r<d
 eq:val B (n.drop k)=val B (o.drop k)*d+r
theorem ShortInv.start {B:Nat} (hB:1<B) (n:List Nat) {d:Nat} (hd:0<d):ShortInv B n d n.length (List.replicate n.length 0) 0:=by
 refine⟨Zc,fun y hy=>?_,hd,by simp[val]⟩
 have:=(List.mem_replicate.1 hy).2;omega
theorem ShortInv.step {B:Nat} {n:List Nat} (hn:∀ y ∈ n,y<B) {d k:Nat} {o:List Nat} {r:Nat} (h:ShortInv B n d (k+1) o r) (hk:k<n.length) {s:Nat} (hs:s=r*B+n.getD k 0) :
  ShortInv B n d k (o.set k (s/d)) (s % d):=by
 have hlen:=h.len
 have h1:=h.rest
 have h2:n.getD k 0<B:=by simp only[List.getD,Zqg hk,Option.getD_some];exact hn _ (Zqm hk)
 have hq:s/d<B:=by
  refine Nat.div_lt_of_lt_mul ?_
  have:(r+1)*B<=d*B:=Zqn _ Za
  rw[Nat.add_mul] at this
  omega
 refine⟨by simp[hlen],Zdw h.lt hq,Nat.mod_lt _ Za,?_⟩
 have hk':k<(o.set k (s/d)).length:=by simp;omega
 rw[Zeu B n k hk,Zeu B _ k hk',h.eq]
 have h3:(o.set k (s/d)).drop (k+1)=o.drop (k+1):=by
  rw[List.drop_set,if_pos Za]
 have h4:(o.set k (s/d))[k]=s/d:=Zc
 rw[h3,h4]
 have h5:n.getD k 0=n[k]:=by simp[List.getD,hk]
 rw[h5] at hs
 have h6:=Nat.mod_add_div s d
 generalize s % d=q at *
 generalize s/d=t at *
 generalize val B (o.drop (k+1))=V at *
 have h7:n[k]+B*(V*d+r)=s+B*(V*d):=by rw[hs];grind
 rw[h7,<- h6]
 grind
theorem ShortInv.done {B:Nat} {n:List Nat} {d:Nat} {o:List Nat} {r:Nat} (h:ShortInv B n d 0 o r):val B o=val B n/d/\r=val B n % d:=by
 have h1:=h.eq
 have h2:=h.rest
 simp only[List.drop_zero] at h1
 constructor
 ·rw[h1,Zqh,Nat.mul_add_div Za,Nat.div_eq_of_lt h2];rfl
 ·rw[h1,Zqh,Nat.mul_add_mod,Nat.mod_eq_of_lt h2]
def lim (xs:List Nat) (i:Nat):Nat:=xs.getD i 0
def At (k:IntKind) (w:World) (b off:Nat) (xs:List Nat):Prop:=∀ j (h:j<xs.length),w.cell? ⟨b,off+j,none⟩=some (.int k (xs[j]:Nat))
theorem At.below {k:IntKind} {B:Nat} {w w':World} {b off:Nat} {xs:List Nat} (h:At k w b off xs) (hb:Below B w w') (hB:b<B):At k w' b off xs:=
 fun j hj=>(hb.cell (p:=⟨b,off+j,none⟩) hB).trans (h j hj)
theorem At.getD {k:IntKind} {w:World} {b off:Nat} {xs:List Nat} (h:At k w b off xs) {j x:Nat} (hj:j<xs.length) (hx:xs.getD j 0=x):w.cell? ⟨b,off+j,none⟩=some (.int k (x:Nat)):=by
 rw[h j hj];subst hx;simp[List.getD,hj]
def Nums (k:IntKind) (w:World) (v:Value) (xs:List Nat):Prop:=
 ∃ p cap,v=.slice p xs.length cap/\xs.length<=cap/\cap<=maxLen/\(xs≠[]->∃ b off,p=some ⟨b,off,none⟩/\b<w.heap.size/\At k w b off xs)
theorem Nums.below {k:IntKind} {B:Nat} {w w':World} {v:Value} {xs:List Nat} (h:Nums k w v xs) (hb:Below B w w') (hB:w.heap.size<=B):Nums k w' v xs:=by
 obtain⟨p,cap,h1,h2,h3,h4⟩:=h
 refine⟨p,cap,h1,h2,h3,fun hne=>?_⟩
 obtain⟨b,off,h5,h6,h7⟩:=h4 hne
 exact⟨b,off,h5,Zp2 h6 hb.size,h7.below hb Za⟩
theorem Nums.nil (k:IntKind) (w:World):Nums k w (.slice none 0 0) []:=⟨none,0,rfl,Nat.le_refl _,by simp[maxLen],Zc⟩
def Row (k:IntKind) (E:TypeId) (w:World) (B g cap:Nat) (xs:List Nat):Prop:=
 w.ownsRow B E 1 (.slice (some ⟨g,0,none⟩) xs.length cap) xs.length (xs.map fun x=>Value.int k (x:Nat))
section
variable {k:IntKind} {E:TypeId} {w:World} {B g cap:Nat} {xs:List Nat}
theorem Row.cell (h:Row k E w B g cap xs) {j x:Nat} (hj:j<xs.length) (hx:xs.getD j 0=x):w.cell? ⟨g,j,none⟩=some (.int k (x:Nat)):=by
 have:=World.ownsRow.cellAt h j Za
 rw[this];subst hx;simp[List.getD,hj]
theorem Row.at (h:Row k E w B g cap xs):At k w g 0 xs:=fun j hj=>by
 rw[Nat.zero_add];exact h.cell hj (by simp[List.getD,hj])
theorem Row.frozen (h:Row k E w B g cap xs) (j:Nat):w.frozen? ⟨g,j,none⟩=false:=World.ownsRow.frozenAt h j
theorem Row.lt (h:Row k E w B g cap xs):B<=g/\g<w.heap.size:=Zp9 h g (by simp[Value.ownBlock])
theorem Row.cap_le (h:Row k E w B g cap xs):xs.length<=cap/\cap<=maxLen:=by
 rcases h.2 with ⟨h',_⟩ | ⟨g',cap',cur,h',_,_,h5,h6,_⟩
 ·simp at h'
 ·simp only[Value.slice.injEq,Option.some.injEq,Addr.mk.injEq,and_true,true_and] at h'
  obtain⟨rfl,rfl⟩:=h'
  exact⟨h5,h6⟩
theorem Row.set (h:Row k E w B g cap xs) (j v:Nat):Row k E (w.setCell ⟨g,j,none⟩ (.int k (v:Nat))) B g cap (xs.set j v):=by
 have:=(World.ownsRow.stored h j (.int k (v:Nat))).1
 unfold Row
 rw[List.length_set,List.map_set]
 exact this
theorem Row.kept {w':World} (h:Row k E w B g cap xs) (hb:w'.heap[g]?=w.heap[g]?):Row k E w' B g cap xs:=by
 obtain⟨h1,h2⟩:=h
 refine⟨h1,?_⟩
 rcases h2 with ⟨h',_⟩ | ⟨g',cap',cur,h',h3,h4,h5⟩
 ·simp at h'
 ·simp only[Value.slice.injEq,Option.some.injEq,Addr.mk.injEq,and_true,true_and] at h'
  obtain⟨rfl,rfl⟩:=h'
  exact .inr ⟨g,cap,cur,rfl,h3,by rw[hb];exact h4,h5⟩
theorem Row.below {w':World} {C:Nat} (h:Row k E w B g cap xs) (hb:Below C w w') (hC:g<C):Row k E w' B g cap xs:=h.kept (hb.block g hC)
theorem Row.alloc (h:Row k E w B g cap xs) (o:Obj):Row k E (w.alloc o) B g cap xs:=World.ownsRow.alloc h o
theorem Row.drew (h:Row k E w B g cap xs):Row k E w.drew B g cap xs:=h
theorem Row.setOther (h:Row k E w B g cap xs) {a:Addr} (ha:a.block≠g) (v:Value):Row k E (w.setCell a v) B g cap xs:=h.kept (ZpX w a v g (Ne.symm ha))
theorem Row.grown {w':World} {row:Option Nat} (h:Row k E w B g cap xs) (hg:w.grownBy w' row) (hr:row≠some g):Row k E w' B g cap xs:=h.kept (hg.block g h.lt.2 (Ne.symm hr))
theorem Row.nums (h:Row k E w B g cap xs):Nums k w (.slice (some ⟨g,0,none⟩) xs.length cap) xs:=
 ⟨_,cap,rfl,h.cap_le.1,h.cap_le.2,fun _=>⟨g,0,rfl,h.lt.2,h.at⟩⟩
theorem Row.take (h:Row k E w B g cap xs) (n:Nat):Row k E w B g cap (xs.take n):=by
 obtain⟨h1,h2⟩:=h
 rcases h2 with ⟨h',_⟩ | ⟨g',cap',cur,h',h3,h4,h5,h6,h7,h8⟩
 ·simp at h'
 ·simp only[Value.slice.injEq,Option.some.injEq,Addr.mk.injEq,and_true,true_and] at h'
  obtain⟨rfl,rfl⟩:=h'
  refine⟨Zc,.inr ⟨g,cap,cur,rfl,h3,h4,?_,h6,h7,?_⟩⟩
  ·rw[Zqz];omega
  ·rw[List.map_take,<- h8,List.take_take,Zqz]
   congr 1;omega
end
theorem Row.own {k:IntKind} {E:TypeId} {w:World} {B g cap n:Nat} {xs:List Nat} (h:Row k E w B g cap xs) (hn:xs.length=n) :
  w.ownsRow B E 1 (.slice (some ⟨g,0,none⟩) n cap) n (xs.map fun x=>Value.int k (x:Nat)):=by subst hn;exact h
theorem Row.made {k:IntKind} {E:TypeId} {w:World} {B g cap:Nat} (h:w.ownsRow B E 1 (.slice (some ⟨g,0,none⟩) 0 cap) 0 []):Row k E w B g cap []:=h
theorem Row.full {k:IntKind} {E:TypeId} {w:World} {B g n:Nat} (h:w.ownsRow B E 1 (.slice (some ⟨g,0,none⟩) n n) n (madeCells #[Value.int k 0] n).toList):Row k E w B g n (List.replicate n 0):=by
 unfold Row
 have e:(madeCells #[Value.int k 0] n).toList=(List.replicate n 0).map fun x:Nat=>Value.int k (x:Nat):=by
  have:=toList_madeCells_one (Value.int k 0) n
  rw[List.map_replicate];exact this
 rw[<- e,List.length_replicate]
 exact h
theorem Row.snoc {k:IntKind} {E:TypeId} {w:World} {B g cap n x:Nat} {xs:List Nat} {y:Int} (hn:n=xs.length) (hy:y=(x:Nat))
  (h:w.ownsRow B E 1 (.slice (some ⟨g,0,none⟩) (n+1) cap) (n+1) ((xs.map fun x=>Value.int k (x:Nat))++[.int k y])):Row k E w B g cap (xs++[x]):=by
 subst hn;subst hy
 unfold Row
 rw[Zqc,List.map_append]
 exact h
theorem ZdM:(Tryz.prog.info? 146).map (fun i=>(i.zero,i.size,i.bytes))=some (some (.int .u64 0),1,8):=Zb
structure Keeps (S:Nat->Prop) (w w':World):Prop where
 os:w'.os=w.os
 tape:w'.tape=w.tape
 output:w'.output=w.output
 size:w.heap.size<=w'.heap.size
 block:∀ k,k<w.heap.size->S k->w'.heap[k]?=w.heap[k]?
section
variable {S S':Nat->Prop} {a w w':World}
theorem Keeps.refl (S:Nat->Prop) (w:World):Keeps S w w:=⟨rfl,rfl,rfl,Nat.le_refl _,fun _ _ _=>rfl⟩
theorem Keeps.trans (h:Keeps S a w) (k:Keeps S w w'):Keeps S a w':=
 ⟨k.os.trans h.os,k.tape.trans h.tape,k.output.trans h.output,Zp4 h.size k.size,fun i hi hs=>(k.block i (Zp2 hi h.size) hs).trans (h.block i hi hs)⟩
theorem Keeps.mono (h:Keeps S w w') (hs:∀ b,b<w.heap.size->S' b->S b):Keeps S' w w':=⟨h.os,h.tape,h.output,h.size,fun k hk hk'=>h.block k hk (hs k hk hk')⟩
theorem Keeps.alloc (h:Keeps S a w) (o:Obj):Keeps S a (w.alloc o):=
 h.trans ⟨rfl,rfl,rfl,Zc,fun k hk _=>Zqb _ _ _ hk⟩
theorem Keeps.drew (h:Keeps S a w):Keeps S a w.drew:=⟨h.os,h.tape,h.output,h.size,h.block⟩
theorem Keeps.setCell (h:Keeps S a w) {p:Addr} (hp:¬ S p.block) (u:Value):Keeps S a (w.setCell p u):=
 h.trans ⟨rfl,rfl,rfl,by simp[World.setCell],fun k _ hs=>ZpX _ _ _ _ (fun e=>hp (by rw[<- e];exact hs))⟩
theorem Keeps.putObj (h:Keeps S a w) {r:Nat} (hr:¬ S r) (o:Obj):Keeps S a (w.putObj r o):=
 h.trans ⟨rfl,rfl,rfl,Zc,fun _ _ hs=>Zqe (fun e=>hr (by rw[<- e];exact hs))⟩
theorem Keeps.below {B:Nat} (h:Keeps S a w) (hb:Below B w w') (hB:∀ b,b<w.heap.size->S b->b<B):Keeps S a w':=
 h.trans ⟨hb.os,hb.tape,hb.output,hb.size,fun k hk hs=>hb.block k (hB k hk hs)⟩
theorem Keeps.grown {row:Option Nat} (h:Keeps S a w) (hg:w.grownBy w' row) (hr:∀ r,row=some r->¬ S r):Keeps S a w':=
 h.trans ⟨hg.os,hg.tape,hg.output,hg.size,fun k hk hs=>hg.block k hk (fun e=>hr k e.symm hs)⟩
theorem Keeps.cell (h:Keeps S w w') {p:Addr} (hp:p.block<w.heap.size) (hs:S p.block):w'.cell? p=w.cell? p:=Zqd (w:=w) (h.block _ hp hs)
theorem Keeps.frozen (h:Keeps S w w') {p:Addr} (hp:p.block<w.heap.size) (hs:S p.block):w'.frozen? p=w.frozen? p:=World.frozen?_of_block (w:=w) (h.block _ hp hs)
theorem Keeps.cellAt (h:Keeps S w w') {p:Addr} {v:Value} (hc:w.cell? p=some v) (hs:S p.block):w'.cell? p=some v:=(h.cell (Zqf w p hc) hs).trans hc
theorem Below.keeps {B:Nat} (h:Below B w w'):Keeps (fun b=>b<B) w w':=⟨h.os,h.tape,h.output,h.size,fun k _ hs=>h.block k hs⟩
end
theorem ZP (w:World) (cs:Array Value) (T:TypeId) {b:Nat} (j:Nat) (hb:b=w.heap.size):(w.alloc (.cells cs T)).cell? ⟨b,j,none⟩=cs[j]?:=by
 subst hb
 have h:(w.alloc (.cells cs T)).heap[w.heap.size]?=some (.cells cs T):=ZpY w _
 unfold World.cell?
 simp only[h]
 rfl
theorem Zcq (w:World) (cs:Array Value) (T:TypeId) {b:Nat} (j:Nat) (hb:b=w.heap.size):(w.alloc (.cells cs T)).frozen? ⟨b,j,none⟩=false:=by
 subst hb
 have h:(w.alloc (.cells cs T)).heap[w.heap.size]?=some (.cells cs T):=ZpY w _
 unfold World.frozen?
 simp only[h]
 simp
theorem Z8 (w:World) (o:Obj) {b:Nat} (j:Nat) (hb:b<w.heap.size):(w.alloc o).cell? ⟨b,j,none⟩=w.cell? ⟨b,j,none⟩:=
 Zqd (w:=w) (Zqb w o b hb)
theorem ZcL (w:World) (o:Obj) {b:Nat} (j:Nat) (hb:b<w.heap.size):(w.alloc o).frozen? ⟨b,j,none⟩=w.frozen? ⟨b,j,none⟩:=
 World.frozen?_of_block (w:=w) (Zqb w o b hb)
def Iter (P:Program) (gf:Nat) (lb:Array Value) (f:Nat->Array Value) (N:Nat) (S T:Nat->Prop) (w0:World):Prop:=
 ∀ (n l:Nat) (J Jx:Nat->World->Prop) (W:World),Keeps S w0 W->
  (∀ k W1 W2,J k W1->Keeps T W1 W2->J k W2)->(∀ k W1 W2,Jx k W1->Keeps T W1 W2->Jx k W2)->
  (∀ k W1,k<N->J k W1->YieldAt Fence.wide (n-1) P l (f k) W1 fun e W'=>(e=.returned (.bool true)/\J (k+1) W'/\Keeps S W1 W')\/(e=.returned (.bool false)/\Jx k W'))->
  J 0 W->CallsIn Fence.wide n P gf (#[.func (.yield l) #[] #[]]++lb) W fun e W'=>(∃ v,e=.returned v)/\(J N W'\/∃ k,k<N/\Jx k W')
def ZjU (S:Nat->Prop) (D:Nat) (I:Nat->World->Prop) (Ix:Code->Nat->World->Prop) (k:Nat) (W:World):Exit->Act->World->Prop
 | .normal,_,W'=>Keeps (fun b=>S b\/b=D\/b=D+1) W W'/\I (k+1) W'
 | .ret,_,W'=>Keeps (fun b=>S b\/b=D\/b=D+1) W W'/\Ix .ret k W'
 | .exit id,_,W'=>Keeps (fun b=>S b\/b=D\/b=D+1) W W'/\Ix (.exit id) k W'
 | .goto t,_,W'=>Keeps (fun b=>S b\/b=D\/b=D+1) W W'/\Ix (.goto t) k W'
 | .panic _,_,_=>False
 | .outgrown,_,_=>False
theorem Zgx {P:Program} {n:Nat} {g:Operand} {ps:Array Tmp} {assign body:Code} {Q:Exit->Act->World->Prop} {a:Act} {w:World}
  {gf:Nat} {lb:Array Value} {f:Nat->Array Value} {N:Nat} {S T:Nat->Prop} (D:Nat) (hD:w.heap.size=D)
  (hg:a.eval g=.func (.func gf) #[] lb) (eg:∀ args w,(callFunc gf args).run P w=.ok (.enter gf args) w) (hps:∀ k,(f k).size=ps.size)
  (hit:Iter P gf lb f N S T w) (hSD:∀ b,S b->b<D) (hTD:T D/\T (D+1))
  (I:Nat->World->Prop) (Ix:Code->Nat->World->Prop)
  (hI:∀ k W1 W2,I k W1->Keeps (fun b=>T b/\b≠D/\b≠D+1) W1 W2->I k W2)
  (hIx:∀ c k W1 W2,Ix c k W1->Keeps (fun b=>T b/\b≠D/\b≠D+1) W1 W2->Ix c k W2)
  (h0:I 0 w) (a₁:Nat->Act)
  (hassign:∀ (l k:Nat) (W:World) (K:Act->World->Prop),K (a₁ k) W->
   assign.wpIn (Fence.wide.inRound l) (n-1-1) P (Exit.then K (fun _ _ _=>False)) { tmps:=(ps.zip (f k)).foldl (fun t (p,v)=>t.setIfInBounds p v) a.tmps,defers:=[] } W)
  (hbody:∀ (l k:Nat) (W:World),k<N->I k W->D+2<=W.heap.size->(W.heap[D]?=some (.deferred (some []))/\∃ l',W.heap[D+1]?=some (.loop l'))->body.wpIn (Fence.wide.inRound l) (n-1-1) P (ZjU S D I Ix k W) (a₁ k) W)
  (hdone:∀ W:World,I N W->W.heap[D]?=some (.deferred (some []))->Q .normal { a with defers:={ target:=.collected D,args:=#[] }::a.defers } W)
  (hstop:∀ (c:Code) (k:Nat) (W:World),k<N->Ix c k W->W.heap[D]?=some (.deferred (some []))->c.wpIn Fence.wide n P Q { a with defers:={ target:=.collected D,args:=#[] }::a.defers } W) :
  (Code.rangeFunc g ps assign body).wpIn Fence.wide n P Q a w:=by
 subst hD
 refine wpIn_rangeFunc fun fn _=>?_
 let rec0:LoopState->Option Code->Loop:=fun st pe=>{ state:=st,pending:=pe,fn,tmps:=a.tmps,params:=ps,assign,body,defers:=w.heap.size }
 obtain⟨mk,hmk⟩:∃ mk:LoopState->Option Code->Loop,mk=rec0:=⟨_,rfl⟩
 obtain⟨W1,hW1⟩:=ZqJ ((w.alloc (.deferred (some []))).alloc (.loop (mk .ready none)))
 have hrec1:W1.heap[w.heap.size+1]?=some (.loop (mk .ready none)):=by
  have:=ZpY (w.alloc (.deferred (some []))) (.loop (mk .ready none))
  rwa [Zqk,hW1] at this
 have hdef1:W1.heap[w.heap.size]?=some (.deferred (some [])):=by
  rw[<- hW1];exact(Zqb _ _ _ Zc).trans (ZpY w _)
 have keepAny:∀ S':Nat->Prop,Keeps S' w W1:=fun S'=>by rw[<- hW1];exact((Keeps.refl S' w).alloc _).alloc _
 refine⟨w.heap.size+1,[{ target:=.collected w.heap.size,args:=#[] }],W1,{ target:=.fn (.func gf) lb,args:=#[.func (.yield (w.heap.size+1)) #[] #[]] },W1,gf,
  #[.func (.yield (w.heap.size+1)) #[] #[]]++lb,W1,?_,?_,fun _ _=>trivial,?_,(fun h=>by cases h),?_⟩
 ·rw[<- hW1,hmk];exact run_enterLoop_outer _ _ _ _ _
 ·simp only[resolve,hg]
  simp[go_sem]
 ·simp[invoke,go_sem,eg]
 ·-- the record between two rounds,and when one has said 'no more'
  have turn:∀ {k:Nat} {W2:World} (l:Loop),I k W2->W2.heap[w.heap.size]?=some (.deferred (some []))->w.heap.size+1<W2.heap.size->
    I k (W2.putObj (w.heap.size+1) (.loop l))/\(W2.putObj (w.heap.size+1) (.loop l)).heap[w.heap.size]?=some (.deferred (some []))/\(W2.putObj (w.heap.size+1) (.loop l)).heap[w.heap.size+1]?=some (.loop l):=
   fun l hi hd hlt=>⟨hI _ _ _ hi ((Keeps.refl _ _).putObj (fun h=>h.2.2 rfl) _),(Zqe Za).trans hd,World.putObj_heap_same hlt⟩
  have turnx:∀ {c:Code} {k:Nat} {W2:World} (l:Loop),Ix c k W2->W2.heap[w.heap.size]?=some (.deferred (some []))->w.heap.size+1<W2.heap.size->
    Ix c k (W2.putObj (w.heap.size+1) (.loop l))/\(W2.putObj (w.heap.size+1) (.loop l)).heap[w.heap.size]?=some (.deferred (some []))/\(W2.putObj (w.heap.size+1) (.loop l)).heap[w.heap.size+1]?=some (.loop l):=
   fun l hi hd hlt=>⟨hIx _ _ _ _ hi ((Keeps.refl _ _).putObj (fun h=>h.2.2 rfl) _),(Zqe Za).trans hd,World.putObj_heap_same hlt⟩
  have ltOf:∀ {W2:World} {o:Obj},W2.heap[w.heap.size+1]?=some o->w.heap.size+1<W2.heap.size:=fun h=>(ZqC h)
  have stay:∀ {k:Nat} {A B:World} {l:Loop},(A.heap[w.heap.size+1]?=some (.loop l)/\A.heap[w.heap.size]?=some (.deferred (some [])))->Keeps T A B->
    B.heap[w.heap.size+1]?=some (.loop l)/\B.heap[w.heap.size]?=some (.deferred (some [])):=fun {k A B l} h hk=>
   ⟨(hk.block _ (ltOf h.1) hTD.2).trans h.1,(hk.block _ (by have:=ltOf h.1;omega) hTD.1).trans h.2⟩
  refine(hit (n-1) (w.heap.size+1)
   (fun k W=>I k W/\(W.heap[w.heap.size+1]?=some (.loop (mk .ready none))/\W.heap[w.heap.size]?=some (.deferred (some []))))
   (fun k W=>∃ c,Ix c k W/\(W.heap[w.heap.size+1]?=some (.loop (mk .done (some c)))/\W.heap[w.heap.size]?=some (.deferred (some []))))
   W1 (keepAny S)
   (fun k A B h hk=>⟨hI _ _ _ h.1 (hk.mono fun b _ hb=>hb.1),stay (k:=k) h.2 hk⟩)
   (fun k A B h hk=>by obtain⟨c,h1,h2⟩:=h;exact⟨c,hIx _ _ _ _ h1 (hk.mono fun b _ hb=>hb.1),stay (k:=k) h2 hk⟩)
   ?_ ⟨hI _ _ _ h0 (keepAny _),hrec1,hdef1⟩).mono ?_
  ·rintro k W hk ⟨hi,hl,hd⟩
   have hlt:=ltOf hl
   have hy:=run_yield (P:=P) (args:=f k) hl (by rw[hmk];exact hps k)
   rw[hmk] at hy
   refine⟨fn,_,assign,body,hy,roundIn_of_wpIn (F:=Fence.wide) trivial (hassign _ k W _ ⟨_,run_beginRound hl (by rw[hmk]),?_⟩)⟩
   obtain⟨hi2,hd2,hl2⟩:=turn { mk .ready none with state:=.busy } hi hd hlt
   have keepSame:Keeps S W (W.putObj (w.heap.size+1) (.loop { mk .ready none with state:=.busy })):=(Keeps.refl _ _).putObj (fun h=>by have:=hSD _ h;omega) _
   refine wpIn_mono (hbody _ k _ hk hi2 (by simp;omega) ⟨hd2,_,hl2⟩) ?_
   generalize hV:W.putObj (w.heap.size+1) (.loop { mk .ready none with state:=.busy })=V at hi2 hd2 hl2 keepSame
   have fin:∀ (jump:Option Code) (W3:World),Keeps (fun b=>S b\/b=w.heap.size\/b=w.heap.size+1) V W3->
     (Instr.endRound (w.heap.size+1) jump).run P W3=.ok (.bool jump.isNone) (W3.putObj (w.heap.size+1) (.loop (mk (if jump.isNone then .ready else .done) jump)))/\
      W3.heap[w.heap.size]?=some (.deferred (some []))/\w.heap.size+1<W3.heap.size:=fun jump W3 hk3=>by
    have hl3:W3.heap[w.heap.size+1]?=some (.loop { mk .ready none with state:=.busy }):=(hk3.block _ (ltOf hl2) (.inr (.inr rfl))).trans hl2
    have hd3:=(hk3.block _ (by have:=ltOf hl2;omega) (.inr (.inl rfl))).trans hd2
    have:=run_endRound (P:=P) jump hl3
    rw[hmk] at this ⊢
    exact⟨this,hd3,ltOf hl3⟩
   rintro e a3 W3 hp
   cases e with
   | normal=>
    obtain⟨hk3,hi3⟩:=hp
    obtain⟨hr,hd3,hlt3⟩:=fin none W3 hk3
    obtain⟨x1,x2,x3⟩:=turn (mk .ready none) hi3 hd3 hlt3
    exact⟨_,_,hr,.inl ⟨rfl,⟨x1,x3,x2⟩,(keepSame.trans (hk3.mono fun b _ hb=>.inl hb)).putObj (fun h=>by have:=hSD _ h;omega) _⟩⟩
   | ret=>
    obtain⟨hk3,hi3⟩:=hp
    obtain⟨hr,hd3,hlt3⟩:=fin (some .ret) W3 hk3
    obtain⟨x1,x2,x3⟩:=turnx (mk .done (some .ret)) hi3 hd3 hlt3
    exact⟨_,_,hr,.inr ⟨rfl,.ret,x1,x3,x2⟩⟩
   | exit id=>
    obtain⟨hk3,hi3⟩:=hp
    obtain⟨hr,hd3,hlt3⟩:=fin (some (.exit id)) W3 hk3
    obtain⟨x1,x2,x3⟩:=turnx (mk .done (some (.exit id))) hi3 hd3 hlt3
    exact⟨_,_,hr,.inr ⟨rfl,.exit id,x1,x3,x2⟩⟩
   | goto t=>
    obtain⟨hk3,hi3⟩:=hp
    obtain⟨hr,hd3,hlt3⟩:=fin (some (.goto t)) W3 hk3
    obtain⟨x1,x2,x3⟩:=turnx (mk .done (some (.goto t))) hi3 hd3 hlt3
    exact⟨_,_,hr,.inr ⟨rfl,.goto t,x1,x3,x2⟩⟩
   | panic ch=>exact hp.elim
   | outgrown=>exact hp.elim
  ·rintro e W2 ⟨⟨v,rfl⟩,(⟨hi,hl,hd⟩ | ⟨k,hk,c,hi,hl,hd⟩)⟩
   ·have he:=run_endLoop (P:=P) hl (by rw[hmk];simp[rec0])
    obtain⟨x1,x2,_⟩:=turn { mk .ready none with state:=.exhausted } hi hd (ltOf hl)
    refine⟨none,_,by rw[hmk] at he ⊢;exact he,hdone _ x1 x2⟩
   ·have he:=run_endLoop (P:=P) hl (by rw[hmk];simp[rec0])
    obtain⟨x1,x2,_⟩:=turnx { mk .done (some c) with state:=.exhausted } hi hd (ltOf hl)
    refine⟨some c,_,by rw[hmk] at he ⊢;exact he,hstop c k _ hk x1 x2⟩
theorem ZgM {P:Program} {n:Nat} {g:Operand} {ps:Array Tmp} {assign body:Code} {Q:Exit->Act->World->Prop} {a:Act} {w:World}
  {gf:Nat} {lb:Array Value} {f:Nat->Array Value} {N:Nat} {S T:Nat->Prop} (D:Nat) (hD:w.heap.size=D)
  (hg:a.eval g=.func (.func gf) #[] lb) (eg:∀ args w,(callFunc gf args).run P w=.ok (.enter gf args) w) (hps:∀ k,(f k).size=ps.size)
  (hit:Iter P gf lb f N S T w) (hSD:∀ b,S b->b<D) (hTD:T D/\T (D+1))
  (I:Nat->World->Prop) (Ix:Code->Nat->World->Prop)
  (hI:∀ k W1 W2,I k W1->Keeps (fun b=>T b/\b≠D/\b≠D+1) W1 W2->I k W2)
  (hIx:∀ c k W1 W2,Ix c k W1->Keeps (fun b=>T b/\b≠D/\b≠D+1) W1 W2->Ix c k W2)
  (h0:I 0 w) (a₁:Nat->Act)
  (hassign:∀ (l k:Nat) (W:World) (K:Act->World->Prop),K (a₁ k) W->
   assign.wpIn (Fence.wide.inRound l) (n-1-1) P (Exit.then K (fun _ _ _=>False)) { tmps:=(ps.zip (f k)).foldl (fun t (p,v)=>t.setIfInBounds p v) a.tmps,defers:=[] } W)
  (hbody:∀ (l k:Nat) (W:World),k<N->I k W->D+2<=W.heap.size->body.wpIn (Fence.wide.inRound l) (n-1-1) P (ZjU S D I Ix k W) (a₁ k) W)
  (hdone:∀ W:World,I N W->W.heap[D]?=some (.deferred (some []))->Q .normal { a with defers:={ target:=.collected D,args:=#[] }::a.defers } W)
  (hstop:∀ (c:Code) (k:Nat) (W:World),k<N->Ix c k W->W.heap[D]?=some (.deferred (some []))->c.wpIn Fence.wide n P Q { a with defers:={ target:=.collected D,args:=#[] }::a.defers } W) :
  (Code.rangeFunc g ps assign body).wpIn Fence.wide n P Q a w:=
 Zgx D hD hg eg hps hit hSD hTD I Ix hI hIx h0 a₁ hassign (fun l k W h1 h2 h3 _=>hbody l k W h1 h2 h3) hdone hstop
theorem Zn {w:World} {b:Nat} {cs:Array Value} {T:TypeId} (h:w.heap[b]?=some (.cells cs T (0,0))) (j:Nat) {v:Value} (hv:cs[j]?=some v):w.cell? ⟨b,j,none⟩=some v:=by
 unfold World.cell?
 simp only[h]
 exact hv
theorem Zo {w:World} {b:Nat} {cs:Array Value} {T:TypeId} (h:w.heap[b]?=some (.cells cs T (0,0))) (j:Nat):w.frozen? ⟨b,j,none⟩=false:=by
 unfold World.frozen?
 simp only[h]
 simp
def Zu (B:Nat) (os:List Obj) (w:World):Prop:=B+os.length<=w.heap.size/\∀ i o,os[i]?=some o->w.heap[B+i]?=some o
theorem Zu.none (w:World):Zu w.heap.size [] w:=⟨Zc,fun i o h=>by simp at h⟩
theorem Zu.snoc {B:Nat} {os:List Obj} {w:World} (h:Zu B os w) (hs:w.heap.size=B+os.length) (o:Obj):Zu B (os++[o]) (w.alloc o):=by
 refine⟨by simp[hs];omega,fun i x hx=>?_⟩
 rcases Zp1 i os.length with hi | hi
 ·rw[List.getElem?_append_left hi] at hx
  rw[Zqb _ _ _ Za]
  exact h.2 i x hx
 ·rw[List.getElem?_append_right hi] at hx
  rcases Zqa (i-os.length) with h0 | h0
  ·rw[h0] at hx
   simp at hx
   subst hx
   have e:B+i=w.heap.size:=Za
   rw[e]
   exact ZpY w _
  ·rw[List.getElem?_eq_none (by simp;omega)] at hx
   cases hx
theorem Zu.one (w:World) (o:Obj):Zu w.heap.size [o] (w.alloc o):=(Zu.none w).snoc Zc o
theorem Zu.two (w:World) (o p:Obj):Zu w.heap.size [o,p] ((w.alloc o).alloc p):=(Zu.one w o).snoc Zc p
theorem Zu.three (w:World) (o p q:Obj):Zu w.heap.size [o,p,q] (((w.alloc o).alloc p).alloc q):=(Zu.two w o p).snoc Zc q
theorem Zu.four (w:World) (o p q r:Obj):Zu w.heap.size [o,p,q,r] ((((w.alloc o).alloc p).alloc q).alloc r):=(Zu.three w o p q).snoc Zc r
theorem Zu.below {B C:Nat} {os:List Obj} {w w':World} (h:Zu B os w) (hb:Below C w w') (hC:B+os.length<=C):Zu B os w':=by
 refine⟨Zp4 h.1 hb.size,fun i o ho=>?_⟩
 have hi:i<os.length:=by
  rcases Zp1 i os.length with h1 | h1
  ·exact h1
  ·rw[List.getElem?_eq_none h1] at ho;cases ho
 rw[hb.block _ Za]
 exact h.2 i o ho
theorem Zu.keeps {B:Nat} {S:Nat->Prop} {os:List Obj} {w w':World} (h:Zu B os w) (hb:Keeps S w w') (hS:∀ i,i<os.length->S (B+i)):Zu B os w':=by
 refine⟨Zp4 h.1 hb.size,fun i o ho=>?_⟩
 have hi:i<os.length:=by
  rcases Zp1 i os.length with h1 | h1
  ·exact h1
  ·rw[List.getElem?_eq_none h1] at ho;cases ho
 rw[hb.block _ (by have:=h.1;omega) (hS i hi)]
 exact h.2 i o ho
theorem Zu.drew {B:Nat} {os:List Obj} {w:World} (h:Zu B os w):Zu B os w.drew:=h
theorem Zu.alloc {B:Nat} {os:List Obj} {w:World} (h:Zu B os w) (o:Obj):Zu B os (w.alloc o):=by
 refine⟨by have:=h.1;simp;omega,fun i x hx=>?_⟩
 have h1:=h.2 i x hx
 rw[Zqb _ _ _ (ZqC h1)]
 exact h1
theorem Zu.block {B:Nat} {os:List Obj} {w:World} (h:Zu B os w) (i:Nat) {b:Nat} {o:Obj} (hb:b=B+i) (ho:os[i]?=some o):w.heap[b]?=some o:=by subst hb;exact h.2 i o ho
theorem Zu.cell {B:Nat} {os:List Obj} {w:World} (h:Zu B os w) (i j:Nat) {b:Nat} {cs:Array Value} {T:TypeId} {v:Value} (hb:b=B+i) (ho:os[i]?=some (.cells cs T (0,0))) (hv:cs[j]?=some v):w.cell? ⟨b,j,Option.none⟩=some v:=
 Zn (h.block i hb ho) j hv
theorem Zu.free {B:Nat} {os:List Obj} {w:World} (h:Zu B os w) (i j:Nat) {b:Nat} {cs:Array Value} {T:TypeId} (hb:b=B+i) (ho:os[i]?=some (.cells cs T (0,0))):w.frozen? ⟨b,j,Option.none⟩=false:=
 Zo (h.block i hb ho) j
theorem Zu.lt {B:Nat} {os:List Obj} {w:World} (h:Zu B os w):B+os.length<=w.heap.size:=h.1
theorem ZQ {w:World} {b:Nat} {u0 u1:Value} {T:TypeId} (h:w.heap[b]?=some (.cells #[u0,u1] T (0,0))) (x y:Value) :
  ((w.setCell ⟨b,0,none⟩ x).setCell ⟨b,1,none⟩ y).heap[b]?=some (.cells #[x,y] T (0,0)):=
 Zp0 (Zp0 h x) y
theorem ZD {w:World} {b:Nat} {u0 u1:Value} {T:TypeId} (h:w.heap[b]?=some (.cells #[u0,u1] T (0,0))) (x y:Value) :
  ((w.setCell ⟨b,0,none⟩ x).setCell ⟨b,1,none⟩ y).cell? ⟨b,0,none⟩=some x/\((w.setCell ⟨b,0,none⟩ x).setCell ⟨b,1,none⟩ y).cell? ⟨b,1,none⟩=some y:=
 ⟨Zn (ZQ h x y) 0 rfl,Zn (ZQ h x y) 1 rfl⟩
theorem Zy {B:Nat} {w0 w:World} (h:Below B w0 w) {b:Nat} (hB:B<=b) (x y:Value):Below B w0 ((w.setCell ⟨b,0,none⟩ x).setCell ⟨b,1,none⟩ y):=
 (h.setCell (p:=⟨b,0,none⟩) hB x).setCell (p:=⟨b,1,none⟩) hB y
theorem Zd3 (w:World) (x y:Value) {b c:Nat} (h:c≠b) (j:Nat):((w.setCell ⟨b,0,none⟩ x).setCell ⟨b,1,none⟩ y).cell? ⟨c,j,none⟩=w.cell? ⟨c,j,none⟩:=
 (Zqd (w:=w.setCell ⟨b,0,none⟩ x) (ZpX _ _ _ _ h)).trans (Zqd (w:=w) (ZpX _ _ _ _ h))
theorem Zu.f4 {B:Nat} {a b c d:Value} {S T:TypeId} {os:List Obj} {w:World} (h:Zu B (.cells #[a,b] S (0,0)::.cells #[c,d] T (0,0)::os) w) :
  w.cell? ⟨B,0,Option.none⟩=some a/\w.cell? ⟨B,1,Option.none⟩=some b/\w.cell? ⟨B+1,0,Option.none⟩=some c/\w.cell? ⟨B+1,1,Option.none⟩=some d:=
 ⟨h.cell 0 0 rfl rfl rfl,h.cell 0 1 rfl rfl rfl,h.cell 1 0 rfl rfl rfl,h.cell 1 1 rfl rfl rfl⟩
theorem Zhw {w:World} {B C g:Nat} {a b c d:Value} (h1:B≠g) (h2:C≠g) (h:w.cell? ⟨B,0,none⟩=some a/\w.cell? ⟨B,1,none⟩=some b/\w.cell? ⟨C,0,none⟩=some c/\w.cell? ⟨C,1,none⟩=some d) (x y:Value) :
  ((w.setCell ⟨g,0,none⟩ x).setCell ⟨g,1,none⟩ y).cell? ⟨B,0,none⟩=some a/\((w.setCell ⟨g,0,none⟩ x).setCell ⟨g,1,none⟩ y).cell? ⟨B,1,none⟩=some b/\
   ((w.setCell ⟨g,0,none⟩ x).setCell ⟨g,1,none⟩ y).cell? ⟨C,0,none⟩=some c/\((w.setCell ⟨g,0,none⟩ x).setCell ⟨g,1,none⟩ y).cell? ⟨C,1,none⟩=some d:=
 ⟨(Zd3 _ _ _ h1 _).trans h.1,(Zd3 _ _ _ h1 _).trans h.2.1,(Zd3 _ _ _ h2 _).trans h.2.2.1,(Zd3 _ _ _ h2 _).trans h.2.2.2⟩
section
variable {α:Type} {k:Nat} {R:World->Nat->Nat->α->Prop} {w w':World} {v:Value} {xs:List α} {B:Nat}
def LL (k:Nat) (R:World->Nat->Nat->α->Prop) (w:World) (v:Value) (xs:List α):Prop:=
 ∃ p cap,v=.slice p xs.length cap/\xs.length<=cap/\cap<=maxLen/\(xs≠[]->∃ b off,p=some ⟨b,off,none⟩/\b<w.heap.size/\∀ j (h:j<xs.length),R w b (off+j*k) xs[j])
def Zde (R:World->Nat->Nat->α->Prop):Prop:=∀ (w w':World) (b o:Nat) (x:α) (B:Nat),R w b o x->b<w.heap.size->Below B w w'->w.heap.size<=B->R w' b o x
theorem LL.after (hR:Zde R) (h:LL k R w v xs) (hb:Below B w w') (hB:w.heap.size<=B):LL k R w' v xs:=by
 obtain⟨p,cap,h1,h2,h3,h4⟩:=h
 refine⟨p,cap,h1,h2,h3,fun hne=>?_⟩
 obtain⟨b,off,h5,h6,h7⟩:=h4 hne
 exact⟨b,off,h5,Zp2 h6 hb.size,fun j hj=>hR w w' b _ _ B (h7 j hj) h6 hb hB⟩
theorem LL.nil (w:World):LL k R w (.slice none 0 0) []:=⟨none,0,rfl,Nat.le_refl _,by simp[maxLen],Zc⟩
theorem LL.shape (h:LL k R w v xs) {n:Nat} (hn:xs.length=n):∃ p c,v=.slice p n c/\n<=c/\c<=9223372036854775807:=by
 obtain⟨p,c,h1,h2,h3,_⟩:=h
 unfold maxLen at h3
 exact⟨p,c,by rw[<- hn];exact h1,Za,h3⟩
theorem LL.len {p:Option Addr} {n c:Nat} (h:LL k R w (.slice p n c) xs):xs.length=n:=by
 obtain⟨p',c',hv,_⟩:=h
 injection hv with e1 e2 e3
 exact e2.symm
theorem LL.at {p:Option Addr} {n cap:Nat} (hR:Zde R) (h:LL k R w (.slice p n cap) xs) (hn:xs.length=n) (h0:0<n) :
  ∃ b off,p=some ⟨b,off,none⟩/\b<w.heap.size/\∀ W,Below w.heap.size w W->∀ j (hj:j<xs.length),R W b (off+j*k) xs[j]:=by
 obtain⟨p',c',hv,_,_,h4⟩:=h
 injection hv with e1 e2 e3
 obtain⟨b,off,rfl,hb,hat⟩:=h4 (Zp3 Za)
 exact⟨b,off,e1,hb,fun W hW j hj=>hR w W b _ _ _ (hat j hj) hb hW ZqI⟩
end
def InR {β:Type} (S:World->Value->β->Prop) (w:World) (b o:Nat) (x:β):Prop:=∃ v,w.cell? ⟨b,o,none⟩=some v/\S w v x
theorem InR.stays {β:Type} {S:World->Value->β->Prop} (hS:∀ (w w':World) (v:Value) (x:β) (B:Nat),S w v x->Below B w w'->w.heap.size<=B->S w' v x):Zde (InR S):=fun w w' b o x B ⟨v,h1,h2⟩ hb hw hB=>
 ⟨v,(hw.cell (p:=⟨b,o,none⟩) (by show b<B;omega)).trans h1,hS w w' v x B h2 hw hB⟩
end Go.Proofs.YtjmckebecpjjfaaGreatDoor
