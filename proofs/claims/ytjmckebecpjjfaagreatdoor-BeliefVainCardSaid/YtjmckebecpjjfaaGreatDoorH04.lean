/- The parts Knuth, Take, Div, Over. -/
import Derived.Test.YtjmckebecpjjfaaGreatDoorH03
set_option maxRecDepth 100000
set_option maxHeartbeats 4000000
set_option linter.unusedVariables false
set_option linter.unusedSimpArgs false
namespace Go.Proofs.YtjmckebecpjjfaaGreatDoor
open Go.RowKit Go.Shelf
structure GuessInv (B top head:Nat) (q g left:Nat):Prop where
 eq:g*top+left=head
 ge:q<=g
 le:g<=B+1
 left_lt:left<B
theorem Zkd {B M u v q head top second ulow vlow:Nat} (hM:0<M) (hul:ulow<B*M) (hu:u=head*(B*M)+ulow)
  (hv:v=top*(B*M)+(second*M+vlow)) (hq:q*v<=u) (hB:0<B) (htop:0<top):q<=head/top:=by
 rw[Nat.le_div_iff_mul_le htop]
 have hBM:0<B*M:=Nat.mul_pos hB hM
 have h1:q*top*(B*M)<=q*v:=by rw[hv];grind
 have h2:q*top*(B*M)<(head+1)*(B*M):=by
  have:(head+1)*(B*M)=head*(B*M)+B*M:=Zk
  omega
 have:=Nat.lt_of_mul_lt_mul_right h2
 omega
theorem ZiX {B top head:Nat} (htop:B<=2*top) (htB:top<B) (hh:head<(top+1)*B):head/top<=B+1:=by
 have h0:0<top:=Za
 have h1:head/top<B+2:=by
  rw[Nat.div_lt_iff_lt_mul h0]
  have h2:(top+1)*B=top*B+B:=Zk
  have h3:(B+2)*top=top*B+2*top:=Zk
  omega
 omega
theorem ZlZ {B M u v q head top second next ulow vlow:Nat} (hul:ulow<M)
  (hu:u=(head*B+next)*M+ulow) (hv:v=(top*B+second)*M+vlow) (hq:q*v<=u):q*(top*B+second)<=head*B+next:=by
 have h1:q*(top*B+second)*M<=q*v:=by rw[hv];grind
 have h2:q*(top*B+second)*M<(head*B+next+1)*M:=by
  have:(head*B+next+1)*M=(head*B+next)*M+M:=Zk
  omega
 have:=Nat.lt_of_mul_lt_mul_right h2
 omega
theorem ZjR {B head top second next g left:Nat} (h:g*top+left=head):g*second > left*B+next<->g*(top*B+second) > head*B+next:=by
 have:g*(top*B+second)=g*top*B+g*second:=Zk
 have:head*B=g*top*B+left*B:=by rw[<- h];grind
 omega
theorem ZgG {B M u v g head top second next ulow vlow:Nat} (hgB:g<=B) (hu:u=(head*B+next)*M+ulow) (hv:v=(top*B+second)*M+vlow) (hvl:vlow<M)
  (htop:1<=top) (hg:g*(top*B+second)<=head*B+next):(g-1)*v<=u:=by
 rcases Zqa g with h0 | h0
 ·subst h0;simp
 ·obtain⟨d,rfl⟩:∃ d,g=d+1:=⟨g-1,Za⟩
  have h1:(d+1)*(top*B+second)*M<=(head*B+next)*M:=Zqn _ hg
  have h2:(d+1)*v=(d+1)*(top*B+second)*M+(d+1)*vlow:=by rw[hv];grind
  have h3:(d+1)*vlow<=B*M:=Nat.mul_le_mul hgB (Zqr hvl)
  have h4:B*M<=v:=by
   rw[hv]
   have:1*B<=top*B:=Zqn _ htop
   have:B*M<=(top*B+second)*M:=Zqn _ Za
   omega
  have h5:(d+1)*v=d*v+v:=Zk
  simp only[Zqo]
  omega
theorem ZkO {B head top second next g left:Nat} (h:g*top+left=head) (hl:B<=left) (hg:g<=B) (hs:second<B):g*(top*B+second)<=head*B+next:=by
 have h1:g*(top*B+second)=g*top*B+g*second:=Zk
 have h2:head*B=g*top*B+left*B:=by rw[<- h];grind
 have h3:g*second<=B*B:=Nat.mul_le_mul hg (Zqr hs)
 have h4:B*B<=left*B:=Zqn _ hl
 omega
theorem GuessInv.less {B top head q g left:Nat} (h:GuessInv B top head q g left) (hq:q<g) (hl:left+top<B):GuessInv B top head q (g-1) (left+top):=by
 have h1:=h.eq
 have h2:=h.le
 obtain⟨d,rfl⟩:∃ d,g=d+1:=⟨g-1,Za⟩
 refine⟨?_,Za,Za,hl⟩
 simp only[Zqo]
 grind
theorem ZiP {B top head q g left:Nat} (h:GuessInv B top head q g left) (hq:q<g):(g-1)*top+(left+top)=head:=by
 have h1:=h.eq
 obtain⟨d,rfl⟩:∃ d,g=d+1:=⟨g-1,Za⟩
 simp only[Zqo]
 grind
structure TakeInv (B:Nat) (p b:List Nat) (t:Nat) (k:Nat) (o:List Nat) (c w:Nat):Prop where
 len:o.length=k
 lt:∀ x ∈ o,x<B
 borrow:w<=1
 carry:c<B
 eq:val B o+val B (b.take k)*t=val B (p.take k)+B ^ k*(c+w)
theorem TakeInv.start {B:Nat} (hB:0<B) (p b:List Nat) (t:Nat):TakeInv B p b t 0 [] 0 0:=⟨rfl,Zc,Za,hB,by simp[val]⟩
theorem TakeInv.step {B:Nat} (hB:1<B) {p b:List Nat} (hp:∀ x ∈ p,x<B) (hb:∀ x ∈ b,x<B) {t:Nat} (ht:t<B) {k:Nat} {o:List Nat} {c w:Nat}
  (h:TakeInv B p b t k o c w) {s:Nat} (hs:s=c+w+b.getD k 0*t) {x w':Nat}
  (hx:(p.getD k 0<s % B/\x=p.getD k 0+B-s % B/\w'=1)\/(s % B<=p.getD k 0/\x=p.getD k 0-s % B/\w'=0)) :
  TakeInv B p b t (k+1) (o++[x]) (s/B) w':=by
 have h1:=ZM Za hp k
 have h2:=ZM Za hb k
 have h3:=h.borrow
 have h4:=h.carry
 have h5:=Nat.mod_lt s (show 0<B by omega)
 have hmul:b.getD k 0*t<=(B-1)*(B-1):=Nat.mul_le_mul Za Za
 have hBB:(B-1)*(B-1)+2*(B-1)+1=B*B:=by
  obtain⟨d,rfl⟩:∃ d,B=d+1:=⟨B-1,Za⟩
  simp only[Zqo];grind
 have hx2:x<B/\w'<=1/\x+s % B=p.getD k 0+B*w':=by
  rcases hx with ⟨ha,rfl,rfl⟩ | ⟨ha,rfl,rfl⟩
  ·exact⟨Za,Za,Za⟩
  ·exact⟨Za,Za,Za⟩
 obtain⟨hx3,hw',hxe⟩:=hx2
 refine⟨by simp[h.len],Zdc h.lt hx3,hw',Nat.div_lt_of_lt_mul Za,?_⟩
 rw[Zc5,h.len,ZU,ZU,Zqs]
 have h6:=h.eq
 have h7:=Nat.mod_add_div s B
 generalize s % B=r at *
 generalize s/B=q at *
 generalize B ^ k=K at *
 generalize b.getD k 0=y at *
 generalize p.getD k 0=z at *
 have h8:K*x+K*r=K*z+K*(B*w'):=by rw[<- Nat.mul_add,hxe,Nat.mul_add]
 have h9:K*r+K*(B*q)=K*(c+w)+K*(y*t):=by rw[<- Nat.mul_add,h7,hs,Nat.mul_add]
 have h10:(val B (b.take k)+K*y)*t=val B (b.take k)*t+K*(y*t):=Zk
 have h11:K*B*(q+w')=K*(B*q)+K*(B*w'):=Zk
 rw[h10,h11]
 omega
theorem ZfG {B:Nat} {p b:List Nat} {t:Nat} {o:List Nat} {c w:Nat} (h:TakeInv B p b t p.length o c w) (hl:b.length<=p.length) (hle:val B b*t<=val B p) :
  c=0/\w=0/\val B o=val B p-val B b*t:=by
 have h1:=h.eq
 rw[Zp5 ZqI,Zp5 hl] at h1
 have h2:=Z4 h.lt
 rw[h.len] at h2
 rcases Zqa (c+w) with h0 | h0
 ·rw[h0] at h1
  exact⟨Za,Za,Za⟩
 ·have:B ^ p.length*1<=B ^ p.length*(c+w):=Nat.mul_le_mul_left _ h0
  omega
theorem Zdo {B:Nat} {p b:List Nat} {t:Nat} {o:List Nat} {c w:Nat} (h:TakeInv B p b t p.length o c w) (hl:b.length<=p.length) (hgt:val B p<val B b*t)
  (hle:val B b*(t-1)<=val B p) (hb:val B b<B ^ p.length):(c+w=1)/\val B o+val B b*t=val B p+B ^ p.length:=by
 have h1:=h.eq
 rw[Zp5 ZqI,Zp5 hl] at h1
 have h2:=Z4 h.lt
 rw[h.len] at h2
 have h3:val B b*t<=val B p+val B b:=by
  rcases Zqa t with h0 | h0
  ·subst h0;simp
  ·obtain⟨d,rfl⟩:∃ d,t=d+1:=⟨t-1,Za⟩
   simp only[Zqo] at hle
   have:val B b*(d+1)=val B b*d+val B b:=Zk
   omega
 have h4:c+w=1:=by
  rcases Nat.lt_trichotomy (c+w) 1 with h5 | h5 | h5
  ·have:c+w=0:=Za
   rw[this] at h1
   omega
  ·exact h5
  ·have:B ^ p.length*2<=B ^ p.length*(c+w):=Nat.mul_le_mul_left _ h5
   omega
 refine⟨h4,?_⟩
 rw[h4] at h1
 omega
structure GiveInv (B:Nat) (p b:List Nat) (k:Nat) (o:List Nat) (c:Nat):Prop where
 len:o.length=k
 lt:∀ x ∈ o,x<B
 carry:c<=1
 eq:val B o+B ^ k*c=val B (p.take k)+val B (b.take k)
theorem GiveInv.start (B:Nat) (p b:List Nat):GiveInv B p b 0 [] 0:=⟨rfl,Zc,Za,by simp[val]⟩
theorem GiveInv.step {B:Nat} (hB:1<B) {p b:List Nat} (hp:∀ x ∈ p,x<B) (hb:∀ x ∈ b,x<B) {k:Nat} {o:List Nat} {c:Nat}
  (h:GiveInv B p b k o c) {s:Nat} (hs:s=c+p.getD k 0+b.getD k 0):GiveInv B p b (k+1) (o++[s % B]) (s/B):=by
 have h':PlusInv B p b k o c:=⟨h.len,h.lt,h.carry,h.eq⟩
 have:=h'.step hB hp hb (x:=s) Za
 exact⟨this.len,this.lt,this.carry,this.eq⟩
theorem ZfK {B:Nat} {p b p0:List Nat} {t:Nat} {o:List Nat} {c:Nat} (h:GiveInv B p b p.length o c) (hl:b.length<=p.length) (hp:val B p+val B b*t=val B p0+B ^ p.length) (ht:1<=t)
  (hle:val B b*(t-1)<=val B p0) (hlt:val B p0-val B b*(t-1)<B ^ p.length):val B o=val B p0-val B b*(t-1):=by
 have h1:=h.eq
 rw[Zp5 ZqI,Zp5 hl] at h1
 have h2:=Z4 h.lt
 rw[h.len] at h2
 obtain⟨d,rfl⟩:∃ d,t=d+1:=⟨t-1,Za⟩
 simp only[Zqo] at hle hlt ⊢
 have h3:val B b*(d+1)=val B b*d+val B b:=Zk
 have h4:=h.carry
 rcases Zqa c with h5 | h5
 ·subst h5;simp only[Nat.mul_zero,Nat.add_zero] at h1;omega
 ·have:c=1:=Za
  subst this
  omega
theorem ZnF {B v:Nat} (hv:0<v) (hvB:v<B):B/(v+1)*v<B/\B<=2*(B/(v+1)*v)+1/\1<=B/(v+1):=by
 have h1:1<=B/(v+1):=by rw[Nat.le_div_iff_mul_le Za];omega
 have h2:B/(v+1)*(v+1)<=B:=Nat.div_mul_le_self _ _
 have h3:B<(B/(v+1)+1)*(v+1):=by
  have h:=Nat.mod_add_div B (v+1)
  have h':=Nat.mod_lt B (show 0<v+1 by omega)
  have h'':(B/(v+1)+1)*(v+1)=(v+1)*(B/(v+1))+(v+1):=Zk
  omega
 generalize B/(v+1)=s at *
 have h4:s*(v+1)=s*v+s:=Zk
 have h5:(s+1)*(v+1)=s*v+s+v+1:=Zk
 have h6:s+v<=s*v+1:=by
  obtain⟨a,rfl⟩:∃ a,s=a+1:=⟨s-1,Za⟩
  obtain⟨c,rfl⟩:∃ c,v=c+1:=⟨v-1,Za⟩
  have:(a+1)*(c+1)=a*c+a+c+1:=Zk
  omega
 exact⟨Za,Za,h1⟩
theorem Zmh {n m s q r:Nat} (hs:0<s) (h:n*s=q*(m*s)+r) (hr:r<m*s):q=n/m/\r/s=n % m/\r % s=0:=by
 have hm:0<m:=by
  rcases Zqa m with h0 | h0
  ·subst h0;simp at hr
  ·exact h0
 have h1:r=(n-q*m)*s:=by
  rw[Nat.sub_mul,Nat.mul_assoc];omega
 have h2:q*m<=n:=by
  rcases Zp1 n (q*m) with h' | h'
  ·have:=Nat.mul_lt_mul_of_pos_right h' hs
   have h3:q*m*s=q*(m*s):=Nat.mul_assoc _ _ _
   omega
  ·exact h'
 have h3:n-q*m<m:=by
  rw[h1] at hr
  exact Nat.lt_of_mul_lt_mul_right hr
 have h4:n=m*q+(n-q*m):=by have:m*q=q*m:=Zqh _ _;omega
 refine⟨?_,?_,?_⟩
 ·rw[h4,Nat.mul_add_div hm,Nat.div_eq_of_lt h3];rfl
 ·rw[h1,Nat.mul_div_cancel _ hs]
  conv=>rhs;rw[h4]
  rw[Nat.mul_add_mod,Nat.mod_eq_of_lt h3]
 ·rw[h1,Nat.mul_mod_left]
theorem ZjV (lo os rest hi:List Nat) (p i:Nat) (h:i=lo.length+os.length):(lo++(os++p::rest)++hi).getD i 0=p:=by
 subst h
 simp only[List.getD,List.append_assoc,List.getElem?_append]
 rw[if_neg Za,if_neg Za,Nat.add_sub_cancel_left,Nat.sub_self]
 simp
theorem ZoL (lo os rest hi:List Nat) (p v i:Nat) (h:i=lo.length+os.length):(lo++(os++p::rest)++hi).set i v=lo++(os++[v]++rest)++hi:=by
 subst h
 have e:lo++(os++p::rest)++hi=(lo++os)++p::(rest++hi):=Zc
 rw[e,List.set_append_right _ _ Zc,Zqc,Nat.sub_self]
 simp
theorem Zli (lo os rest hi:List Nat) (p:Nat):lo.length+os.length<(lo++(os++p::rest)++hi).length:=Zc
theorem Zc1 {E:TypeId} {B g cap0:Nat} {lo os rest hi:List Nat} {p x i:Nat} {v:Int} {w:World} (h:Row .u64 E w B g cap0 (lo++(os++p::rest)++hi)) (hi0:i=lo.length+os.length) (hv:v=(x:Nat)) :
  Row .u64 E (w.setCell ⟨g,i,none⟩ (.int .u64 v)) B g cap0 (lo++(os++[x]++rest)++hi):=by
 subst hv
 have:=h.set i x
 rwa [ZoL lo os rest hi p x i hi0] at this
theorem Zjg {E:TypeId} {B g cap0:Nat} {lo os rest hi:List Nat} {p x n i:Nat} {u v:Int} {w:World} (h:Row .u64 E w B g cap0 (lo++(os++p::rest)++hi)) (hi0:i=lo.length+os.length) (hu:u=(n:Nat)) (hv:v=(x:Nat)) :
  Row .u64 E ((w.setCell ⟨g,i,none⟩ (.int .u64 u)).setCell ⟨g,i,none⟩ (.int .u64 v)) B g cap0 (lo++(os++[x]++rest)++hi):=by
 have h1:=Zc1 h hi0 hu
 have e:lo++(os++[n]++rest)++hi=lo++(os++n::rest)++hi:=Zc
 rw[e] at h1
 exact Zc1 h1 hi0 hv
theorem ZbL {w w':World} {g:Nat} (h:w.grownBy w' (some g)) (o:Nat) (v:Value):w.grownBy (w'.setCell ⟨g,o,none⟩ v) (some g):=
 ⟨h.os,h.tape,h.output,by simp[World.setCell];exact h.size,fun k hk hne=>(ZpX w' _ v k (fun e=>hne (by rw[e]))).trans (h.block k hk hne)⟩
theorem ZgT (E:TypeId) (g cap0 cap i:Nat) (lo ps hi:List Nat) (q:Option Addr) (c2:Nat) (bs:List Nat) (t:Nat) (w:World)
  (hr:Row .u64 E w 0 g cap0 (lo++ps++hi)) (hi0:i=lo.length) (hps:∀ x ∈ ps,x<1000000000) (hbs:∀ x ∈ bs,x<1000000000) (ht:t<1000000000) (hl:(lo++ps++hi).length<=1000000)
  (hq:bs≠[]->∃ b off,q=some ⟨b,off,none⟩/\b≠g/\b<w.heap.size/\At .u64 w b off bs) (hbl:bs.length<=1000000) (hcap:ps.length<=cap/\cap<=maxLen) :
  Calls Tryz.prog 147 #[.slice (some ⟨g,i,none⟩) ps.length cap,.slice q bs.length c2,.int .u64 t] w fun e w'=>
   ∃ os c wb,e=.returned (.bool (decide (c+wb=0)))/\TakeInv 1000000000 ps bs t ps.length os c wb/\Row .u64 E w' 0 g cap0 (lo++os++hi)/\w.grownBy w' (some g):=by
 subst hi0
 have HP:=ZqH hps
 have HBS:=ZqH hbs
 have HQ:=ZqH hq
 have hcap1:=hcap.1
 have hcap2:=hcap.2
 unfold maxLen at hcap2
 have hll:lo.length+(ps.length+hi.length)<=1000000:=by simpa using hl
 have HR0:=ZqH hr
 clear hps hbs hq hcap hr hl
 go_enter Tryz.func147,Tryz.ntmps147
 go_wp2
 go_loopw [7,8,13] (fun c b i wr=>∃ (k:Nat) (os:List Nat) (cr wb:Nat),k<=ps.length/\i=.int .i64 k/\c=.int .u64 cr/\b=.int .u64 wb/\
   Hid (TakeInv 1000000000 ps bs t k os cr wb)/\Hid (Row .u64 E wr 0 g cap0 (lo++(os++ps.drop k)++hi))/\Hid (w.grownBy wr (some g))) (fun _ _ i _=>ps.length-(intOf i).toNat)
 case atStart=>exact⟨0,[],0,0,Zp8 _,rfl,rfl,rfl,TakeInv.start Za _ _ _,HR0,World.grownBy.refl _ _⟩
 case round=>
  obtain⟨k,os,cr,wb,hk,rfl,rfl,rfl,HI,HR,HG⟩:=hrel
  have hcr:=HI.out.carry
  have hwb:=HI.out.borrow
  by_cases hlt:k<ps.length
  ·obtain⟨p,hp⟩:=ZqJ (ps.getD k 0)
   have hpl:p<1000000000:=by rw[<- hp];exact ZM Za HP.out k
   have hd:ps.drop k=p::ps.drop (k+1):=by rw[List.drop_eq_getElem_cons hlt];subst hp;simp[List.getD,hlt]
   have HR1:Hid (Row .u64 E wr 0 g cap0 (lo++(os++p::ps.drop (k+1))++hi)):=by have:=HR.out;rw[hd] at this;exact this
   have hidx:lo.length+k=lo.length+os.length:=by rw[HI.out.len]
   have cp:wr.cell? ⟨g,lo.length+k,none⟩=some (.int .u64 (p:Nat)):=HR1.out.cell (by rw[hidx];exact Zli _ _ _ _ _) (ZjV _ _ _ _ _ _ hidx)
   have fp:wr.frozen? ⟨g,lo.length+k,none⟩=false:=HR1.out.frozen _
   have HIX:=ZqH hidx
   have Hp:=ZqH hp
   clear hp hd hidx HR
   by_cases hlt2:k<bs.length
   ·obtain⟨b2,off2,rfl,hne,hb2,ha2⟩:=HQ.out (Zp3 Za)
    obtain⟨y,hy⟩:=ZqJ (bs.getD k 0)
    have hyl:y<1000000000:=by rw[<- hy];exact ZM Za HBS.out k
    have cy:wr.cell? ⟨b2,off2+k,none⟩=some (.int .u64 (y:Nat)):=(Zqd (w:=w) (a:=⟨b2,off2+k,none⟩) (HG.out.block b2 hb2 (by simpa using hne))).trans (ha2.getD hlt2 hy)
    have Hy:=ZqH hy
    have hmul:y*t<=999999999*999999999:=Nat.mul_le_mul Za Za
    have hmul':((y*t:Nat):Int)=(y:Int)*t:=Zc
    have hm0:0<=(y:Int)*t:=Za
    have hm1:(y:Int)*t<=999999998000000001:=Za
    clear hy ha2 hmul hmul'
    by_cases hlt3:p<(cr+wb+y*t) % 1000000000
    ·have hlt3':(p:Int)<((cr:Int)+wb+(y:Int)*t) % 1000000000:=by have e:((cr+wb+y*t:Nat):Int)=(cr:Int)+wb+y*t:=Zc;omega
     have E1:Hid ((p:Int)+1000000000-((cr:Int)+wb+(y:Int)*t) % 1000000000=(p+1000000000-(cr+wb+y*t) % 1000000000:Nat)):=by show _=_;have e:((cr+wb+y*t:Nat):Int)=(cr:Int)+wb+y*t:=Zc;omega
     have E2:Hid (((cr:Int)+wb+(y:Int)*t)/1000000000=((cr+wb+y*t)/1000000000:Nat)):=by show _=_;have e:((cr+wb+y*t:Nat):Int)=(cr:Int)+wb+y*t:=Zc;omega
     have HS:Hid (TakeInv 1000000000 ps bs t (k+1) (os++[p+1000000000-(cr+wb+y*t) % 1000000000]) ((cr+wb+y*t)/1000000000) 1):=
      HI.out.step Za HP.out HBS.out ht rfl (.inl (by rw[Hp.out,Hy.out];exact⟨hlt3,rfl,rfl⟩)) |> fun h=>by rw[Hy.out] at h;exact h
     clear hlt3
     go_wp2
     go_roundw
     case rel=>exact⟨k+1,_,_,1,Za,by go_num,by rw[E2.out],rfl,HS,Zjg HR1.out HIX.out (n:=p+1000000000) Za E1.out,ZbL (ZbL HG.out _ _) _ _⟩
     case measure=>exact Zj
    ·have hlt3':¬ (p:Int)<((cr:Int)+wb+(y:Int)*t) % 1000000000:=by have e:((cr+wb+y*t:Nat):Int)=(cr:Int)+wb+y*t:=Zc;omega
     have E1:Hid ((p:Int)-((cr:Int)+wb+(y:Int)*t) % 1000000000=(p-(cr+wb+y*t) % 1000000000:Nat)):=by show _=_;have e:((cr+wb+y*t:Nat):Int)=(cr:Int)+wb+y*t:=Zc;omega
     have E2:Hid (((cr:Int)+wb+(y:Int)*t)/1000000000=((cr+wb+y*t)/1000000000:Nat)):=by show _=_;have e:((cr+wb+y*t:Nat):Int)=(cr:Int)+wb+y*t:=Zc;omega
     have HS:Hid (TakeInv 1000000000 ps bs t (k+1) (os++[p-(cr+wb+y*t) % 1000000000]) ((cr+wb+y*t)/1000000000) 0):=
      HI.out.step Za HP.out HBS.out ht rfl (.inr (by rw[Hp.out,Hy.out];exact⟨Za,rfl,rfl⟩)) |> fun h=>by rw[Hy.out] at h;exact h
     clear hlt3
     go_wp2
     go_roundw
     case rel=>exact⟨k+1,_,_,0,Za,by go_num,by rw[E2.out],rfl,HS,Zc1 HR1.out HIX.out E1.out,ZbL HG.out _ _⟩
     case measure=>exact Zj
   ·have Hy:Hid (bs.getD k 0=0):=by show _=_;simp[List.getD,hlt2]
    by_cases hlt3:p<(cr+wb+0*t) % 1000000000
    ·have hlt3':(p:Int)<((cr:Int)+wb) % 1000000000:=by have e:((cr+wb+0*t:Nat):Int)=(cr:Int)+wb:=Zc;omega
     have E1:Hid ((p:Int)+1000000000-((cr:Int)+wb) % 1000000000=(p+1000000000-(cr+wb+0*t) % 1000000000:Nat)):=by show _=_;have e:((cr+wb+0*t:Nat):Int)=(cr:Int)+wb:=Zc;omega
     have E2:Hid (((cr:Int)+wb)/1000000000=((cr+wb+0*t)/1000000000:Nat)):=by show _=_;have e:((cr+wb+0*t:Nat):Int)=(cr:Int)+wb:=Zc;omega
     have HS:Hid (TakeInv 1000000000 ps bs t (k+1) (os++[p+1000000000-(cr+wb+0*t) % 1000000000]) ((cr+wb+0*t)/1000000000) 1):=
      HI.out.step Za HP.out HBS.out ht rfl (.inl (by rw[Hp.out,Hy.out];exact⟨hlt3,rfl,rfl⟩)) |> fun h=>by rw[Hy.out] at h;exact h
     clear hlt3
     go_wp2
     go_roundw
     case rel=>exact⟨k+1,_,_,1,Za,by go_num,by rw[E2.out],rfl,HS,Zjg HR1.out HIX.out (n:=p+1000000000) Za E1.out,ZbL (ZbL HG.out _ _) _ _⟩
     case measure=>exact Zj
    ·have hlt3':¬ (p:Int)<((cr:Int)+wb) % 1000000000:=by have e:((cr+wb+0*t:Nat):Int)=(cr:Int)+wb:=Zc;omega
     have E1:Hid ((p:Int)-((cr:Int)+wb) % 1000000000=(p-(cr+wb+0*t) % 1000000000:Nat)):=by show _=_;have e:((cr+wb+0*t:Nat):Int)=(cr:Int)+wb:=Zc;omega
     have E2:Hid (((cr:Int)+wb)/1000000000=((cr+wb+0*t)/1000000000:Nat)):=by show _=_;have e:((cr+wb+0*t:Nat):Int)=(cr:Int)+wb:=Zc;omega
     have HS:Hid (TakeInv 1000000000 ps bs t (k+1) (os++[p-(cr+wb+0*t) % 1000000000]) ((cr+wb+0*t)/1000000000) 0):=
      HI.out.step Za HP.out HBS.out ht rfl (.inr (by rw[Hp.out,Hy.out];exact⟨Za,rfl,rfl⟩)) |> fun h=>by rw[Hy.out] at h;exact h
     clear hlt3
     go_wp2
     go_roundw
     case rel=>exact⟨k+1,_,_,0,Za,by go_num,by rw[E2.out],rfl,HS,Zc1 HR1.out HIX.out E1.out,ZbL HG.out _ _⟩
     case measure=>exact Zj
  ·obtain rfl:k=ps.length:=Za
   have HR2:Hid (Row .u64 E wr 0 g cap0 (lo++os++hi)):=by have:=HR.out;show Row _ _ _ _ _ _ _;simpa using this
   clear HR
   by_cases hb0:wb=0
   ·have hb1:((wb:Int)==0)=true:=by simpa using hb0
    by_cases hc0:cr=0
    ·have hc1:((cr:Int)==0)=true:=by simpa using hc0
     have hfin:Hid (decide (cr+wb=0)=true):=by show _=_;simp[hb0,hc0]
     clear hb0 hc0
     go_wp2
     go_ret
     exact⟨os,cr,wb,by rw[hfin.out];rfl,HI.out,HR2.out,HG.out⟩
    ·have hc1:((cr:Int)==0)=false:=by simpa using hc0
     have hfin:Hid (decide (cr+wb=0)=false):=by show _=_;simp[hb0,hc0]
     clear hb0 hc0
     go_wp2
     go_ret
     exact⟨os,cr,wb,by rw[hfin.out];rfl,HI.out,HR2.out,HG.out⟩
   ·have hb1:((wb:Int)==0)=false:=by simpa using hb0
    have hfin:Hid (decide (cr+wb=0)=false):=by show _=_;simp[hb0]
    clear hb0
    go_wp2
    go_ret
    exact⟨os,cr,wb,by rw[hfin.out];rfl,HI.out,HR2.out,HG.out⟩
theorem ZgU (E:TypeId) (g cap0 cap i:Nat) (lo ps hi:List Nat) (q:Option Addr) (c2:Nat) (bs:List Nat) (w:World)
  (hr:Row .u64 E w 0 g cap0 (lo++ps++hi)) (hi0:i=lo.length) (hps:∀ x ∈ ps,x<1000000000) (hbs:∀ x ∈ bs,x<1000000000) (hl:(lo++ps++hi).length<=1000000)
  (hq:bs≠[]->∃ b off,q=some ⟨b,off,none⟩/\b≠g/\b<w.heap.size/\At .u64 w b off bs) (hbl:bs.length<=1000000) (hcap:ps.length<=cap/\cap<=maxLen) :
  Calls Tryz.prog 148 #[.slice (some ⟨g,i,none⟩) ps.length cap,.slice q bs.length c2] w fun e w'=>
   e=.returned (.tuple #[])/\∃ os c,GiveInv 1000000000 ps bs ps.length os c/\Row .u64 E w' 0 g cap0 (lo++os++hi)/\w.grownBy w' (some g):=by
 subst hi0
 have HP:=ZqH hps
 have HBS:=ZqH hbs
 have HQ:=ZqH hq
 have hcap1:=hcap.1
 have hcap2:=hcap.2
 unfold maxLen at hcap2
 have hll:lo.length+(ps.length+hi.length)<=1000000:=by simpa using hl
 have HR0:=ZqH hr
 clear hps hbs hq hcap hr hl
 go_enter Tryz.func148,Tryz.ntmps148
 go_wp2
 go_loopw [4,8] (fun c i wr=>∃ (k:Nat) (os:List Nat) (cr:Nat),k<=ps.length/\i=.int .i64 k/\c=.int .u64 cr/\
   Hid (GiveInv 1000000000 ps bs k os cr)/\Hid (Row .u64 E wr 0 g cap0 (lo++(os++ps.drop k)++hi))/\Hid (w.grownBy wr (some g))) (fun _ i _=>ps.length-(intOf i).toNat)
 case atStart=>exact⟨0,[],0,Zp8 _,rfl,rfl,GiveInv.start _ _ _,HR0,World.grownBy.refl _ _⟩
 case round=>
  obtain⟨k,os,cr,hk,rfl,rfl,HI,HR,HG⟩:=hrel
  have hcr:=HI.out.carry
  by_cases hlt:k<ps.length
  ·obtain⟨p,hp⟩:=ZqJ (ps.getD k 0)
   have hpl:p<1000000000:=by rw[<- hp];exact ZM Za HP.out k
   have hd:ps.drop k=p::ps.drop (k+1):=by rw[List.drop_eq_getElem_cons hlt];subst hp;simp[List.getD,hlt]
   have HR1:Hid (Row .u64 E wr 0 g cap0 (lo++(os++p::ps.drop (k+1))++hi)):=by have:=HR.out;rw[hd] at this;exact this
   have hidx:lo.length+k=lo.length+os.length:=by rw[HI.out.len]
   have cp:wr.cell? ⟨g,lo.length+k,none⟩=some (.int .u64 (p:Nat)):=HR1.out.cell (by rw[hidx];exact Zli _ _ _ _ _) (ZjV _ _ _ _ _ _ hidx)
   have fp:wr.frozen? ⟨g,lo.length+k,none⟩=false:=HR1.out.frozen _
   have HIX:=ZqH hidx
   have Hp:=ZqH hp
   clear hp hd hidx HR
   by_cases hlt2:k<bs.length
   ·obtain⟨b2,off2,rfl,hne,hb2,ha2⟩:=HQ.out (Zp3 Za)
    obtain⟨y,hy⟩:=ZqJ (bs.getD k 0)
    have hyl:y<1000000000:=by rw[<- hy];exact ZM Za HBS.out k
    have cy:wr.cell? ⟨b2,off2+k,none⟩=some (.int .u64 (y:Nat)):=(Zqd (w:=w) (a:=⟨b2,off2+k,none⟩) (HG.out.block b2 hb2 (by simpa using hne))).trans (ha2.getD hlt2 hy)
    have Hy:=ZqH hy
    clear hy ha2
    have E1:Hid (((cr:Int)+p+y) % 1000000000=((cr+p+y) % 1000000000:Nat)):=by show _=_;omega
    have E2:Hid (((cr:Int)+p+y)/1000000000=((cr+p+y)/1000000000:Nat)):=by show _=_;omega
    have HS:Hid (GiveInv 1000000000 ps bs (k+1) (os++[(cr+p+y) % 1000000000]) ((cr+p+y)/1000000000)):=HI.out.step Za HP.out HBS.out (by rw[Hp.out,Hy.out])
    go_wp2
    go_roundw
    case rel=>exact⟨k+1,_,_,Za,by go_num,by rw[E2.out],HS,Zc1 HR1.out HIX.out E1.out,ZbL HG.out _ _⟩
    case measure=>exact Zj
   ·have Hy:Hid (bs.getD k 0=0):=by show _=_;simp[List.getD,hlt2]
    have E1:Hid (((cr:Int)+p) % 1000000000=((cr+p+0) % 1000000000:Nat)):=by show _=_;omega
    have E2:Hid (((cr:Int)+p)/1000000000=((cr+p+0)/1000000000:Nat)):=by show _=_;omega
    have HS:Hid (GiveInv 1000000000 ps bs (k+1) (os++[(cr+p+0) % 1000000000]) ((cr+p+0)/1000000000)):=HI.out.step Za HP.out HBS.out (by rw[Hp.out,Hy.out])
    go_wp2
    go_roundw
    case rel=>exact⟨k+1,_,_,Za,by go_num,by rw[E2.out],HS,Zc1 HR1.out HIX.out E1.out,ZbL HG.out _ _⟩
    case measure=>exact Zj
  ·obtain rfl:k=ps.length:=Za
   have HR2:Hid (Row .u64 E wr 0 g cap0 (lo++os++hi)):=by have:=HR.out;show Row _ _ _ _ _ _ _;simpa using this
   clear HR
   go_wp2
   go_end0
   exact⟨rfl,os,cr,HI.out,HR2.out,HG.out⟩
theorem Zo2 {B:Nat} {l:List Nat} {k:Nat} (hl:∀ x ∈ l,x<B) (hk:l.length=k+2):∃ low,low<B ^ k/\val B l=(l.getD (k+1) 0*B+l.getD k 0)*B ^ k+low:=by
 refine⟨val B (l.take k),?_,?_⟩
 ·have:=Z4 (B:=B) (l:=l.take k) fun x hx=>hl x (List.mem_of_mem_take hx)
  rwa [Zqz,Nat.min_eq_left Za] at this
 ·have h1:=ZU B l (k+1)
  rw[Zp5 Za] at h1
  rw[h1,ZU,Zqs]
  grind
theorem Znh {B:Nat} {l:List Nat} {k:Nat} (hl:∀ x ∈ l,x<B) (hk:l.length=k+3) :
  ∃ low,low<B ^ k/\val B l=((l.getD (k+2) 0*B+l.getD (k+1) 0)*B+l.getD k 0)*B ^ k+low:=by
 refine⟨val B (l.take k),?_,?_⟩
 ·have:=Z4 (B:=B) (l:=l.take k) fun x hx=>hl x (List.mem_of_mem_take hx)
  rwa [Zqz,Nat.min_eq_left Za] at this
 ·have h1:=ZU B l (k+2)
  rw[Zp5 Za] at h1
  rw[h1,ZU,ZU,Zqs,Zqs]
  grind
structure Digit (B u v q head top second next:Nat):Prop where
 parts:∃ M ulow vlow,0<M/\ulow<M/\vlow<M/\u=(head*B+next)*M+ulow/\v=(top*B+second)*M+vlow
 le:q*v<=u
 lt:u<(q+1)*v
 qB:q<B
 topB:top<B
 top2:B<=2*top
 head_lt:head<(top+1)*B
 second_lt:second<B
 next_lt:next<B
structure Close (B u v q g:Nat):Prop where
 gB:g<B
 ge:q<=g
 le:(g-1)*v<=u
 qle:q*v<=u
 lt:u<(q+1)*v
theorem Digit.of {B:Nat} (hB:1<B) {b p:List Nat} {k:Nat} (hb:∀ x ∈ b,x<B) (hp:∀ x ∈ p,x<B) (hbl:b.length=k+2) (hpl:p.length=k+3)
  (htop:B<=2*b.getD (k+1) 0) (hlt:val B p<B*val B b) :
  Digit B (val B p) (val B b) (val B p/val B b) (p.getD (k+2) 0*B+p.getD (k+1) 0) (b.getD (k+1) 0) (b.getD k 0) (p.getD k 0):=by
 obtain⟨ulow,hul,hu⟩:=Znh hp hpl
 obtain⟨vlow,hvl,hv⟩:=Zo2 hb hbl
 have hM:0<B ^ k:=Nat.pow_pos Za
 have hv0:0<val B b:=by
  rcases Zqa (val B b) with h | h
  ·rw[h] at hlt;omega
  ·exact h
 have h1:=Nat.div_add_mod (val B p) (val B b)
 have h2:=Nat.mod_lt (val B p) hv0
 refine⟨⟨B ^ k,ulow,vlow,hM,hul,hvl,hu,hv⟩,Nat.div_mul_le_self _ _,?_,?_,ZM Za hb _,htop,?_,ZM Za hb _,ZM Za hp _⟩
 ·have:(val B p/val B b+1)*val B b=val B b*(val B p/val B b)+val B b:=Zk
  omega
 ·exact Nat.div_lt_of_lt_mul (by rw[Zqh];exact hlt)
 ·have h3:=ZM Za hb k
  have h4:(p.getD (k+2) 0*B+p.getD (k+1) 0)*(B*B ^ k)<=val B p:=by rw[hu];grind
  have h5:(b.getD k 0+1)*B ^ k<=B*B ^ k:=Zqn _ h3
  have h6:val B b<(b.getD (k+1) 0+1)*(B*B ^ k):=by
   rw[hv]
   have:(b.getD (k+1) 0*B+b.getD k 0)*B ^ k+B ^ k=b.getD (k+1) 0*(B*B ^ k)+(b.getD k 0+1)*B ^ k:=Zk
   have:(b.getD (k+1) 0+1)*(B*B ^ k)=b.getD (k+1) 0*(B*B ^ k)+B*B ^ k:=Zk
   omega
  have h7:B*val B b<B*((b.getD (k+1) 0+1)*(B*B ^ k)):=Nat.mul_lt_mul_of_pos_left h6 Za
  have h8:B*((b.getD (k+1) 0+1)*(B*B ^ k))=(b.getD (k+1) 0+1)*B*(B*B ^ k):=Zk
  refine Nat.lt_of_mul_lt_mul_right (a:=B*B ^ k) ?_
  omega
section
variable {B u v q head top second next g left:Nat}
theorem Digit.start (h:Digit B u v q head top second next):GuessInv B top head q (head/top) (head % top):=by
 obtain⟨M,ulow,vlow,hM,hul,hvl,hu,hv⟩:=h.parts
 have h1:=h.topB
 have h2:=h.top2
 have h3:=h.second_lt
 have h4:=h.next_lt
 have h5:0<top:=Za
 refine⟨by rw[Zqh];exact Nat.div_add_mod _ _,?_,ZiX h2 h1 h.head_lt,Nat.lt_trans (Nat.mod_lt _ h5) h1⟩
 refine Zkd (B:=B) (M:=M) (ulow:=next*M+ulow) (second:=second) (vlow:=vlow) hM ?_ ?_ ?_ h.le Za h5
 ·have:(next+1)*M<=B*M:=Zqn _ h4
  have:(next+1)*M=next*M+M:=Zk
  omega
 ·rw[hu];grind
 ·rw[hv];grind
theorem Digit.high (h:Digit B u v q head top second next) (hg:B<=g):q<g:=Zp2 h.qB hg
theorem Digit.test (h:Digit B u v q head top second next) (hg:GuessInv B top head q g left) (ht:left*B+next<g*second):q<g:=by
 obtain⟨M,ulow,vlow,hM,hul,hvl,hu,hv⟩:=h.parts
 have h1:=ZlZ hul hu hv h.le
 have h2:=(ZjR hg.eq).1 ht
 rcases Zp1 q g with h3 | h3
 ·exact h3
 ·have:g*(top*B+second)<=q*(top*B+second):=Zqn _ h3
  omega
theorem Digit.done (h:Digit B u v q head top second next) (hg:GuessInv B top head q g left) (hB:g<B) (ht:¬ left*B+next<g*second):Close B u v q g:=by
 obtain⟨M,ulow,vlow,hM,hul,hvl,hu,hv⟩:=h.parts
 have h1:=h.top2
 have h2:¬ g*(top*B+second) > head*B+next:=fun hc=>ht ((ZjR hg.eq).2 hc)
 exact⟨hB,hg.ge,ZgG Za hu hv hvl Za Za,h.le,h.lt⟩
theorem Digit.stop (h:Digit B u v q head top second next) (hg:GuessInv B top head q g left) (hq:q<g) (hl:B<=left+top):Close B u v q (g-1):=by
 obtain⟨M,ulow,vlow,hM,hul,hvl,hu,hv⟩:=h.parts
 have h1:=h.top2
 have h3:=ZiP hg hq
 have h4:=h.head_lt
 have hB:g-1<B:=by
  rcases Zp1 (g-1) B with h5 | h5
  ·exact h5
  ·have h6:B*top<=(g-1)*top:=Zqn _ h5
   have h7:(top+1)*B=B*top+B:=Zk
   omega
 have h5:=ZkO h3 hl Za (next:=next) h.second_lt
 exact⟨hB,Za,ZgG Za hu hv hvl Za h5,h.le,h.lt⟩
theorem Close.fits (h:Close B u v q g) (hf:g*v<=u):u-v*g<v:=by
 have h1:=h.lt
 have h2:=h.ge
 have h3:(q+1)*v<=(g+1)*v:=Zqn _ Za
 have h4:(g+1)*v=g*v+v:=Zk
 have h5:v*g=g*v:=Zqh _ _
 rw[h5]
 omega
theorem Close.over (h:Close B u v q g) (hf:u<g*v):1<=g/\u-v*(g-1)<v:=by
 have h0:1<=g:=by
  rcases Zqa g with h0 | h0
  ·subst h0;omega
  ·exact h0
 obtain⟨d,rfl⟩:∃ d,g=d+1:=⟨g-1,Za⟩
 refine⟨h0,?_⟩
 simp only[Zqo]
 have h5:(d+1)*v=d*v+v:=Zk
 have h6:v*d=d*v:=Zqh _ _
 rw[h6]
 have h7:q<d+1:=by
  rcases Zp1 q (d+1) with h7 | h7
  ·exact h7
  ·exact Zqx (Zp4 (Zqn v h7) h.qle) Za
 have h8:=h.lt
 have h9:=h.qle
 have h10:(q+1)*v=q*v+v:=Zk
 omega
end
structure DivInv (B:Nat) (b:List Nat) (N lq j:Nat) (A Q:List Nat):Prop where
 alen:A.length=lq+b.length
 alt:∀ x ∈ A,x<B
 qlen:Q.length=lq
 qlt:∀ x ∈ Q,x<B
 zero:∀ i,i<j->Q.getD i 0=0
 eq:val B A+val B Q*val B b=N
 top:val B (A.drop j)<val B b
theorem DivInv.split {B:Nat} {b:List Nat} {N lq i:Nat} {A Q:List Nat} (h:DivInv B b N lq (i+1) A Q) (hi:i<lq) :
  ∃ lo p hi',A=lo++p++hi'/\lo.length=i/\p.length=b.length+1/\(∀ x ∈ p,x<B):=by
 refine⟨A.take i,(A.drop i).take (b.length+1),(A.drop i).drop (b.length+1),?_,?_,?_,?_⟩
 ·rw[List.append_assoc,List.take_append_drop,List.take_append_drop]
 ·rw[Zqz,h.alen];omega
 ·rw[Zqz,List.length_drop,h.alen];omega
 ·intro x hx
  exact h.alt x (List.mem_of_mem_drop (List.mem_of_mem_take hx))
theorem DivInv.part {B:Nat} {b:List Nat} {N lq i:Nat} {lo p hi Q:List Nat} (hB:1<B) (hb:∀ x ∈ b,x<B) (h:DivInv B b N lq (i+1) (lo++p++hi) Q) (hlo:lo.length=i) (hp:p.length=b.length+1) :
  val B hi=0/\val B p<B*val B b:=by
 subst hlo
 have h1:=h.top
 rw[List.append_assoc,List.drop_append,List.drop_of_length_le Za,ZqA,show lo.length+1-lo.length=1 by omega] at h1
 rcases p with _ | ⟨x,p⟩
 ·simp at hp
 rw[List.cons_append,List.drop_succ_cons,List.drop_zero,ZbR] at h1
 have h2:=Z4 hb
 have h3:p.length=b.length:=by simpa using hp
 have hx:x<B:=h.alt x Zc
 rw[h3] at h1
 have h4:val B hi=0:=by
  rcases Zqa (val B hi) with h0 | h0
  ·exact h0
  ·have:B ^ b.length*1<=B ^ b.length*val B hi:=Nat.mul_le_mul_left _ h0
   omega
 refine⟨h4,?_⟩
 rw[h4] at h1
 rw[ZgL]
 have:B*(val B p+1)<=B*val B b:=Nat.mul_le_mul_left _ Za
 have:B*(val B p+1)=B*val B p+B:=Zk
 omega
theorem ZjM (l:List Nat) {i j:Nat} (v:Nat) (h:i≠j):(l.set i v).getD j 0=l.getD j 0:=by
 simp only[List.getD,List.getElem?_set,if_neg h]
theorem DivInv.step {B:Nat} {b:List Nat} {N lq i:Nat} {lo p hi Q:List Nat} (hB:1<B) (hb:∀ x ∈ b,x<B) (h:DivInv B b N lq (i+1) (lo++p++hi) Q) (hi0:i<lq) (hlo:lo.length=i)
  (hp:p.length=b.length+1) {p':List Nat} (hp'l:p'.length=p.length) (hp':∀ x ∈ p',x<B) {g:Nat} (hg:g<B) (hle:val B b*g<=val B p) (hval:val B p'=val B p-val B b*g)
  (hlt:val B p-val B b*g<val B b):DivInv B b N lq i (lo++p'++hi) (Q.set i g):=by
 have ⟨h1,h2⟩:=h.part hB hb hlo hp
 subst hlo
 have hQ:Q.getD lo.length 0=0:=h.zero _ Za
 have hql:=h.qlen
 refine⟨?_,?_,by simp[hql],?_,?_,?_,?_⟩
 ·have:=h.alen
  simp only[Zqc] at this ⊢
  omega
 ·intro x hx
  rcases List.mem_append.1 hx with hx | hx
  ·rcases List.mem_append.1 hx with hx | hx
   ·exact h.alt x (by simp[hx])
   ·exact hp' x hx
  ·exact h.alt x (by simp[hx])
 ·exact Zdw h.qlt hg
 ·intro j hj
  rw[ZjM _ _ Za]
  exact h.zero j Za
 ·have h3:=ZhR B Q lo.length g Za
  have h4:Q[lo.length]'Za=0:=by
   rw[<- hQ];simp[List.getD,show lo.length<Q.length by omega]
  rw[h4] at h3
  have h5:=h.eq
  rw[ZbR,ZbR,h1] at h5 ⊢
  have h6:val B p=val B p'+val B b*g:=Za
  rw[h6] at h5
  have h7:val B (Q.set lo.length g)=val B Q+B ^ lo.length*g:=Za
  rw[h7]
  grind
 ·rw[List.append_assoc,List.drop_append,List.drop_of_length_le Za,ZqA,Nat.sub_self,List.drop_zero,ZbR,h1]
  omega
theorem DivInv.start {B:Nat} (hB:1<B) {b A:List Nat} {N lq:Nat} (hA:∀ x ∈ A,x<B) (hl:A.length+1=lq+b.length) (hbl:0<b.length) (hv:val B A=N) (hbt:B ^ (b.length-1)<=val B b) :
  DivInv B b N lq lq (A++[0]) (List.replicate lq 0):=by
 refine⟨by simp;omega,Zdc hA Za,Zc,?_,?_,?_,?_⟩
 ·intro x hx
  have:=(List.mem_replicate.1 hx).2
  omega
 ·intro i _
  simp only[List.getD,List.getElem?_replicate];split<;>rfl
 ·rw[Zc5,Ze3,hv];simp
 ·rw[List.drop_append,ZbR]
  have h1:val B (A.drop lq)<B ^ (b.length-1):=by
   have:=Z4 (B:=B) (l:=A.drop lq) fun x hx=>hA x (List.mem_of_mem_drop hx)
   rw[List.length_drop] at this
   rwa [show A.length-lq=b.length-1 by omega] at this
  have h2:val B (List.drop (lq-A.length) [0])=0:=by
   refine Zhx fun x hx=>?_
   have:=List.mem_of_mem_drop hx
   simpa using this
  rw[h2]
  omega
theorem DivInv.done {B:Nat} {b A Q:List Nat} {n m s lq:Nat} (h:DivInv B b (n*s) lq 0 A Q) (hs:0<s) (hb:val B b=m*s):val B Q=n/m/\val B A/s=n % m:=by
 have h1:=h.top
 have h2:=h.eq
 rw[List.drop_zero] at h1
 rw[hb] at h1 h2
 have:=Zmh hs (by omega:n*s=val B Q*(m*s)+val B A) h1
 exact⟨this.1,this.2.1⟩
theorem Zpu {B m k s:Nat} {xs:List Nat} (hB:1<B) (h2:B % 2=0) (hxs:Zp B m=xs) (hk:xs.length=k+1) (hs:s=B/(xs.getD k 0+1)) :
  (Zp B (m*s)).length=k+1/\B<=2*(Zp B (m*s)).getD k 0/\1<=s/\s<B/\B ^ k<=m*s:=by
 have hx:∀ x ∈ xs,x<B:=by rw[<- hxs];exact ZR hB m
 have hv:0<xs.getD k 0:=by
  rcases Zqa (xs.getD k 0) with h0 | h0
  ·exfalso
   have hl:=Zg6 hB m
   rw[hxs,List.getLast?_eq_getElem?,hk,Zqo,Zqg Za] at hl
   simp only[List.getD,Zqg (show k<xs.length by omega),Option.getD_some] at h0
   exact hl (by rw[h0])
  ·exact h0
 have hvB:=ZM Za hx k
 obtain⟨v,hve⟩:=ZqJ (xs.getD k 0)
 rw[hve] at hv hvB hs
 have ⟨s1,s2,s3⟩:=ZnF hv hvB
 rw[<- hs] at s1 s2 s3
 have hm:m=val B (xs.take k)+B ^ k*v:=by
  have h1:=ZU B xs k
  rw[Zp5 Za,hve,<- hxs,ZO hB] at h1
  rw[<- hxs];exact h1
 have hlow:val B (xs.take k)<B ^ k:=by
  have:=Z4 (B:=B) (l:=xs.take k) fun x hx'=>hx x (List.mem_of_mem_take hx')
  rwa [Zqz,Nat.min_eq_left Za] at this
 have hsB:s*(v+1)<=B:=by rw[hs];exact Nat.div_mul_le_self _ _
 have hP:0<B ^ k:=Nat.pow_pos Za
 have hup:m*s<B ^ (k+1):=by
  have h1:m<B ^ k*(v+1):=by rw[hm,Nat.mul_add,Nat.mul_one];omega
  have h2:m*s<B ^ k*(v+1)*s:=Nat.mul_lt_mul_of_pos_right h1 Za
  have h3:B ^ k*(s*(v+1))<=B ^ k*B:=Nat.mul_le_mul_left _ hsB
  have h4:B ^ k*(v+1)*s=B ^ k*(s*(v+1)):=Zk
  rw[Zqs]
  omega
 have hdown:B ^ k*(s*v)<=m*s:=by
  rw[hm]
  have:(val B (xs.take k)+B ^ k*v)*s=val B (xs.take k)*s+B ^ k*(s*v):=Zk
  omega
 have hsv:1<=s*v:=Nat.mul_pos Za hv
 have hone:B ^ k<=m*s:=by
  have:B ^ k*1<=B ^ k*(s*v):=Nat.mul_le_mul_left _ hsv
  omega
 have hlen:(Zp B (m*s)).length=k+1:=by
  have h1:=Za0 hB hup
  have h2:=Zho hB hone
  omega
 have hsB2:s<B:=by
  have:s*2<=s*(v+1):=Nat.mul_le_mul_left _ Za
  omega
 refine⟨hlen,?_,s3,hsB2,hone⟩
 obtain⟨ys,hys⟩:=ZqJ (Zp B (m*s))
 have hy:∀ x ∈ ys,x<B:=by rw[<- hys];exact ZR hB _
 rw[hys] at hlen ⊢
 have hval:val B ys=m*s:=by rw[<- hys];exact ZO hB _
 have h5:=ZU B ys k
 rw[Zp5 Za,hval] at h5
 have h6:val B (ys.take k)<B ^ k:=by
  have:=Z4 (B:=B) (l:=ys.take k) fun x hx'=>hy x (List.mem_of_mem_take hx')
  rwa [Zqz,Nat.min_eq_left Za] at this
 have h7:s*v<=ys.getD k 0:=by
  have:B ^ k*(s*v)<B ^ k*(ys.getD k 0+1):=by rw[Nat.mul_add,Nat.mul_one];omega
  have:=Nat.lt_of_mul_lt_mul_left this
  omega
 omega
theorem ZgW {B n s:Nat} (hB:1<B) (hs:1<=s):(Zp B n).length<=(Zp B (n*s)).length:=
 Zas hB (Nat.le_mul_of_pos_right _ hs)
theorem Zd2 {B x:Nat} (h:0<x) (hx:x<B):Zp B x=[x]:=by
 rw[ZbJ Za h,Nat.mod_eq_of_lt hx,Nat.div_eq_of_lt hx,ZL]
theorem ZgI {B n s k:Nat} (hB:1<B) (hs:s<B) (hk:(Zp B n).length<=k):(Zp B (n*s)).length<=k+1:=by
 have h1:=Z4 (ZR hB n)
 rw[ZO hB] at h1
 have h2:B ^ (Zp B n).length<=B ^ k:=Zp6 Za hk
 refine Za0 hB ?_
 rw[Zqs]
 exact Nat.mul_lt_mul_of_lt_of_le (Zp2 h1 h2) (Zqr hs) Za
theorem Num.below {B:Nat} {w w':World} {v:Value} {n:Nat} (h:Num w v n) (hb:Below B w w') (hB:w.heap.size<=B):Num w' v n:=Nums.below h hb hB
theorem Zn9 {w:World} {b off cap:Nat} {xs:List Nat} (hb:b<w.heap.size) (ha:At .u64 w b off xs) (hx:∀ x ∈ xs,x<1000000000) (hl:xs.length<=cap) (hc:cap<=maxLen) (n:Nat) (hn:val 1000000000 xs=n) :
  Num w (.slice (some ⟨b,off,none⟩) (Zp 1000000000 n).length cap) n:=by
 subst hn
 have h1:=Zfd (B:=1000000000) Za hx
 refine⟨_,cap,rfl,Za,hc,fun _=>⟨b,off,rfl,hb,?_⟩⟩
 have h2:=Zci (B:=1000000000) Za hx
 intro j hj
 have h3:=ha j Za
 rw[h3]
 have:(Zp 1000000000 (val 1000000000 xs))[j]?=(xs.take (Zp 1000000000 (val 1000000000 xs)).length)[j]?:=by rw[<- h2]
 rw[Zqg hj,List.getElem?_take_of_lt hj,Zqg Za] at this
 rw[ZpZ this]
theorem ZjO (w:World) (p:Option Addr) (cap:Nat) (hc:cap<=maxLen):Num w (.slice p 0 cap) 0:=by
 refine⟨p,cap,?_,?_,hc,fun h=>Zqx (ZL _) h⟩
 ·rw[ZL];rfl
 ·rw[ZL];exact Zp8 _
def Ze0 (w:World) (n m:Nat) (e:Ending) (w':World):Prop:=∃ q r,e=.returned (.tuple #[q,r])/\Num w' q (n/m)/\Num w' r (n % m)/\Below w.heap.size w w'
theorem Zlx {v1 v2:Value} {n m:Nat} {w:World} (h1:Num w v1 n) (h2:Num w v2 m) (hl1:(Zp 1000000000 n).length<=1000000) (hl2:(Zp 1000000000 m).length<=1000000) (hlt:n<m) :
  Calls Tryz.prog 107 #[v1,v2] w (Ze0 w n m):=by
 have H1:=ZqH h1
 have H2:=ZqH h2
 clear h1 h2
 go_enter Tryz.func107,Tryz.ntmps107
 go_wp2_with fail
 refine(Zdh H1.out H2.out hl1 hl2).mono ?_
 rintro e w1 ⟨r,rfl,hS,hB⟩
 have hr:r<0:=hS.1.2 hlt
 have HB:=ZqH hB
 clear hS hB
 go_wp2
 go_ret2
 refine⟨_,_,rfl,?_,?_,HB.out⟩
 ·rw[Nat.div_eq_of_lt hlt];exact ZjO _ _ _ (Zp8 _)
 ·rw[Nat.mod_eq_of_lt hlt];exact H1.out.below HB.out ZqI
theorem ZlS (p1 p2:Option Addr) (c1 c2:Nat) (xs:List Nat) (d n:Nat) (w:World) (hxs:Zp 1000000000 n=xs) (hd0:0<d) (hd1:d<1000000000) (h1:Num w (.slice p1 xs.length c1) n)
  (h2:Num w (.slice p2 1 c2) d) (hl1:xs.length<=1000000) (hle:d<=n) :
  Calls Tryz.prog 107 #[.slice p1 xs.length c1,.slice p2 1 c2] w (Ze0 w n d):=by
 have e1:=Zd2 hd0 hd1
 have H1:=ZqH h1
 have H2:=ZqH h2
 have HXS:=ZqH hxs
 obtain⟨_,_,hv,_,_,h2'⟩:=h2
 rw[e1] at h2' hv
 injection hv with hv1 hv2 hv3
 subst hv1
 obtain⟨b,off,rfl,hb,ha⟩:=h2' Zc
 have hcd:w.cell? ⟨b,off,none⟩=some (.int .u64 (d:Nat)):=ha.getD (j:=0) Zc rfl
 clear h2' hxs h1 ha hv2 hv3
 go_enter Tryz.func107,Tryz.ntmps107
 go_wp2_with fail
 refine(Zdh H1.out H2.out (by rw[HXS.out];exact hl1) (by rw[e1];simp)).mono ?_
 rintro e w1 ⟨r,rfl,hS,hB⟩
 have hr:¬ r<0:=fun h=>by have:=hS.1.1 h;omega
 have hcd1:w1.cell? ⟨b,off,none⟩=some (.int .u64 (d:Nat)):=(hB.cell (p:=⟨b,off,none⟩) hb).trans hcd
 have HB:=ZqH hB
 clear hS hB hcd
 obtain⟨_,_,hv1,hc1,hc2,hp1⟩:=H1.out
 injection hv1 with hv1 hv2 hv3
 subst hv1
 rw[HXS.out] at hp1
 have HX:Hid (∀ x ∈ xs,x<1000000000):=by rw[<- HXS.out];exact ZR Za n
 have HV:Hid (val 1000000000 xs=n):=by rw[<- HXS.out];exact ZO Za n
 have HP:Hid (xs≠[]->∃ b off,p1=some ⟨b,off,none⟩/\b<w1.heap.size/\At .u64 w1 b off xs):=fun h=>by
  obtain⟨b,off,h1,h2,h3⟩:=hp1 h
  exact⟨b,off,h1,Zp2 h2 HB.out.size,h3.below HB.out h2⟩
 clear hp1 hv2 hv3 hc1 hc2
 go_wp2_with fail
 refine(Zgv p1 c1 xs hl1 d Za Za w1 HP.out HX.out).mono ?_
 rintro e w2 ⟨q,rfl,hq,hB2⟩
 rw[HV.out] at hq ⊢
 have HQ:=ZqH hq.num
 have HB2:=ZqH hB2
 clear hq hB2
 obtain⟨r',hr'⟩:=ZqJ (n % d)
 have hrl:r'<1000000000:=by rw[<- hr'];exact Nat.lt_trans (Nat.mod_lt _ hd0) hd1
 rw[hr']
 have HR':=ZqH hr'
 clear hr'
 go_wp2_with fail
 have ha3:At .u64 (w2.alloc (.cells #[.int .u64 (r':Nat)] 146)) w2.heap.size 0 [r']:=by
  intro j hj
  obtain rfl:j=0:=by simp at hj;omega
  exact ZP _ _ _ _ rfl
 have hx3:∀ x ∈ [r'],x<1000000000:=by simp;omega
 have HN:=ZqH (Zn9 (w:=w2.alloc (.cells #[.int .u64 (r':Nat)] 146)) (cap:=1) Zc ha3 hx3 Zc (by unfold maxLen;omega) r' (by simp[val]))
 refine(Zev (some ⟨w2.heap.size,0,none⟩) 1 [r'] _ Zc (by unfold maxLen;omega) hx3 (fun _=>⟨w2.heap.size,0,rfl,ha3⟩)).mono ?_
 rintro e w' ⟨rfl,rfl⟩
 have e2:val 1000000000 [r']=r':=by simp[val]
 rw[e2]
 clear ha3 hx3
 go_wp2
 go_ret2
 refine⟨_,_,rfl,HQ.out.below ((ZpV _ _).alloc ZqI _) ZqI,by rw[HR'.out];exact HN.out,?_⟩
 exact(HB.out.trans ((Below.mono HB2.out HB.out.size))).alloc (Zp4 HB.out.size HB2.out.size) _
end Go.Proofs.YtjmckebecpjjfaaGreatDoor
