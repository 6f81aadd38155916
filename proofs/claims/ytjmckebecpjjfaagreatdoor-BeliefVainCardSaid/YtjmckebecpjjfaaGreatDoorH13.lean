/- The parts BelI, BelG, BelH, BelM. -/
import Derived.Test.YtjmckebecpjjfaaGreatDoorH12
import Derived.DeepKeys4
import Derived.Maps.OwnOps
import Derived.Maps.Range
set_option maxRecDepth 100000
set_option maxHeartbeats 4000000
set_option linter.unusedVariables false
set_option linter.unusedSimpArgs false
namespace Go.Proofs.YtjmckebecpjjfaaGreatDoor
open Go.RowKit Go.Shelf
attribute [local go_sem ↓] Go.wp_at_zero Go.wp_at_succ
theorem ZcK {f:Nat->Bool} : ∀ {n:Nat},ZV f n=true<->∃ k,k<n/\f k=true
 | 0=>by simp[ZV]
 | n+1=>by
  simp only[ZV,Bool.or_eq_true,ZcK (n:=n)]
  constructor
  ·rintro(⟨k,h1,h2⟩ | h)
   ·exact⟨k,Za,h2⟩
   ·exact⟨n,Za,h⟩
  ·rintro⟨k,h1,h2⟩
   by_cases e:k=n
   ·subst e;exact .inr h2
   ·exact .inl ⟨k,Za,h2⟩
theorem Zbq {f:Nat->Bool} {n:Nat} (h:∃ k,k<n/\f k=true):ZV f n=true:=ZcK.2 h
theorem ZbZ {f:Nat->Bool} {n:Nat} (h:∀ k,k<n->f k=false):ZV f n=false:=by
 rw[<- Bool.not_eq_true,ZcK]
 rintro⟨k,h1,h2⟩
 rw[h k h1] at h2
 cases h2
def IdxB (w:World) (n:Nat) (f:Nat->Bool) (e:Ending) (w':World):Prop:=
 ∃ i:Int,e=.returned (.int .i64 i)/\((0<=i/\∃ k,k<n/\f k=true)\/(i = -1/\∀ k,k<n->f k=false))/\Below w.heap.size w w'
theorem ZoB {g:Nat} {caps:Array Value} (hent:∀ args w,(callFunc g args).run Tryz.prog w=.ok (.enter g args) w) {f:Nat->Bool} {p:Option Addr} {n c:Nat} {w:World} (x0 x1 x2:Nat->Int) (hc:n<=c/\c<=9223372036854775807)
  (hat:0<n->∃ b o,p=some ⟨b,o,none⟩/\∀ W,Below w.heap.size w W->∀ k,k<n->W.cell? ⟨b,o+k*3,none⟩=some (.int .i64 (x0 k))/\W.cell? ⟨b,o+k*3+1,none⟩=some (.int .i64 (x1 k))/\W.cell? ⟨b,o+k*3+2,none⟩=some (.int .i64 (x2 k)))
  (hf:∀ k,k<n->∀ W,Below w.heap.size w W->Calls Tryz.prog g (#[.agg #[.int .i64 (x0 k),.int .i64 (x1 k),.int .i64 (x2 k)]]++caps) W (ZB W (f k))) :
  Calls Tryz.prog 191 #[.slice p n c,.func (.func g) #[] caps] w (IdxB w n f):=by
 obtain⟨hc1,hc2⟩:=hc
 have HV:=ZqH hat
 have HF:=ZqH hf
 clear hat hf
 go_enter Tryz.func191,Tryz.ntmps191
 go_wp2
 go_loopw [8] (fun i wr=>∃ (k:Nat),i=.int .i64 k/\k<=n/\Hid (∀ j,j<k->f j=false)/\ZqB w wr) (fun i _=>n-(intOf i).toNat)
 case atStart=>exact⟨0,rfl,Zp8 _,fun j h=>Za,ZpV _ _⟩
 case round=>
  obtain⟨k,rfl,hk,HK,HB⟩:=hrel
  by_cases hlt:k<n
  ·obtain⟨b,o,rfl,hat⟩:=HV.out Za
   obtain⟨e0,e1,e2⟩:=hat wr HB.out k hlt
   have hF:=HF.out k hlt
   generalize x0 k=a0 at e0 hF;generalize x1 k=a1 at e1 hF;generalize x2 k=a2 at e2 hF
   have HG:=ZqH hF
   clear hF hat
   obtain⟨r,hr⟩:=ZqJ (f k)
   have HR:=ZqH hr
   clear hr
   go_wp2_with fail
   refine(HG.out _ HB.out).mono ?_
   rintro e w2 ⟨rfl,hb⟩
   rw[HR.out]
   have HB2:=ZqH (HB.out.trans (hb.mono HB.out.size))
   clear hb
   cases r
   ·have HK2:Hid (∀ j,j<k+1->f j=false):=fun j h=>by
     rcases Zp1 j k with h3 | h3
     ·exact HK.out j h3
     ·obtain rfl:j=k:=Za
      exact HR.out
    go_wp2
    go_roundw
    case rel=>exact⟨k+1,by go_num,Za,HK2,HB2⟩
    case measure=>exact Zj
   ·go_wp2
    go_ret
    exact⟨k,rfl,.inl ⟨Za,k,hlt,HR.out⟩,HB2.out⟩
  ·obtain rfl:n=k:=Za
   go_wp2
   go_ret
   exact⟨-1,rfl,.inr ⟨rfl,fun j h=>HK.out j h⟩,HB.out⟩
theorem ZpA {g:Nat} {caps:Array Value} (hent:∀ args w,(callFunc g args).run Tryz.prog w=.ok (.enter g args) w) {f:Nat->Bool} {p:Option Addr} {n c:Nat} {w:World} (x0 x1 x2:Nat->Int) (hc:n<=c/\c<=9223372036854775807)
  (hat:0<n->∃ b o,p=some ⟨b,o,none⟩/\∀ W,Below w.heap.size w W->∀ k,k<n->W.cell? ⟨b,o+k*3,none⟩=some (.int .i64 (x0 k))/\W.cell? ⟨b,o+k*3+1,none⟩=some (.int .i64 (x1 k))/\W.cell? ⟨b,o+k*3+2,none⟩=some (.int .i64 (x2 k)))
  (hf:∀ k,k<n->∀ W,Below w.heap.size w W->Calls Tryz.prog g (#[.agg #[.int .i64 (x0 k),.int .i64 (x1 k),.int .i64 (x2 k)]]++caps) W (ZB W (f k))) :
  Calls Tryz.prog 153 #[.slice p n c,.func (.func g) #[] caps] w (ZB w (ZV f n)):=by
 have HI:=ZqH (ZoB hent x0 x1 x2 hc hat hf)
 clear hat hf
 go_enter Tryz.func153,Tryz.ntmps153
 go_wp2_with fail
 refine HI.out.mono ?_
 rintro e w2 ⟨i,rfl,hE,hb⟩
 have HB:=ZqH hb
 rcases hE with ⟨h0,h⟩ | ⟨rfl,h⟩
 ·have HE:=ZqH (Zbq h)
  have h0d:decide (0<=i)=true:=decide_eq_true h0
  clear h hb
  go_wp2
  go_ret
  exact⟨by rw[HE.out];simp,HB.out⟩
 ·have HE:=ZqH (ZbZ h)
  clear h hb
  go_wp2
  go_ret
  exact⟨by rw[HE.out];simp,HB.out⟩
theorem ZkG {g:Nat} {caps:Array Value} (hent:∀ args w,(callFunc g args).run Tryz.prog w=.ok (.enter g args) w) {f:Nat->Bool} {p:Option Addr} {n c:Nat} {w:World} (x0:Nat->Option Addr) (x1 x2:Nat->Nat) (hc:n<=c/\c<=9223372036854775807)
  (hat:0<n->∃ b o,p=some ⟨b,o,none⟩/\∀ W,Below w.heap.size w W->∀ k,k<n->W.cell? ⟨b,o+k,none⟩=some (.slice (x0 k) (x1 k) (x2 k)))
  (hf:∀ k,k<n->∀ W,Below w.heap.size w W->Calls Tryz.prog g (#[.slice (x0 k) (x1 k) (x2 k)]++caps) W (ZB W (f k))) :
  Calls Tryz.prog 204 #[.slice p n c,.func (.func g) #[] caps] w (IdxB w n f):=by
 obtain⟨hc1,hc2⟩:=hc
 have HV:=ZqH hat
 have HF:=ZqH hf
 clear hat hf
 go_enter Tryz.func204,Tryz.ntmps204
 go_wp2
 go_loopw [8] (fun i wr=>∃ (k:Nat),i=.int .i64 k/\k<=n/\Hid (∀ j,j<k->f j=false)/\ZqB w wr) (fun i _=>n-(intOf i).toNat)
 case atStart=>exact⟨0,rfl,Zp8 _,fun j h=>Za,ZpV _ _⟩
 case round=>
  obtain⟨k,rfl,hk,HK,HB⟩:=hrel
  by_cases hlt:k<n
  ·obtain⟨b,o,rfl,hat⟩:=HV.out Za
   obtain e0:=hat wr HB.out k hlt
   have hF:=HF.out k hlt
   generalize x0 k=a0 at e0 hF;generalize x1 k=a1 at e0 hF;generalize x2 k=a2 at e0 hF
   have HG:=ZqH hF
   clear hF hat
   obtain⟨r,hr⟩:=ZqJ (f k)
   have HR:=ZqH hr
   clear hr
   go_wp2_with fail
   refine(HG.out _ HB.out).mono ?_
   rintro e w2 ⟨rfl,hb⟩
   rw[HR.out]
   have HB2:=ZqH (HB.out.trans (hb.mono HB.out.size))
   clear hb
   cases r
   ·have HK2:Hid (∀ j,j<k+1->f j=false):=fun j h=>by
     rcases Zp1 j k with h3 | h3
     ·exact HK.out j h3
     ·obtain rfl:j=k:=Za
      exact HR.out
    go_wp2
    go_roundw
    case rel=>exact⟨k+1,by go_num,Za,HK2,HB2⟩
    case measure=>exact Zj
   ·go_wp2
    go_ret
    exact⟨k,rfl,.inl ⟨Za,k,hlt,HR.out⟩,HB2.out⟩
  ·obtain rfl:n=k:=Za
   go_wp2
   go_ret
   exact⟨-1,rfl,.inr ⟨rfl,fun j h=>HK.out j h⟩,HB.out⟩
theorem ZmH {g:Nat} {caps:Array Value} (hent:∀ args w,(callFunc g args).run Tryz.prog w=.ok (.enter g args) w) {f:Nat->Bool} {p:Option Addr} {n c:Nat} {w:World} (x0:Nat->Option Addr) (x1 x2:Nat->Nat) (hc:n<=c/\c<=9223372036854775807)
  (hat:0<n->∃ b o,p=some ⟨b,o,none⟩/\∀ W,Below w.heap.size w W->∀ k,k<n->W.cell? ⟨b,o+k,none⟩=some (.slice (x0 k) (x1 k) (x2 k)))
  (hf:∀ k,k<n->∀ W,Below w.heap.size w W->Calls Tryz.prog g (#[.slice (x0 k) (x1 k) (x2 k)]++caps) W (ZB W (f k))) :
  Calls Tryz.prog 181 #[.slice p n c,.func (.func g) #[] caps] w (ZB w (ZV f n)):=by
 have HI:=ZqH (ZkG hent x0 x1 x2 hc hat hf)
 clear hat hf
 go_enter Tryz.func181,Tryz.ntmps181
 go_wp2_with fail
 refine HI.out.mono ?_
 rintro e w2 ⟨i,rfl,hE,hb⟩
 have HB:=ZqH hb
 rcases hE with ⟨h0,h⟩ | ⟨rfl,h⟩
 ·have HE:=ZqH (Zbq h)
  have h0d:decide (0<=i)=true:=decide_eq_true h0
  clear h hb
  go_wp2
  go_ret
  exact⟨by rw[HE.out];simp,HB.out⟩
 ·have HE:=ZqH (ZbZ h)
  clear h hb
  go_wp2
  go_ret
  exact⟨by rw[HE.out];simp,HB.out⟩
theorem ZlJ {g:Nat} {caps:Array Value} (hent:∀ args w,(callFunc g args).run Tryz.prog w=.ok (.enter g args) w) {f:Nat->Bool} {p:Option Addr} {n c:Nat} {w:World} (x0 x1:Nat->Int) (s0 s1:Nat->ByteArray) (hc:n<=c/\c<=9223372036854775807)
  (hat:0<n->∃ b o,p=some ⟨b,o,none⟩/\∀ W,Below w.heap.size w W->∀ k,k<n->W.cell? ⟨b,o+k*4,none⟩=some (.int .i64 (x0 k))/\W.cell? ⟨b,o+k*4+1,none⟩=some (.int .i64 (x1 k))/\W.cell? ⟨b,o+k*4+2,none⟩=some (.string (s0 k))/\W.cell? ⟨b,o+k*4+3,none⟩=some (.string (s1 k)))
  (hf:∀ k,k<n->∀ W,Below w.heap.size w W->Calls Tryz.prog g (#[.agg #[.int .i64 (x0 k),.int .i64 (x1 k),.string (s0 k),.string (s1 k)]]++caps) W (ZB W (f k))) :
  Calls Tryz.prog 114 #[.slice p n c,.func (.func g) #[] caps] w (IdxB w n f):=by
 obtain⟨hc1,hc2⟩:=hc
 have HV:=ZqH hat
 have HF:=ZqH hf
 clear hat hf
 go_enter Tryz.func114,Tryz.ntmps114
 go_wp2
 go_loopw [8] (fun i wr=>∃ (k:Nat),i=.int .i64 k/\k<=n/\Hid (∀ j,j<k->f j=false)/\ZqB w wr) (fun i _=>n-(intOf i).toNat)
 case atStart=>exact⟨0,rfl,Zp8 _,fun j h=>Za,ZpV _ _⟩
 case round=>
  obtain⟨k,rfl,hk,HK,HB⟩:=hrel
  by_cases hlt:k<n
  ·obtain⟨b,o,rfl,hat⟩:=HV.out Za
   obtain⟨e0,e1,e2,e3⟩:=hat wr HB.out k hlt
   have hF:=HF.out k hlt
   generalize x0 k=a0 at e0 hF;generalize x1 k=a1 at e1 hF;generalize s0 k=a2 at e2 hF;generalize s1 k=a3 at e3 hF
   have HG:=ZqH hF
   clear hF hat
   obtain⟨r,hr⟩:=ZqJ (f k)
   have HR:=ZqH hr
   clear hr
   go_wp2_with fail
   refine(HG.out _ HB.out).mono ?_
   rintro e w2 ⟨rfl,hb⟩
   rw[HR.out]
   have HB2:=ZqH (HB.out.trans (hb.mono HB.out.size))
   clear hb
   cases r
   ·have HK2:Hid (∀ j,j<k+1->f j=false):=fun j h=>by
     rcases Zp1 j k with h3 | h3
     ·exact HK.out j h3
     ·obtain rfl:j=k:=Za
      exact HR.out
    go_wp2
    go_roundw
    case rel=>exact⟨k+1,by go_num,Za,HK2,HB2⟩
    case measure=>exact Zj
   ·go_wp2
    go_ret
    exact⟨k,rfl,.inl ⟨Za,k,hlt,HR.out⟩,HB2.out⟩
  ·obtain rfl:n=k:=Za
   go_wp2
   go_ret
   exact⟨-1,rfl,.inr ⟨rfl,fun j h=>HK.out j h⟩,HB.out⟩
theorem ZnP {g:Nat} {caps:Array Value} (hent:∀ args w,(callFunc g args).run Tryz.prog w=.ok (.enter g args) w) {f:Nat->Bool} {p:Option Addr} {n c:Nat} {w:World} (x0 x1:Nat->Int) (s0 s1:Nat->ByteArray) (hc:n<=c/\c<=9223372036854775807)
  (hat:0<n->∃ b o,p=some ⟨b,o,none⟩/\∀ W,Below w.heap.size w W->∀ k,k<n->W.cell? ⟨b,o+k*4,none⟩=some (.int .i64 (x0 k))/\W.cell? ⟨b,o+k*4+1,none⟩=some (.int .i64 (x1 k))/\W.cell? ⟨b,o+k*4+2,none⟩=some (.string (s0 k))/\W.cell? ⟨b,o+k*4+3,none⟩=some (.string (s1 k)))
  (hf:∀ k,k<n->∀ W,Below w.heap.size w W->Calls Tryz.prog g (#[.agg #[.int .i64 (x0 k),.int .i64 (x1 k),.string (s0 k),.string (s1 k)]]++caps) W (ZB W (f k))) :
  Calls Tryz.prog 131 #[.slice p n c,.func (.func g) #[] caps] w (ZB w (ZV f n)):=by
 have HI:=ZqH (ZlJ hent x0 x1 s0 s1 hc hat hf)
 clear hat hf
 go_enter Tryz.func131,Tryz.ntmps131
 go_wp2_with fail
 refine HI.out.mono ?_
 rintro e w2 ⟨i,rfl,hE,hb⟩
 have HB:=ZqH hb
 rcases hE with ⟨h0,h⟩ | ⟨rfl,h⟩
 ·have HE:=ZqH (Zbq h)
  have h0d:decide (0<=i)=true:=decide_eq_true h0
  clear h hb
  go_wp2
  go_ret
  exact⟨by rw[HE.out];simp,HB.out⟩
 ·have HE:=ZqH (ZbZ h)
  clear h hb
  go_wp2
  go_ret
  exact⟨by rw[HE.out];simp,HB.out⟩
theorem Zmq {g:Nat} {caps:Array Value} (hent:∀ args w,(callFunc g args).run Tryz.prog w=.ok (.enter g args) w) {f:Nat->Bool} {p:Option Addr} {n c:Nat} {w:World} (s0 s1:Nat->ByteArray) (p0:Nat->Option Addr) (n0 c0:Nat->Nat) (p1:Nat->Option Addr) (n1 c1:Nat->Nat) (hc:n<=c/\c<=9223372036854775807)
  (hat:0<n->∃ b o,p=some ⟨b,o,none⟩/\∀ W,Below w.heap.size w W->∀ k,k<n->W.cell? ⟨b,o+k*4,none⟩=some (.string (s0 k))/\W.cell? ⟨b,o+k*4+1,none⟩=some (.string (s1 k))/\W.cell? ⟨b,o+k*4+2,none⟩=some (.slice (p0 k) (n0 k) (c0 k))/\W.cell? ⟨b,o+k*4+3,none⟩=some (.slice (p1 k) (n1 k) (c1 k)))
  (hf:∀ k,k<n->∀ W,Below w.heap.size w W->Calls Tryz.prog g (#[.agg #[.string (s0 k),.string (s1 k),.slice (p0 k) (n0 k) (c0 k),.slice (p1 k) (n1 k) (c1 k)]]++caps) W (ZB W (f k))) :
  Calls Tryz.prog 124 #[.slice p n c,.func (.func g) #[] caps] w (IdxB w n f):=by
 obtain⟨hc1,hc2⟩:=hc
 have HV:=ZqH hat
 have HF:=ZqH hf
 clear hat hf
 go_enter Tryz.func124,Tryz.ntmps124
 go_wp2
 go_loopw [8] (fun i wr=>∃ (k:Nat),i=.int .i64 k/\k<=n/\Hid (∀ j,j<k->f j=false)/\ZqB w wr) (fun i _=>n-(intOf i).toNat)
 case atStart=>exact⟨0,rfl,Zp8 _,fun j h=>Za,ZpV _ _⟩
 case round=>
  obtain⟨k,rfl,hk,HK,HB⟩:=hrel
  by_cases hlt:k<n
  ·obtain⟨b,o,rfl,hat⟩:=HV.out Za
   obtain⟨e0,e1,e2,e3⟩:=hat wr HB.out k hlt
   have hF:=HF.out k hlt
   generalize s0 k=a0 at e0 hF;generalize s1 k=a1 at e1 hF;generalize p0 k=a2 at e2 hF;generalize n0 k=a3 at e2 hF;generalize c0 k=a4 at e2 hF;generalize p1 k=a5 at e3 hF;generalize n1 k=a6 at e3 hF;generalize c1 k=a7 at e3 hF
   have HG:=ZqH hF
   clear hF hat
   obtain⟨r,hr⟩:=ZqJ (f k)
   have HR:=ZqH hr
   clear hr
   go_wp2_with fail
   refine(HG.out _ HB.out).mono ?_
   rintro e w2 ⟨rfl,hb⟩
   rw[HR.out]
   have HB2:=ZqH (HB.out.trans (hb.mono HB.out.size))
   clear hb
   cases r
   ·have HK2:Hid (∀ j,j<k+1->f j=false):=fun j h=>by
     rcases Zp1 j k with h3 | h3
     ·exact HK.out j h3
     ·obtain rfl:j=k:=Za
      exact HR.out
    go_wp2
    go_roundw
    case rel=>exact⟨k+1,by go_num,Za,HK2,HB2⟩
    case measure=>exact Zj
   ·go_wp2
    go_ret
    exact⟨k,rfl,.inl ⟨Za,k,hlt,HR.out⟩,HB2.out⟩
  ·obtain rfl:n=k:=Za
   go_wp2
   go_ret
   exact⟨-1,rfl,.inr ⟨rfl,fun j h=>HK.out j h⟩,HB.out⟩
theorem Zj0 {g:Nat} {caps:Array Value} (hent:∀ args w,(callFunc g args).run Tryz.prog w=.ok (.enter g args) w) {f:Nat->Bool} {p:Option Addr} {n c:Nat} {w:World} (s0 s1:Nat->ByteArray) (p0:Nat->Option Addr) (n0 c0:Nat->Nat) (p1:Nat->Option Addr) (n1 c1:Nat->Nat) (hc:n<=c/\c<=9223372036854775807)
  (hat:0<n->∃ b o,p=some ⟨b,o,none⟩/\∀ W,Below w.heap.size w W->∀ k,k<n->W.cell? ⟨b,o+k*4,none⟩=some (.string (s0 k))/\W.cell? ⟨b,o+k*4+1,none⟩=some (.string (s1 k))/\W.cell? ⟨b,o+k*4+2,none⟩=some (.slice (p0 k) (n0 k) (c0 k))/\W.cell? ⟨b,o+k*4+3,none⟩=some (.slice (p1 k) (n1 k) (c1 k)))
  (hf:∀ k,k<n->∀ W,Below w.heap.size w W->Calls Tryz.prog g (#[.agg #[.string (s0 k),.string (s1 k),.slice (p0 k) (n0 k) (c0 k),.slice (p1 k) (n1 k) (c1 k)]]++caps) W (ZB W (f k))) :
  Calls Tryz.prog 86 #[.slice p n c,.func (.func g) #[] caps] w (ZB w (ZV f n)):=by
 have HI:=ZqH (Zmq hent s0 s1 p0 n0 c0 p1 n1 c1 hc hat hf)
 clear hat hf
 go_enter Tryz.func86,Tryz.ntmps86
 go_wp2_with fail
 refine HI.out.mono ?_
 rintro e w2 ⟨i,rfl,hE,hb⟩
 have HB:=ZqH hb
 rcases hE with ⟨h0,h⟩ | ⟨rfl,h⟩
 ·have HE:=ZqH (Zbq h)
  have h0d:decide (0<=i)=true:=decide_eq_true h0
  clear h hb
  go_wp2
  go_ret
  exact⟨by rw[HE.out];simp,HB.out⟩
 ·have HE:=ZqH (ZbZ h)
  clear h hb
  go_wp2
  go_ret
  exact⟨by rw[HE.out];simp,HB.out⟩
theorem Zk4 {g:Nat} {caps:Array Value} (hent:∀ args w,(callFunc g args).run Tryz.prog w=.ok (.enter g args) w) {f:Nat->Bool} {p:Option Addr} {n c:Nat} {w:World} (x0 x1:Nat->Int) (p0:Nat->Option Addr) (n0 c0:Nat->Nat) (s0 s1 s2 s3:Nat->ByteArray) (hc:n<=c/\c<=9223372036854775807)
  (hat:0<n->∃ b o,p=some ⟨b,o,none⟩/\∀ W,Below w.heap.size w W->∀ k,k<n->W.cell? ⟨b,o+k*7,none⟩=some (.int .i64 (x0 k))/\W.cell? ⟨b,o+k*7+1,none⟩=some (.int .i64 (x1 k))/\W.cell? ⟨b,o+k*7+2,none⟩=some (.slice (p0 k) (n0 k) (c0 k))/\W.cell? ⟨b,o+k*7+3,none⟩=some (.string (s0 k))/\W.cell? ⟨b,o+k*7+4,none⟩=some (.string (s1 k))/\W.cell? ⟨b,o+k*7+5,none⟩=some (.string (s2 k))/\W.cell? ⟨b,o+k*7+6,none⟩=some (.string (s3 k)))
  (hf:∀ k,k<n->∀ W,Below w.heap.size w W->Calls Tryz.prog g (#[.agg #[.int .i64 (x0 k),.int .i64 (x1 k),.slice (p0 k) (n0 k) (c0 k),.string (s0 k),.string (s1 k),.string (s2 k),.string (s3 k)]]++caps) W (ZB W (f k))) :
  Calls Tryz.prog 139 #[.slice p n c,.func (.func g) #[] caps] w (IdxB w n f):=by
 obtain⟨hc1,hc2⟩:=hc
 have HV:=ZqH hat
 have HF:=ZqH hf
 clear hat hf
 go_enter Tryz.func139,Tryz.ntmps139
 go_wp2
 go_loopw [8] (fun i wr=>∃ (k:Nat),i=.int .i64 k/\k<=n/\Hid (∀ j,j<k->f j=false)/\ZqB w wr) (fun i _=>n-(intOf i).toNat)
 case atStart=>exact⟨0,rfl,Zp8 _,fun j h=>Za,ZpV _ _⟩
 case round=>
  obtain⟨k,rfl,hk,HK,HB⟩:=hrel
  by_cases hlt:k<n
  ·obtain⟨b,o,rfl,hat⟩:=HV.out Za
   obtain⟨e0,e1,e2,e3,e4,e5,e6⟩:=hat wr HB.out k hlt
   have hF:=HF.out k hlt
   generalize x0 k=a0 at e0 hF;generalize x1 k=a1 at e1 hF;generalize p0 k=a2 at e2 hF;generalize n0 k=a3 at e2 hF;generalize c0 k=a4 at e2 hF;generalize s0 k=a5 at e3 hF;generalize s1 k=a6 at e4 hF;generalize s2 k=a7 at e5 hF;generalize s3 k=a8 at e6 hF
   have HG:=ZqH hF
   clear hF hat
   obtain⟨r,hr⟩:=ZqJ (f k)
   have HR:=ZqH hr
   clear hr
   go_wp2_with fail
   refine(HG.out _ HB.out).mono ?_
   rintro e w2 ⟨rfl,hb⟩
   rw[HR.out]
   have HB2:=ZqH (HB.out.trans (hb.mono HB.out.size))
   clear hb
   cases r
   ·have HK2:Hid (∀ j,j<k+1->f j=false):=fun j h=>by
     rcases Zp1 j k with h3 | h3
     ·exact HK.out j h3
     ·obtain rfl:j=k:=Za
      exact HR.out
    go_wp2
    go_roundw
    case rel=>exact⟨k+1,by go_num,Za,HK2,HB2⟩
    case measure=>exact Zj
   ·go_wp2
    go_ret
    exact⟨k,rfl,.inl ⟨Za,k,hlt,HR.out⟩,HB2.out⟩
  ·obtain rfl:n=k:=Za
   go_wp2
   go_ret
   exact⟨-1,rfl,.inr ⟨rfl,fun j h=>HK.out j h⟩,HB.out⟩
theorem Ziy {g:Nat} {caps:Array Value} (hent:∀ args w,(callFunc g args).run Tryz.prog w=.ok (.enter g args) w) {f:Nat->Bool} {p:Option Addr} {n c:Nat} {w:World} (x0 x1:Nat->Int) (p0:Nat->Option Addr) (n0 c0:Nat->Nat) (s0 s1 s2 s3:Nat->ByteArray) (hc:n<=c/\c<=9223372036854775807)
  (hat:0<n->∃ b o,p=some ⟨b,o,none⟩/\∀ W,Below w.heap.size w W->∀ k,k<n->W.cell? ⟨b,o+k*7,none⟩=some (.int .i64 (x0 k))/\W.cell? ⟨b,o+k*7+1,none⟩=some (.int .i64 (x1 k))/\W.cell? ⟨b,o+k*7+2,none⟩=some (.slice (p0 k) (n0 k) (c0 k))/\W.cell? ⟨b,o+k*7+3,none⟩=some (.string (s0 k))/\W.cell? ⟨b,o+k*7+4,none⟩=some (.string (s1 k))/\W.cell? ⟨b,o+k*7+5,none⟩=some (.string (s2 k))/\W.cell? ⟨b,o+k*7+6,none⟩=some (.string (s3 k)))
  (hf:∀ k,k<n->∀ W,Below w.heap.size w W->Calls Tryz.prog g (#[.agg #[.int .i64 (x0 k),.int .i64 (x1 k),.slice (p0 k) (n0 k) (c0 k),.string (s0 k),.string (s1 k),.string (s2 k),.string (s3 k)]]++caps) W (ZB W (f k))) :
  Calls Tryz.prog 95 #[.slice p n c,.func (.func g) #[] caps] w (ZB w (ZV f n)):=by
 have HI:=ZqH (Zk4 hent x0 x1 p0 n0 c0 s0 s1 s2 s3 hc hat hf)
 clear hat hf
 go_enter Tryz.func95,Tryz.ntmps95
 go_wp2_with fail
 refine HI.out.mono ?_
 rintro e w2 ⟨i,rfl,hE,hb⟩
 have HB:=ZqH hb
 rcases hE with ⟨h0,h⟩ | ⟨rfl,h⟩
 ·have HE:=ZqH (Zbq h)
  have h0d:decide (0<=i)=true:=decide_eq_true h0
  clear h hb
  go_wp2
  go_ret
  exact⟨by rw[HE.out];simp,HB.out⟩
 ·have HE:=ZqH (ZbZ h)
  clear h hb
  go_wp2
  go_ret
  exact⟨by rw[HE.out];simp,HB.out⟩
abbrev runV (y a b:Int):Value:=.agg #[.int .i64 y,.int .i64 a,.int .i64 b]
abbrev runO (y a b:Int):Obj:=.cells #[.int .i64 y,.int .i64 a,.int .i64 b] 88
abbrev ZcB (x y:Int):Obj:=.cells #[.int .i64 x,.int .i64 y] 53
theorem Znl {w:World} {b:Nat} {u0 u1 u2:Value} {T:TypeId} (h:w.heap[b]?=some (.cells #[u0,u1,u2] T (0,0))) (x y z:Value) :
  (((w.setCell ⟨b,0,none⟩ x).setCell ⟨b,1,none⟩ y).setCell ⟨b,2,none⟩ z).heap[b]?=some (.cells #[x,y,z] T (0,0)):=
 Zp0 (Zp0 (Zp0 h x) y) z
theorem Env.fill3 {B g:Nat} {w0 w:World} {bs:List (Nat×Obj)} {ps:List SP} {a b c:Value} {T:TypeId} (h:Env B w0 ((g,.cells #[a,b,c] T (0,0))::bs) ps w) (x y z:Value) :
  Env B w0 ((g,.cells #[x,y,z] T (0,0))::bs) ps (((w.setCell ⟨g,0,none⟩ x).setCell ⟨g,1,none⟩ y).setCell ⟨g,2,none⟩ z):=
 h.put 0 (.cells #[x,y,z] T (0,0)) rfl (Znl (h.block 0 rfl) x y z) ((((Keeps.refl _ w).setCell Zc x).setCell Zc y).setCell Zc z)
theorem Zok (y a b x0 y0:Int) (B:Nat) (w:World) (h0:w.cell? ⟨B,0,none⟩=some (.int .i64 x0)) (h1:w.cell? ⟨B,1,none⟩=some (.int .i64 y0)) :
  Calls Tryz.prog 154 #[runV y a b,.pointer (some ⟨B,0,none⟩)] w (ZB w (decide (y=y0) && (decide (a<=x0) && decide (x0<b)))):=by
 have hB:=Zqf _ _ h0
 have HAL:=ZqH ((ZpV w.heap.size w).alloc ZqI (runO y a b))
 have k0:(w.alloc (runO y a b)).cell? ⟨B,0,none⟩=some (.int .i64 x0):=(Z8 _ _ _ hB).trans h0
 have k1:(w.alloc (runO y a b)).cell? ⟨B,1,none⟩=some (.int .i64 y0):=(Z8 _ _ _ hB).trans h1
 clear h0 h1
 by_cases e1:y=y0
 ·subst e1
  by_cases e2:a<=x0
  ·by_cases e3:x0<b
   ·skip
    go_enter Tryz.func154,Tryz.ntmps154
    go_wp2
    go_ret
    exact⟨by simp[*]<;>omega,HAL.out⟩
   ·skip
    go_enter Tryz.func154,Tryz.ntmps154
    go_wp2
    go_ret
    exact⟨by simp[*]<;>omega,HAL.out⟩
  ·skip
   go_enter Tryz.func154,Tryz.ntmps154
   go_wp2
   go_ret
   exact⟨by simp[*]<;>omega,HAL.out⟩
 ·have e2:(y==y0)=false:=by rw[beq_eq_false_iff_ne];exact e1
  go_enter Tryz.func154,Tryz.ntmps154
  go_wp2
  go_ret
  exact⟨by simp[*]<;>omega,HAL.out⟩
theorem RunL.at {l:List RunP} {p:Option Addr} {n c:Nat} {w:World} (h:RunL w (.slice p n c) l) (hn:l.length=n) (h0:0<n) :
  ∃ b o,p=some ⟨b,o,none⟩/\∀ W,Below w.heap.size w W->∀ k,k<n->W.cell? ⟨b,o+k*3,none⟩=some (.int .i64 (rnA l k).y)/\W.cell? ⟨b,o+k*3+1,none⟩=some (.int .i64 (rnA l k).a)/\W.cell? ⟨b,o+k*3+2,none⟩=some (.int .i64 (rnA l k).b):=by
 obtain⟨b,o,h1,_,h2⟩:=LL.at RunR.stays h hn h0
 refine⟨b,o,h1,fun W hW k hk=>?_⟩
 obtain⟨a1,a2,a3⟩:=h2 W hW k Za
 rw[Zee Za] at a1 a2 a3
 exact⟨a1.1,a2.1,a3.1⟩
theorem Zop (l:List RunP) (x y:Int):ZV (fun k=>decide ((rnA l k).y=y) && (decide ((rnA l k).a<=x) && decide (x<(rnA l k).b))) l.length=hasR l x y:=by
 rw[Bool.eq_iff_iff,ZcK]
 unfold hasR
 rw[List.any_eq_true]
 constructor
 ·rintro⟨k,hk,h⟩
  exact⟨l[k],Zqm hk,by rw[Zee hk];exact h⟩
 ·rintro⟨r,hr,h⟩
  obtain⟨k,hk,rfl⟩:=List.getElem_of_mem hr
  exact⟨k,hk,by rw[<- Zee hk];exact h⟩
theorem Zh5 {l:List RunP} {v:Value} {w:World} (hv:RunL w v l) (x y:Int):Calls Tryz.prog 110 #[v,.agg #[.int .i64 x,.int .i64 y]] w (ZB w (hasR l x y)):=by
 obtain⟨p,c,rfl,hc1,hc2⟩:=hv.shape rfl
 have HB0:Hid (Below w.heap.size w (w.alloc (ZcB x y))):=(ZpV w.heap.size w).alloc ZqI _
 have HI:=ZqH (ZpA (w:=w.alloc (ZcB x y)) (g:=154) (caps:=#[.pointer (some ⟨w.heap.size,0,none⟩)]) (enters_of Tryz.func154 Zb rfl)
  (f:=fun k=>decide ((rnA l k).y=y) && (decide ((rnA l k).a<=x) && decide (x<(rnA l k).b))) (p:=p) (n:=l.length) (c:=c) (fun k=>(rnA l k).y) (fun k=>(rnA l k).a) (fun k=>(rnA l k).b) ⟨hc1,hc2⟩
  (fun h0=>RunL.at (hv.after RunR.stays HB0.out ZqI) rfl h0)
  (fun k _ W hW=>Zok _ _ _ x y w.heap.size W ((hW.cell (p:=⟨w.heap.size,0,none⟩) Zc).trans (ZP w _ _ 0 rfl)) ((hW.cell (p:=⟨w.heap.size,1,none⟩) Zc).trans (ZP w _ _ 1 rfl))))
 rw[Zop l x y] at HI
 obtain⟨n,hn⟩:=ZqJ l.length
 rw[hn] at HI ⊢
 obtain⟨r,hr⟩:=ZqJ (hasR l x y)
 rw[hr] at HI ⊢
 clear hv hr hn hc1 hc2
 go_enter Tryz.func110,Tryz.ntmps110
 go_wp2_with fail
 refine HI.out.mono ?_
 rintro e w2 ⟨rfl,hb⟩
 have HB:=ZqH (HB0.out.trans (hb.mono HB0.out.size))
 clear hb HI HB0
 go_wp2
 go_ret
 exact⟨rfl,HB.out⟩
theorem Zcv (n low high:Int) (w:World):Calls Tryz.prog 118 #[.int .i64 n,.int .i64 low,.int .i64 high] w (ZB w (inG low n high)):=by
 by_cases h1:low<=n
 ·by_cases h2:n<=high
  ·go_enter Tryz.func118,Tryz.ntmps118
   go_wp2
   go_ret
   exact⟨by simp[inG,h1,h2],ZpV _ _⟩
  ·go_enter Tryz.func118,Tryz.ntmps118
   go_wp2
   go_ret
   exact⟨by simp[inG,h1,h2],ZpV _ _⟩
 ·go_enter Tryz.func118,Tryz.ntmps118
  go_wp2
  go_ret
  exact⟨by unfold inG;rw[decide_eq_false (show ¬ low<=n by omega)];rfl,ZpV _ _⟩
theorem ZeS {g:GridP} {l:List RunP} {k:Nat} (hk:k<l.length) (h:runG g (Zbb l k) (rnA l k)=false):ZaM g l=false:=by
 unfold ZaM
 rw[Zbq ⟨k,hk,by rw[h];rfl⟩]
 rfl
theorem Zm7 {g:GridP} {l:List RunP} (h:∀ k,k<l.length->runG g (Zbb l k) (rnA l k)=true):ZaM g l=decide (l.length<=8192):=by
 unfold ZaM
 rw[ZbZ fun k hk=>by rw[h k hk];rfl]
 rfl
theorem Zhm (l:List RunP) (k:Nat):Zbb l (k+1)=rnA l k:=rfl
theorem Zhh {g:GridP} {p0:Option Addr} {n0 c0:Nat} {rv:Value} {l:List RunP} {w:World} (hl:RunL w rv l):Calls Tryz.prog 123 #[Ze1 g (.slice p0 n0 c0),rv] w (ZB w (ZaM g l)):=by
 obtain⟨n,hn⟩:=ZqJ l.length
 obtain⟨p,c,rfl,hc1,hc2⟩:=hl.shape hn
 have HL:=ZqH hl
 have HN:=ZqH hn
 have HE1:Hid (Env w.heap.size w [(w.heap.size+1,runO (-1) 0 0),(w.heap.size,ZaS g (.slice p0 n0 c0))] [] ((w.alloc (ZaS g (.slice p0 n0 c0))).alloc (runO (-1) 0 0))):=((Env.start w).push _ rfl).push _ Zc
 clear hl hn
 go_enter Tryz.func123,Tryz.ntmps123
 go_wp2_with fail
 obtain⟨w1,hw1⟩:=ZqJ ((w.alloc (ZaS g (.slice p0 n0 c0))).alloc (runO (-1) 0 0))
 rw[hw1] at HE1 ⊢
 clear hw1
 go_loopw [11] (fun iv wr=>∃ k:Nat,iv=.int .i64 k/\k<=n/\Hid (∀ i,i<k->runG g (Zbb l i) (rnA l i)=true)/\Hid (Env w.heap.size w [(w.heap.size+1,runO (Zbb l k).y (Zbb l k).a (Zbb l k).b),(w.heap.size,ZaS g (.slice p0 n0 c0))] [] wr)) (fun iv _=>n-(intOf iv).toNat)
 case atStart=>exact⟨0,rfl,Zp8 _,fun i h=>Zqx h (Zql _),HE1⟩
 case round=>
  obtain⟨k,rfl,hk,HK,HE⟩:=hrel
  clear HE1
  by_cases hlt:k<n
  ·obtain⟨b,o,rfl,hat⟩:=RunL.at HL.out HN.out Za
   obtain⟨e0,e1,e2⟩:=hat wr HE.out.base k hlt
   obtain⟨⟨ly,la,lb⟩,hlast⟩:∃ z,Zbb l k=z:=⟨_,rfl⟩
   obtain⟨⟨y,a,b'⟩,hrun⟩:∃ z,rnA l k=z:=⟨_,rfl⟩
   rw[hrun] at e0 e1 e2
   rw[hlast] at HE
   dsimp only at e0 e1 e2 HE
   have HLA:=ZqH hlast
   have HRU:=ZqH hrun
   have HE2:=ZqH (HE.out.push (runO y a b') rfl)
   obtain⟨q,hq⟩:=ZqJ wr.heap.size
   obtain⟨W,hW⟩:=ZqJ (wr.alloc (runO y a b'))
   rw[hq,hW] at HE2
   clear hat hlast hrun
   have x0:=HE2.out.cell 0 0 (v:=.int .i64 y) rfl rfl
   have x1:=HE2.out.cell 0 1 (v:=.int .i64 a) rfl rfl
   have x2:=HE2.out.cell 0 2 (v:=.int .i64 b') rfl rfl
   have l0:=HE2.out.cell 1 0 (v:=.int .i64 ly) rfl rfl
   have l2:=HE2.out.cell 1 2 (v:=.int .i64 lb) rfl rfl
   have g0:=HE2.out.cell 2 0 (v:=.int .i64 g.w) rfl rfl
   have g1:=HE2.out.cell 2 1 (v:=.int .i64 g.h) rfl rfl
   go_wp2_with fail
   refine(Zcv _ _ _ _).mono ?_
   rintro e w2 ⟨rfl,hb⟩
   have HE3:=ZqH (HE2.out.step hb)
   clear hb HE2 x0 x1 x2 l0 l2 g0 g1
   have x0:=HE3.out.cell 0 0 (v:=.int .i64 y) rfl rfl
   have x1:=HE3.out.cell 0 1 (v:=.int .i64 a) rfl rfl
   have x2:=HE3.out.cell 0 2 (v:=.int .i64 b') rfl rfl
   have l0:=HE3.out.cell 1 0 (v:=.int .i64 ly) rfl rfl
   have l2:=HE3.out.cell 1 2 (v:=.int .i64 lb) rfl rfl
   have g0:=HE3.out.cell 2 0 (v:=.int .i64 g.w) rfl rfl
   have g1:=HE3.out.cell 2 1 (v:=.int .i64 g.h) rfl rfl
   cases h1:inG (max 0 ly) y (wrap64 (g.h-1))
   ·have HRF:Hid (runG g (Zbb l k) (rnA l k)=false):=by
     show _=_
     rw[HLA.out,HRU.out]
     unfold inG at h1
     simp only[runG,h1,Bool.false_and]
    clear h1
    have HNO:Hid (ZaM g l=false):=ZeS (by rw[HN.out];exact hlt) HRF.out
    go_wp2
    exact ZpW (v:=.bool false) (by simp[results,Tryz.f123,go_sem]) rfl ⟨by rw[HNO.out],HE3.out.base⟩
   have H1:=ZqH h1
   clear h1
   go_wp2_with fail
   refine(Zcv a 0 (wrap64 (b'-1)) _).mono ?_
   rintro e w3 ⟨rfl,hb⟩
   have HE4:=ZqH (HE3.out.step hb)
   clear hb HE3 x0 x1 x2 l0 l2 g0 g1
   have HE3:=HE4
   clear HE4
   have x0:=HE3.out.cell 0 0 (v:=.int .i64 y) rfl rfl
   have x1:=HE3.out.cell 0 1 (v:=.int .i64 a) rfl rfl
   have x2:=HE3.out.cell 0 2 (v:=.int .i64 b') rfl rfl
   have l0:=HE3.out.cell 1 0 (v:=.int .i64 ly) rfl rfl
   have l2:=HE3.out.cell 1 2 (v:=.int .i64 lb) rfl rfl
   have g0:=HE3.out.cell 2 0 (v:=.int .i64 g.w) rfl rfl
   have g1:=HE3.out.cell 2 1 (v:=.int .i64 g.h) rfl rfl
   cases h2:inG 0 a (wrap64 (b'-1))
   ·have HRF:Hid (runG g (Zbb l k) (rnA l k)=false):=by
     show _=_
     rw[HLA.out,HRU.out]
     unfold inG at h2
     simp only[runG,h2,Bool.false_and,Bool.and_false]
    clear h2
    have HNO:Hid (ZaM g l=false):=ZeS (by rw[HN.out];exact hlt) HRF.out
    go_wp2
    exact ZpW (v:=.bool false) (by simp[results,Tryz.f123,go_sem]) rfl ⟨by rw[HNO.out],HE3.out.base⟩
   have H2:=ZqH h2
   clear h2
   by_cases h3:g.w<b'
   ·have HRF:Hid (runG g (Zbb l k) (rnA l k)=false):=by
     show _=_
     rw[HLA.out,HRU.out]
     simp only[runG,decide_eq_false (show ¬ b'<=g.w by omega),Bool.false_and,Bool.and_false]
    have HNO:Hid (ZaM g l=false):=ZeS (by rw[HN.out];exact hlt) HRF.out
    go_wp2
    exact ZpW (v:=.bool false) (by simp[results,Tryz.f123,go_sem]) rfl ⟨by rw[HNO.out],HE3.out.base⟩
   by_cases h4:y=ly
   ·subst h4
    by_cases h5:a<=lb
    ·have HRF:Hid (runG g (Zbb l k) (rnA l k)=false):=by
      show _=_
      rw[HLA.out,HRU.out]
      simp only[runG,decide_eq_true h5,decide_true,Bool.and_true,Bool.not_true,Bool.and_false]
     have HNO:Hid (ZaM g l=false):=ZeS (by rw[HN.out];exact hlt) HRF.out
     go_wp2
     exact ZpW (v:=.bool false) (by simp[results,Tryz.f123,go_sem]) rfl ⟨by rw[HNO.out],HE3.out.base⟩
    ·have HRT:Hid (runG g (Zbb l k) (rnA l k)=true):=by
      show _=_
      have h1:=H1.out
      have h2:=H2.out
      rw[HLA.out,HRU.out]
      unfold inG at h1 h2
      simp only[runG,h1,h2,decide_eq_false h5,decide_eq_true (show b'<=g.w by omega),Bool.and_false,Bool.not_false,Bool.and_self]
     have l1:=HE3.out.cell 1 1 (v:=.int .i64 la) rfl rfl
     have f0:=HE3.out.free 1 0 rfl
     have f1:=HE3.out.free 1 1 rfl
     have f2:=HE3.out.free 1 2 rfl
     have HE5:=ZqH ((HE3.out.tail).fill3 (.int .i64 y) (.int .i64 a) (.int .i64 b'))
     have HK2:Hid (∀ i,i<k+1->runG g (Zbb l i) (rnA l i)=true):=fun j h=>by
      rcases Zp1 j k with h3 | h3
      ·exact HK.out j h3
      ·obtain rfl:j=k:=Za
       exact HRT.out
     have HLN:Hid (Zbb l (k+1)=⟨y,a,b'⟩):=(Zhm l k).trans HRU.out
     go_wp2
     go_roundw
     case rel=>exact⟨k+1,by go_num,Za,HK2,by rw[HLN.out];exact HE5⟩
     case measure=>exact Zj
   ·have h6:(y==ly)=false:=by rw[beq_eq_false_iff_ne];exact h4
    have HRT:Hid (runG g (Zbb l k) (rnA l k)=true):=by
     show _=_
     have h1:=H1.out
     have h2:=H2.out
     rw[HLA.out,HRU.out]
     unfold inG at h1 h2
     simp only[runG,h1,h2,decide_eq_false h4,decide_eq_true (show b'<=g.w by omega),Bool.false_and,Bool.not_false,Bool.and_self]
    have l1:=HE3.out.cell 1 1 (v:=.int .i64 la) rfl rfl
    have f0:=HE3.out.free 1 0 rfl
    have f1:=HE3.out.free 1 1 rfl
    have f2:=HE3.out.free 1 2 rfl
    have HE5:=ZqH ((HE3.out.tail).fill3 (.int .i64 y) (.int .i64 a) (.int .i64 b'))
    have HK2:Hid (∀ i,i<k+1->runG g (Zbb l i) (rnA l i)=true):=fun j h=>by
     rcases Zp1 j k with h3 | h3
     ·exact HK.out j h3
     ·obtain rfl:j=k:=Za
      exact HRT.out
    have HLN:Hid (Zbb l (k+1)=⟨y,a,b'⟩):=(Zhm l k).trans HRU.out
    go_wp2
    go_roundw
    case rel=>exact⟨k+1,by go_num,Za,HK2,by rw[HLN.out];exact HE5⟩
    case measure=>exact Zj
  ·obtain rfl:n=k:=Za
   have HY:Hid (ZaM g l=decide (n<=8192)):=by rw[<- HN.out];exact Zm7 fun j hj=>HK.out j (by rw[<- HN.out];exact hj)
   by_cases h8:n<=8192
   ·have h9:(n:Int)<=8192:=Za
    have HY2:Hid (ZaM g l=true):=HY.out.trans (decide_eq_true h8)
    go_wp2
    exact ZpW (v:=.bool true) (by simp[results,Tryz.f123,go_sem]) rfl ⟨by rw[HY2.out],HE.out.base⟩
   ·have h9:¬ (n:Int)<=8192:=Za
    have HY2:Hid (ZaM g l=false):=HY.out.trans (decide_eq_false h8)
    go_wp2
    exact ZpW (v:=.bool false) (by simp[results,Tryz.f123,go_sem]) rfl ⟨by rw[HY2.out],HE.out.base⟩
def Zeo (w:World) (b:Bool) (e:Ending) (w':World):Prop:=e=.returned (.int .i64 (if b then 0 else 2))/\Below w.heap.size w w'
theorem Ze6 {g:GridP} {lv:Value} {w:World} (hl:RunL w lv g.land):Calls Tryz.prog 84 #[Ze1 g lv] w (Zeo w (ZaR g)):=by
 obtain⟨p0,c0,rfl,hc1,hc2⟩:=hl.shape rfl
 have HL:=ZqH hl
 obtain⟨n0,hn0⟩:=ZqJ g.land.length
 rw[hn0] at HL ⊢
 have HE1:Hid (Env w.heap.size w [(w.heap.size,ZaS g (.slice p0 n0 c0))] [] (w.alloc (ZaS g (.slice p0 n0 c0)))):=(Env.start w).push _ rfl
 clear hl hn0 hc1 hc2
 go_enter Tryz.func84,Tryz.ntmps84
 go_wp2_with fail
 refine(Zcv _ _ _ _).mono ?_
 rintro e w2 ⟨rfl,hb⟩
 have HE2:=ZqH (HE1.out.step hb)
 clear hb HE1
 have g0:=HE2.out.cell 0 0 (v:=.int .i64 g.w) rfl rfl
 have g1:=HE2.out.cell 0 1 (v:=.int .i64 g.h) rfl rfl
 have g2:=HE2.out.cell 0 2 (v:=.int .i64 g.size) rfl rfl
 have g3:=HE2.out.cell 0 3 (v:=.slice p0 n0 c0) rfl rfl
 cases hx:inG 1 g.w 256
 ·skip
  have HNO:Hid (ZaR g=false):=by
   unfold ZaR
   show _=_
   first
    | rw[hx];simp
    | simp[hx]
  go_wp2
  exact ZpW (v:=.int .i64 2) (by simp[results,Tryz.f84,go_sem]) rfl ⟨by rw[HNO.out];rfl,HE2.out.base⟩
 have H1:=ZqH hx
 clear hx
 go_wp2_with fail
 refine(Zcv _ _ _ _).mono ?_
 rintro e w3 ⟨rfl,hb⟩
 have HE3:=ZqH (HE2.out.step hb)
 clear hb HE2 g0 g1 g2 g3
 have g0:=HE3.out.cell 0 0 (v:=.int .i64 g.w) rfl rfl
 have g1:=HE3.out.cell 0 1 (v:=.int .i64 g.h) rfl rfl
 have g2:=HE3.out.cell 0 2 (v:=.int .i64 g.size) rfl rfl
 have g3:=HE3.out.cell 0 3 (v:=.slice p0 n0 c0) rfl rfl
 cases hx:inG 1 g.h 256
 ·skip
  have HNO:Hid (ZaR g=false):=by
   unfold ZaR
   show _=_
   first
    | rw[hx];simp
    | simp[hx]
  go_wp2
  exact ZpW (v:=.int .i64 2) (by simp[results,Tryz.f84,go_sem]) rfl ⟨by rw[HNO.out];rfl,HE3.out.base⟩
 have H2:=ZqH hx
 clear hx
 go_wp2_with fail
 refine(Zcv _ _ _ _).mono ?_
 rintro e w4 ⟨rfl,hb⟩
 have HE4:=ZqH (HE3.out.step hb)
 clear hb HE3 g0 g1 g2 g3
 have g0:=HE4.out.cell 0 0 (v:=.int .i64 g.w) rfl rfl
 have g1:=HE4.out.cell 0 1 (v:=.int .i64 g.h) rfl rfl
 have g2:=HE4.out.cell 0 2 (v:=.int .i64 g.size) rfl rfl
 have g3:=HE4.out.cell 0 3 (v:=.slice p0 n0 c0) rfl rfl
 cases hx:inG 1 g.size 50000
 ·skip
  have HNO:Hid (ZaR g=false):=by
   unfold ZaR
   show _=_
   first
    | rw[hx];simp
    | simp[hx]
  go_wp2
  exact ZpW (v:=.int .i64 2) (by simp[results,Tryz.f84,go_sem]) rfl ⟨by rw[HNO.out];rfl,HE4.out.base⟩
 have H3:=ZqH hx
 clear hx
 go_wp2_with fail
 refine(Zhh (g:=g) (HL.out.after RunR.stays HE4.out.base ZqI)).mono ?_
 rintro e w5 ⟨rfl,hb⟩
 have HE5:=ZqH (HE4.out.step hb)
 clear hb HE4 g0 g1 g2 g3
 cases hx:ZaM g g.land
 ·skip
  have HNO:Hid (ZaR g=false):=by
   unfold ZaR
   show _=_
   first
    | rw[hx];simp
    | simp[hx]
  go_wp2
  exact ZpW (v:=.int .i64 2) (by simp[results,Tryz.f84,go_sem]) rfl ⟨by rw[HNO.out];rfl,HE5.out.base⟩
 have HY:Hid (ZaR g=true):=by
  unfold ZaR
  show _=_
  rw[hx,H1.out,H2.out,H3.out]
  rfl
 go_wp2
 exact ZpW (v:=.int .i64 0) (by simp[results,Tryz.f84,go_sem]) rfl ⟨by rw[HY.out];rfl,HE5.out.base⟩
theorem Zjr {g:GridP} {p0:Option Addr} {n0 c0:Nat} {B:Nat} {p:Option Addr} {n c:Nat} {l:List RunP} {w:World} (hl:RunL w (.slice p n c) l) (hB:w.heap[B]?=some (ZaS g (.slice p0 n0 c0))) :
  Calls Tryz.prog 182 #[.slice p n c,.pointer (some ⟨B,0,none⟩)] w (ZB w (!ZaM g l)):=by
 have HR:=ZqH (Zhh (g:=g) (p0:=p0) (n0:=n0) (c0:=c0) hl)
 have g0:=Zn hB 0 (v:=.int .i64 g.w) rfl
 have g1:=Zn hB 1 (v:=.int .i64 g.h) rfl
 have g2:=Zn hB 2 (v:=.int .i64 g.size) rfl
 have g3:=Zn hB 3 (v:=.slice p0 n0 c0) rfl
 obtain⟨r,hr⟩:=ZqJ (ZaM g l)
 rw[hr] at HR ⊢
 clear hl hB hr
 go_enter Tryz.func182,Tryz.ntmps182
 go_wp2_with fail
 refine HR.out.mono ?_
 rintro e w2 ⟨rfl,hb⟩
 have HB:=ZqH hb
 clear hb HR
 go_wp2
 go_ret
 exact⟨rfl,HB.out⟩
theorem ZjE {g:GridP} {lv:Value} {p:Option Addr} {n c q:Nat} {l:List RunP} {w:World} (hl:RunL w lv g.land) (hr:RunL w (.slice p n c) l) (hq:w.cell? ⟨q,0,none⟩=some (.slice p n c)) :
  Calls Tryz.prog 144 #[Ze1 g lv,.slice (some ⟨q,0,none⟩) 1 1] w (Zeo w (ZaR g && ZaM g l)):=by
 obtain⟨p0,c0,rfl,_,_⟩:=hl.shape rfl
 have HL:=ZqH hl
 have HR:=ZqH hr
 have HQ:=ZqH hq
 have hql:=Zqf _ _ hq
 obtain⟨n0,hn0⟩:=ZqJ g.land.length
 rw[hn0] at HL ⊢
 clear hl hr hn0 hq
 have HE1:Hid (Env w.heap.size w [(w.heap.size,ZaS g (.slice p0 n0 c0))] [] (w.alloc (ZaS g (.slice p0 n0 c0)))):=(Env.start w).push _ rfl
 go_enter Tryz.func144,Tryz.ntmps144
 go_wp2_with fail
 refine(Ze6 (g:=g) (HL.out.after RunR.stays HE1.out.base ZqI)).mono ?_
 rintro e w2 ⟨rfl,hb⟩
 have HE2:=ZqH (HE1.out.step hb)
 clear hb HE1
 cases hx:ZaR g
 ·have HX:=ZqH hx
  clear hx
  simp only[Bool.false_eq_true,if_false]
  go_wp2
  exact ZpW (v:=.int .i64 2) (by simp[results,Tryz.f144,go_sem]) rfl ⟨by simp[HX.out],HE2.out.base⟩
 ·have HX:=ZqH hx
  clear hx
  simp only[if_true]
  have HI:=ZqH (ZmH (w:=w2) (g:=182) (caps:=#[.pointer (some ⟨w.heap.size,0,none⟩)]) (enters_of Tryz.func182 Zb rfl) (f:=fun _=>!ZaM g l) (p:=some ⟨q,0,none⟩) (n:=1) (c:=1) (fun _=>p) (fun _=>n) (fun _=>c) ⟨Za,Za⟩
   (fun _=>⟨q,0,rfl,fun W hW k hk=>by
    obtain rfl:k=0:=Za
    have hb:=HE2.out.base.trans (hW.mono HE2.out.own)
    exact(hb.cell (p:=⟨q,0,none⟩) hql).trans HQ.out⟩)
   (fun k hk W hW=>by
    have hl2:RunL W (.slice p n c) l:=HR.out.after RunR.stays (HE2.out.base.trans (hW.mono HE2.out.own)) ZqI
    have hb2:W.heap[w.heap.size]?=some (ZaS g (.slice p0 n0 c0)):=(hW.block _ (HE2.out.lt 0 rfl)).trans (HE2.out.block 0 rfl)
    exact Zjr hl2 hb2))
  go_wp2_with fail
  refine HI.out.mono ?_
  clear HI
  rintro e w3 ⟨rfl,hb⟩
  have HE3:=ZqH (HE2.out.step hb)
  clear hb HE2
  cases hx:ZaM g l
  ·have HY:=ZqH hx
   have e1:ZV (fun _=>!false) 1=true:=rfl
   rw[e1]
   go_wp2
   exact ZpW (v:=.int .i64 2) (by simp[results,Tryz.f144,go_sem]) rfl ⟨by simp[HX.out,HY.out],HE3.out.base⟩
  ·have HY:=ZqH hx
   have e1:ZV (fun _=>!true) 1=false:=rfl
   rw[e1]
   go_wp2
   exact ZpW (v:=.int .i64 0) (by simp[results,Tryz.f144,go_sem]) rfl ⟨by simp[HX.out,HY.out],HE3.out.base⟩
theorem ZhM {g:GridP} {lv rv:Value} {l:List RunP} {w:World} (hl:RunL w lv g.land) (hr:RunL w rv l):Calls Tryz.prog 105 #[Ze1 g lv,rv] w (Zeo w (ZaR g && ZaM g l)):=by
 obtain⟨p0,c0,rfl,hc1,hc2⟩:=hl.shape rfl
 obtain⟨p,c,rfl,hc3,hc4⟩:=hr.shape rfl
 have HL:=ZqH hl
 have HR:=ZqH hr
 obtain⟨n0,hn0⟩:=ZqJ g.land.length
 obtain⟨n,hn⟩:=ZqJ l.length
 rw[hn0] at HL ⊢
 rw[hn] at HR ⊢
 clear hl hr hn0 hn hc1 hc2 hc3 hc4
 have HE1:Hid (Env w.heap.size w [(w.heap.size+1,.cells #[.slice p n c] 22),(w.heap.size,ZaS g (.slice p0 n0 c0))] [] ((w.alloc (ZaS g (.slice p0 n0 c0))).alloc (.cells #[.slice p n c] 22))):=((Env.start w).push _ rfl).push _ Zc
 go_enter Tryz.func105,Tryz.ntmps105
 go_wp2_with fail
 refine(ZjE (g:=g) (l:=l) (HL.out.after RunR.stays HE1.out.base ZqI) (HR.out.after RunR.stays HE1.out.base ZqI) (HE1.out.cell 0 0 rfl rfl)).mono ?_
 rintro e w2 ⟨rfl,hb⟩
 have HE2:=ZqH (HE1.out.step hb)
 clear hb HE1
 obtain⟨r,hr⟩:=ZqJ ((ZaR g && ZaM g l))
 rw[hr]
 have HY:=ZqH hr
 clear hr
 cases r
 ·simp only[Bool.false_eq_true,if_false]
  go_wp2
  exact ZpW (v:=.int .i64 2) (by simp[results,Tryz.f105,go_sem]) rfl ⟨by rw[HY.out];rfl,HE2.out.base⟩
 ·simp only[if_true]
  go_wp2
  exact ZpW (v:=.int .i64 0) (by simp[results,Tryz.f105,go_sem]) rfl ⟨by rw[HY.out];rfl,HE2.out.base⟩
end Go.Proofs.YtjmckebecpjjfaaGreatDoor
namespace Go.Proofs.YtjmckebecpjjfaaGreatDoor
open Go.RowKit Go.Shelf Go.ChangeMaps Go.MapKept Go.ChangeShapes Go.WideShapes
open Go.WideElems (Fit rd rg rg_of rd_key rd_val)
section
variable {H:Type} {P:Program} {k:TypeId} {R R':Value->Option (DataW H×List MemPlace)} {es es':Array MapEntry} {clock clock':Nat}
theorem Zc9 (F:Fit P k R es clock) {e:MapEntry} (he:e ∈ es.toList):keyOf P k e.key=some (rg P k R e).1:=by
 obtain⟨y,hy⟩:=F.reads e he
 rw[rg_of hy]
 exact rd_key hy
theorem Zew (K:Maps.Keyed P k) (F:Fit P k R es clock) (F':Fit P k R' es' clock') {key:Value} {kl:Lit} {d:DataW H} (hkey:keyOf P k key=some kl)
  (h:(es'.toList.map (rg P k R')).foldr DataW.insert []=putKey kl d ((es.toList.map (rg P k R)).foldr DataW.insert [])) :
  (∃ e ∈ es'.toList,e.key=key)/\∀ e ∈ es.toList,∃ e' ∈ es'.toList,e'.key=e.key:=by
 have back:∀ {v:Value} {l:Lit} {x:DataW H},keyOf P k v=some l->(l,x) ∈ putKey kl d ((es.toList.map (rg P k R)).foldr DataW.insert [])->∃ e' ∈ es'.toList,e'.key=v:=fun {v l x} hv hm=>by
  rw[<- h] at hm
  obtain⟨e',he',hrg⟩:=List.mem_map.1 (mem_sorted.1 hm)
  have h1:=Zc9 F' he'
  rw[hrg] at h1
  exact⟨e',he',K.inj h1 hv⟩
 refine⟨back hkey (mem_insert_iff.2 (.inl rfl)),fun e he=>?_⟩
 have h1:=Zc9 F he
 by_cases e0:e.key=key
 ·rw[e0]
  exact back hkey (mem_insert_iff.2 (.inl rfl))
 ·refine back h1 (x:=(rg P k R e).2) (mem_insert_iff.2 (.inr (List.mem_filter.2 ⟨mem_sorted.2 (List.mem_map.2 ⟨e,he,rfl⟩),?_⟩)))
  rw[Maps.notKey_iff (K.key hkey)]
  intro h2
  rw[h2] at h1
  exact e0 (K.inj h1 hkey)
end
abbrev kC (x y:Int):Value:=.agg #[.int .i64 x,.int .i64 y]
theorem ZhK:laidOutB Tryz.prog=true:=Zb
theorem ZnQ:(53:TypeId)<Tryz.prog.types.size:=of_decide_eq_true Zb
theorem ZmT:(match Tryz.prog.underlying 53 with | some (.array _ _) | some (.struct _)=>true | _=>false)=true:=by rw[Tryz.underlying53]
theorem Zno:Tryz.prog.keyTypeAt 3 53=true:=Zb
theorem ZeJ:Maps.Keyed Tryz.prog 53:=Maps.Keyed.of_law (deep_law_laid ZhK (m:=3) Za ZnQ Zno ZmT)
theorem Zjf:Tryz.prog.keyType 53=true:=Zb
theorem ZcX:Tryz.prog.cellsOf 53=2:=Zb
theorem Zdt:Tryz.prog.cellsOf 3=1:=Zb
theorem Zbo {i:Int} (h:I64 i):(Lit.int .i64 i).wf=true:=by
 have e1:IntKind.i64.min = -9223372036854775808:=Zd
 have e2:IntKind.i64.max=9223372036854775807:=Zd
 simp only[Lit.wf,e1,e2,Zqt,Zqu]
 exact h
theorem ZiF {x y:Int} (hx:I64 x) (hy:I64 y):∃ kl,keyOf Tryz.prog 53 (kC x y)=some kl:=by
 have w1:=Zbo hx
 have w2:=Zbo hy
 obtain⟨m,hm⟩:∃ m,Tryz.prog.types.size=m+1+1:=⟨Tryz.prog.types.size-2,by have h:2<=Tryz.prog.types.size:=of_decide_eq_true Zb;omega⟩
 have hf:(kC x y).formed Tryz.prog 53=true:=by simp[Value.formed,Tryz.underlying53,ZcX]
 unfold keyOf
 rw[Tryz.underlying53]
 simp only[Zjf,hf,Bool.and_self,if_true,hm,Value.cells]
 simp[Program.keyLits,Tryz.underlying53,Tryz.underlying3,ZcX,Zdt,List.range,List.range.loop,w1,w2]
def noR:Value->Option (DataW Unit×List MemPlace):=fun _=>some (.nil,[])
def CSet (w:World) (m:Nat) (ks:List (Int×Int)):Prop:=
 ∃ es clock,w.heap[m]?=some (.map es clock)/\Fit Tryz.prog 53 noR es clock/\es.size<=ks.length/\(∀ e ∈ es.toList,e.val=.bool true/\∃ k ∈ ks,e.key=kC k.1 k.2)/\∀ k ∈ ks,∃ e ∈ es.toList,e.key=kC k.1 k.2
theorem CSet.lt {w:World} {m:Nat} {ks:List (Int×Int)} (h:CSet w m ks):m<w.heap.size:=by
 obtain⟨es,clock,h1,_⟩:=h
 exact(ZqC h1)
theorem CSet.stay {w w':World} {m:Nat} {ks:List (Int×Int)} (h:CSet w m ks) (hw:w'.heap[m]?=w.heap[m]?):CSet w' m ks:=by
 obtain⟨es,clock,h1,h2⟩:=h
 exact⟨es,clock,hw.trans h1,h2⟩
theorem CSet.made (w:World):CSet (w.alloc (.map #[] 0)) w.heap.size []:=
 ⟨#[],0,(MapKept.heap_alloc w _).1,⟨Zc,stamped_empty 0,Zc⟩,Nat.le_refl _,Zc,Zc⟩
theorem Zm8 (w:World):(zeroValue 4).run Tryz.prog w=.ok (.bool false) w:=Zb
theorem CSet.look {w:World} {m:Nat} {ks:List (Int×Int)} (h:CSet w m ks) {x y:Int} (hx:I64 x) (hy:I64 y) :
  ∀ w',w'.heap[m]?=w.heap[m]?->(Instr.lookup 249 (.map (some m)) (kC x y) false).run Tryz.prog w'=.ok (.bool (decide ((x,y) ∈ ks))) w':=fun w' hw=>by
 obtain⟨es,clock,hb,F,_,h1,h2⟩:=h
 obtain⟨kl,hkl⟩:=ZiF hx hy
 rcases Maps.fit_look false ZeJ Tryz.underlying249 (Zm8 w') (hw.trans hb) F hkl with ⟨hrun,hno,_⟩ | ⟨e0,y0,hm0,h3,hrun,_⟩
 ·rw[decide_eq_false fun hk=>by obtain⟨e,he,hek⟩:=h2 _ hk;exact hno e he hek]
  exact hrun
 ·obtain⟨hv,k,hk,hkk⟩:=h1 e0 hm0
  have e6:x=k.1/\y=k.2:=by rw[h3] at hkk;simpa[kC] using hkk
  rw[decide_eq_true (show (x,y) ∈ ks by rw[e6.1,e6.2];exact hk)]
  rw[hv] at hrun
  exact hrun
theorem CSet.put {w:World} {m:Nat} {ks:List (Int×Int)} (h:CSet w m ks) {x y:Int} (hx:I64 x) (hy:I64 y) (hn:ks.length<=1000000000000) :
  ∃ w2,(Instr.mapUpdate 249 (.map (some m)) (kC x y) (.bool true)).run Tryz.prog w=.ok () w2/\CSet w2 m ((x,y)::ks)/\Keeps (fun b=>b≠m) w w2:=by
 obtain⟨es,clock,hb,F,hs,h1,h2⟩:=h
 obtain⟨kl,hkl⟩:=ZiF hx hy
 obtain⟨es',clock',hrun,F',hput,_,_,hwho⟩:=Maps.fit_store (R':=noR) (val:=.bool true) ZeJ Tryz.underlying249 hb F (by unfold maxLen;omega) (fun _ _ _ _ hz=>hz) hkl (yv:=(.nil,[])) rfl
 obtain⟨k1,k2⟩:=Zew ZeJ F F' hkl hput
 refine⟨_,hrun,⟨es',clock',heap_setBlock_same hb _,F',?_,fun e he=>?_,fun k hk=>?_⟩,⟨rfl,rfl,rfl,by simp[setBlock],fun k _ hk=>heap_setBlock_other hb _ hk⟩⟩
 ·have e1:es'.size=((es'.toList.map (rg Tryz.prog 53 noR)).foldr DataW.insert []).length:=by rw[length_sorted];simp
  have e2:=List.length_filter_le (notKey kl) ((es.toList.map (rg Tryz.prog 53 noR)).foldr DataW.insert [])
  rw[length_sorted] at e2
  rw[e1,hput]
  unfold putKey
  rw[length_insert]
  simp at e2
  simp only[Zqv]
  omega
 ·rcases hwho e he with ⟨g1,_⟩ | ⟨g1,g2⟩
  ·obtain⟨v1,k,hk,v2⟩:=h1 e g1
   exact⟨v1,k,List.mem_cons_of_mem _ hk,v2⟩
  ·exact⟨g2,(x,y),Zc,g1⟩
 ·rcases List.mem_cons.1 hk with rfl | hk
  ·exact k1
  ·obtain⟨e,he,hek⟩:=h2 k hk
   obtain⟨e',he',hk'⟩:=k2 e he
   exact⟨e',he',hk'.trans hek⟩
end Go.Proofs.YtjmckebecpjjfaaGreatDoor
