/- The parts BelC, BelS, BelK. -/
import Derived.Test.YtjmckebecpjjfaaGreatDoorH13
set_option maxRecDepth 100000
set_option maxHeartbeats 4000000
set_option linter.unusedVariables false
set_option linter.unusedSimpArgs false
namespace Go.Proofs.YtjmckebecpjjfaaGreatDoor
open Go.RowKit Go.Shelf
attribute [local go_sem ↓] Go.wp_at_zero Go.wp_at_succ
theorem ZbG (n low high:Int) (w:World):Calls Tryz.prog 85 #[.int .i64 n,.int .i64 low,.int .i64 high] w (ZB w (inG low n high)):=Zkp n low high w
structure GridW (g:GridP):Prop where
 w1:1<=g.w
 w2:g.w<=256
 h1:1<=g.h
 h2:g.h<=256
theorem Zpi {g:GridP} (h:ZaR g=true):GridW g:=by
 unfold ZaR inG at h
 simp only[Zqt,Zqu] at h
 exact⟨h.1.1.1,h.1.1.2,h.1.2.1,h.1.2.2⟩
theorem ZhD {x:Int} (h1:1<=x) (h2:x<=256):wrap64 (x-1)=x-1:=by unfold wrap64;omega
theorem ZgQ {g:GridP} (hg:GridW g) {p0:Option Addr} {n0 c0:Nat} (x y:Int) (w:World):Calls Tryz.prog 112 #[Ze1 g (.slice p0 n0 c0),kC x y] w (ZB w (hasC g x y)):=by
 have hw:=ZhD hg.w1 hg.w2
 have hh:=ZhD hg.h1 hg.h2
 have HE1:Hid (Env w.heap.size w [(w.heap.size+1,ZcB x y),(w.heap.size,ZaS g (.slice p0 n0 c0))] [] ((w.alloc (ZaS g (.slice p0 n0 c0))).alloc (ZcB x y))):=((Env.start w).push _ rfl).push _ Zc
 clear hg
 go_enter Tryz.func112,Tryz.ntmps112
 go_wp2_with fail
 refine(ZbG _ _ _ _).mono ?_
 rintro e w2 ⟨rfl,hb⟩
 have HE2:=ZqH (HE1.out.step hb)
 clear hb HE1
 rw[hw]
 have g0:=HE2.out.cell 1 0 (v:=.int .i64 g.w) rfl rfl
 have g1:=HE2.out.cell 1 1 (v:=.int .i64 g.h) rfl rfl
 have x0:=HE2.out.cell 0 0 (v:=.int .i64 x) rfl rfl
 have x1:=HE2.out.cell 0 1 (v:=.int .i64 y) rfl rfl
 cases h1:inG 0 x (g.w-1)
 ·have H3:Hid (hasC g x y=false):=by
   unfold inG at h1
   show _=_
   simp only[hasC,h1,Bool.false_and]
  clear h1 hw hh
  go_wp2
  go_ret
  exact⟨by rw[H3.out];rfl,HE2.out.base⟩
 ·have H1:=ZqH h1
  clear h1
  go_wp2_with fail
  refine(ZbG _ _ _ _).mono ?_
  rintro e w3 ⟨rfl,hb⟩
  have HE3:=ZqH (HE2.out.step hb)
  clear hb HE2 g0 g1 x0 x1
  rw[hh]
  have H2:Hid (hasC g x y=inG 0 y (g.h-1)):=by
   have h1:=H1.out
   unfold inG at h1
   show _=_
   simp only[hasC,h1,Bool.true_and,inG]
  cases h2:inG 0 y (g.h-1)
  ·have H3:Hid (hasC g x y=false):=H2.out.trans h2
   clear h2 hw hh
   go_wp2
   go_ret
   exact⟨by rw[H3.out];rfl,HE3.out.base⟩
  ·have H3:Hid (hasC g x y=true):=H2.out.trans h2
   clear h2 hw hh
   go_wp2
   go_ret
   exact⟨by rw[H3.out];rfl,HE3.out.base⟩
def Zap (key:Nat->Int×Int):Nat->List (Int×Int)
 | 0=>[]
 | n+1=>key n::Zap key n
theorem ZeD {key:Nat->Int×Int} {k:Int×Int} : ∀ {n:Nat},k ∈ Zap key n<->∃ j,j<n/\key j=k
 | 0=>by simp[Zap]
 | n+1=>by
  simp only[Zap,List.mem_cons,ZeD (n:=n)]
  constructor
  ·rintro(rfl | ⟨j,h1,h2⟩)
   ·exact⟨n,Za,rfl⟩
   ·exact⟨j,Za,h2⟩
  ·rintro⟨j,h1,h2⟩
   by_cases e:j=n
   ·subst e;exact .inl h2.symm
   ·exact .inr ⟨j,Za,h2⟩
theorem Zdp (key:Nat->Int×Int):∀ n,(Zap key n).length=n
 | 0=>rfl
 | n+1=>by simp[Zap,Zdp key n]
theorem ZdQ {key:Nat->Int×Int} {ok:Nat->Bool} {n k:Nat} (hk:k<n) (h:(∃ j,j<k/\key j=key k)\/ok k=false):Zba key ok n=false:=by
 unfold Zba
 rw[Zbq ⟨k,hk,?_⟩]
 ·rfl
 ·rcases h with ⟨j,h1,h2⟩ | h
  ·rw[Zbq ⟨j,h1,decide_eq_true h2⟩];rfl
  ·rw[h];simp
theorem Zir {key:Nat->Int×Int} {ok:Nat->Bool} {n:Nat} (h:∀ k,k<n->ok k=true/\∀ j,j<k->key j≠key k):Zba key ok n=true:=by
 unfold Zba
 rw[ZbZ fun k hk=>?_]
 ·rfl
 ·rw[(h k hk).1,ZbZ fun j hj=>decide_eq_false ((h k hk).2 j hj)]
  rfl
theorem Zm6 {gk gr:Nat} {caps:Array Value} (hentk:∀ args w,(callFunc gk args).run Tryz.prog w=.ok (.enter gk args) w) (hentr:∀ args w,(callFunc gr args).run Tryz.prog w=.ok (.enter gr args) w)
  {ok:Nat->Bool} {p:Option Addr} {n c:Nat} {w:World} (x0 x1:Nat->Int) (s0 s1:Nat->ByteArray) (hc:n<=c/\c<=9223372036854775807) (hn:n<=1000000)
  (hat:0<n->∃ b o,p=some ⟨b,o,none⟩/\∀ W,Below w.heap.size w W->∀ k,k<n->W.cell? ⟨b,o+k*4,none⟩=some (.int .i64 (x0 k))/\W.cell? ⟨b,o+k*4+1,none⟩=some (.int .i64 (x1 k))/\W.cell? ⟨b,o+k*4+2,none⟩=some (.string (s0 k))/\W.cell? ⟨b,o+k*4+3,none⟩=some (.string (s1 k)))
  (hx:∀ k,k<n->I64 (x0 k)/\I64 (x1 k))
  (hkey:∀ k,k<n->∀ W,Below w.heap.size w W->Calls Tryz.prog gk #[.agg #[.int .i64 (x0 k),.int .i64 (x1 k),.string (s0 k),.string (s1 k)]] W (ZaE (kC (x0 k) (x1 k)) W))
  (hok:∀ k,k<n->∀ W,Below w.heap.size w W->Calls Tryz.prog gr (#[.agg #[.int .i64 (x0 k),.int .i64 (x1 k),.string (s0 k),.string (s1 k)]]++caps) W (ZB W (ok k))) :
  Calls Tryz.prog 125 #[.slice p n c,.func (.func gk) #[] #[],.func (.func gr) #[] caps] w (ZB w (Zba (fun k=>(x0 k,x1 k)) ok n)):=by
 obtain⟨hc1,hc2⟩:=hc
 have HV:=ZqH hat
 have HX:=ZqH hx
 have HK:=ZqH hkey
 have HO:=ZqH hok
 have hmk:∀ (t:TypeId) (w:World),(Instr.makeMap t none).run Tryz.prog w=.ok (.map (some w.heap.size)) (w.alloc (.map #[] 0)):=fun _ _=>rfl
 have HM0:Hid (CSet (w.alloc (.map #[] 0)) w.heap.size (Zap (fun k=>(x0 k,x1 k)) 0)):=CSet.made w
 have HB0:Hid (Below w.heap.size w (w.alloc (.map #[] 0))):=(ZpV _ w).alloc ZqI _
 clear hat hx hkey hok
 go_enter Tryz.func125,Tryz.ntmps125
 go_wp2_with fail
 obtain⟨w1,hw1⟩:=ZqJ (w.alloc (.map #[] 0))
 rw[hw1] at HM0 HB0 ⊢
 clear hw1
 go_loopw [13] (fun iv wr=>∃ k:Nat,iv=.int .i64 k/\k<=n/\Hid (∀ i,i<k->ok i=true/\∀ j,j<i->(x0 j,x1 j)≠(x0 i,x1 i))/\Hid (CSet wr w.heap.size (Zap (fun k=>(x0 k,x1 k)) k))/\ZqB w wr) (fun iv _=>n-(intOf iv).toNat)
 case atStart=>exact⟨0,rfl,Zp8 _,fun i h=>Zqx h (Zql _),HM0,HB0⟩
 case round=>
  obtain⟨k,rfl,hk,HD,HM,HB⟩:=hrel
  clear HM0 HB0
  by_cases hlt:k<n
  ·obtain⟨b,o,rfl,hat⟩:=HV.out Za
   obtain⟨e0,e1,e2,e3⟩:=hat wr HB.out k hlt
   obtain⟨hx,hy⟩:=HX.out k hlt
   have hK:=HK.out k hlt
   have hO:=HO.out k hlt
   have hnew:Hid ((Zap (fun k=>(x0 k,x1 k)) (k+1))=(x0 k,x1 k)::Zap (fun k=>(x0 k,x1 k)) k):=rfl
   have hmem:Hid ((x0 k,x1 k) ∈ Zap (fun k=>(x0 k,x1 k)) k<->∃ j,j<k/\(fun k=>(x0 k,x1 k)) j=(x0 k,x1 k)):=ZeD
   have hd0:Hid (∀ j,(fun k=>(x0 k,x1 k)) j=(x0 k,x1 k)<->(x0 j,x1 j)=(x0 k,x1 k)):=fun j=>Iff.rfl
   obtain⟨x,hxe⟩:=ZqJ (x0 k)
   obtain⟨y,hye⟩:=ZqJ (x1 k)
   obtain⟨s,hse⟩:=ZqJ (s0 k)
   obtain⟨u,hue⟩:=ZqJ (s1 k)
   rw[hxe,hye,hse,hue] at hK hO
   rw[hxe] at e0 hx
   rw[hye] at e1 hy
   rw[hse] at e2
   rw[hue] at e3
   rw[hxe,hye] at hnew hmem
   have HXE:=ZqH hxe
   have HYE:=ZqH hye
   have HKK:=ZqH hK
   have HOO:=ZqH hO
   have HI:=ZqH (Zqy hx hy)
   clear hat hK hO hxe hye hse hue hx hy hd0
   obtain⟨q,hq⟩:=ZqJ wr.heap.size
   obtain⟨W,hW⟩:=ZqJ (wr.alloc (.cells #[.int .i64 x,.int .i64 y,.string s,.string u] 74))
   have hal:Below wr.heap.size wr W:=by rw[<- hW];exact(ZpV _ wr).alloc ZqI _
   have hqb:W.heap[q]?=some (.cells #[.int .i64 x,.int .i64 y,.string s,.string u] 74):=by rw[<- hW,<- hq];exact ZpY wr _
   have HQ:=ZqH hqb
   have HB1:=ZqH (HB.out.trans (hal.mono HB.out.size))
   have HM1:Hid (CSet W w.heap.size (Zap (fun k=>(x0 k,x1 k)) k)):=HM.out.stay (hal.block _ HM.out.lt)
   clear hal hqb
   have a0:=Zn HQ.out 0 (v:=.int .i64 x) rfl
   have a1:=Zn HQ.out 1 (v:=.int .i64 y) rfl
   have a2:=Zn HQ.out 2 (v:=.string s) rfl
   have a3:=Zn HQ.out 3 (v:=.string u) rfl
   go_wp2_with fail
   refine(HKK.out W HB1.out).mono ?_
   rintro e w2 ⟨rfl,hb⟩
   have HB2:=ZqH (HB1.out.trans (hb.mono HB1.out.size))
   have HM2:=ZqH (HM1.out.stay (hb.block _ HM1.out.lt))
   clear a0 a1 a2 a3
   have hqk:w2.heap[q]?=some _:=(hb.block _ (ZqC HQ.out)).trans HQ.out
   clear HQ
   have HQ:=ZqH hqk
   clear hqk hb
   have a0:=Zn HQ.out 0 (v:=.int .i64 x) rfl
   have a1:=Zn HQ.out 1 (v:=.int .i64 y) rfl
   have a2:=Zn HQ.out 2 (v:=.string s) rfl
   have a3:=Zn HQ.out 3 (v:=.string u) rfl
   have hlook:=HM2.out.look HI.out.1 HI.out.2 w2 rfl
   cases hd:decide ((x,y) ∈ Zap (fun k=>(x0 k,x1 k)) k)
   rotate_left
   ·have HNO:Hid (Zba (fun k=>(x0 k,x1 k)) ok n=false):=ZdQ hlt (.inl (by
     show ∃ j,j<k/\(x0 j,x1 j)=(x0 k,x1 k)
     rw[HXE.out,HYE.out]
     exact hmem.out.1 (of_decide_eq_true hd)))
    rw[hd] at hlook
    clear hd
    go_wp2
    exact ZpW (v:=.bool false) (by simp[results,Tryz.f125,go_sem]) rfl ⟨by rw[HNO.out],HB2.out⟩
   have HD2:Hid (∀ j,j<k->(x0 j,x1 j)≠(x,y)):=fun j hj e=>of_decide_eq_false hd (hmem.out.2 ⟨j,hj,e⟩)
   rw[hd] at hlook
   clear hd
   obtain⟨r,hr⟩:=ZqJ (ok k)
   have HR:=ZqH hr
   clear hr
   go_wp2_with fail
   refine(HOO.out w2 HB2.out).mono ?_
   rintro e w3 ⟨rfl,hb⟩
   rw[HR.out]
   clear hlook
   have HB3:=ZqH (HB2.out.trans (hb.mono HB2.out.size))
   have HM3:=ZqH (HM2.out.stay (hb.block _ HM2.out.lt))
   clear a0 a1 a2 a3
   have hqk:w3.heap[q]?=some _:=(hb.block _ (ZqC HQ.out)).trans HQ.out
   clear HQ
   have HQ:=ZqH hqk
   clear hqk hb
   have a0:=Zn HQ.out 0 (v:=.int .i64 x) rfl
   have a1:=Zn HQ.out 1 (v:=.int .i64 y) rfl
   have a2:=Zn HQ.out 2 (v:=.string s) rfl
   have a3:=Zn HQ.out 3 (v:=.string u) rfl
   cases r
   ·have HNO:Hid (Zba (fun k=>(x0 k,x1 k)) ok n=false):=ZdQ hlt (.inr HR.out)
    go_wp2
    exact ZpW (v:=.bool false) (by simp[results,Tryz.f125,go_sem]) rfl ⟨by rw[HNO.out],HB3.out⟩
   go_wp2_with fail
   refine(HKK.out w3 HB3.out).mono ?_
   rintro e w4 ⟨rfl,hb⟩
   have HB4:=ZqH (HB3.out.trans (hb.mono HB3.out.size))
   have HM4:=ZqH (HM3.out.stay (hb.block _ HM3.out.lt))
   clear a0 a1 a2 a3
   have hqk:w4.heap[q]?=some _:=(hb.block _ (ZqC HQ.out)).trans HQ.out
   clear HQ
   have HQ:=ZqH hqk
   clear hqk hb
   have a0:=Zn HQ.out 0 (v:=.int .i64 x) rfl
   have a1:=Zn HQ.out 1 (v:=.int .i64 y) rfl
   have a2:=Zn HQ.out 2 (v:=.string s) rfl
   have a3:=Zn HQ.out 3 (v:=.string u) rfl
   obtain⟨w5,hrun,hm5,hk5⟩:=HM4.out.put HI.out.1 HI.out.2 (by rw[Zdp];omega)
   have HM5:Hid (CSet w5 w.heap.size (Zap (fun k=>(x0 k,x1 k)) (k+1))):=by rw[hnew.out];exact hm5
   have HB5:ZqB w w5:=HB4.out.trans ⟨hk5.os,hk5.tape,hk5.output,hk5.size,fun i hi=>hk5.block i (Zp2 hi HB4.out.size) Za⟩
   have HD5:Hid (∀ i,i<k+1->ok i=true/\∀ j,j<i->(x0 j,x1 j)≠(x0 i,x1 i)):=fun i hi=>by
    rcases Zp1 i k with h3 | h3
    ·exact HD.out i h3
    ·obtain rfl:i=k:=Za
     rw[HXE.out,HYE.out]
     exact⟨HR.out,HD2.out⟩
   clear hm5 hk5
   go_wp2
   go_roundw
   case rel=>exact⟨k+1,by go_num,Za,HD5,HM5,HB5⟩
   case measure=>exact Zj
  ·obtain rfl:n=k:=Za
   have HY:Hid (Zba (fun k=>(x0 k,x1 k)) ok n=true):=Zir HD.out
   go_wp2
   exact ZpW (v:=.bool true) (by simp[results,Tryz.f125,go_sem]) rfl ⟨by rw[HY.out],HB.out⟩
theorem Zlr {gk gr:Nat} {caps:Array Value} (hentk:∀ args w,(callFunc gk args).run Tryz.prog w=.ok (.enter gk args) w) (hentr:∀ args w,(callFunc gr args).run Tryz.prog w=.ok (.enter gr args) w)
  {ok:Nat->Bool} {p:Option Addr} {n c:Nat} {w:World} (x0 x1:Nat->Int) (s0 s1:Nat->ByteArray) (hc:n<=c/\c<=9223372036854775807) (hn:n<=1000000)
  (hat:0<n->∃ b o,p=some ⟨b,o,none⟩/\∀ W,Below w.heap.size w W->∀ k,k<n->W.cell? ⟨b,o+k*4,none⟩=some (.int .i64 (x0 k))/\W.cell? ⟨b,o+k*4+1,none⟩=some (.int .i64 (x1 k))/\W.cell? ⟨b,o+k*4+2,none⟩=some (.string (s0 k))/\W.cell? ⟨b,o+k*4+3,none⟩=some (.string (s1 k)))
  (hx:∀ k,k<n->I64 (x0 k)/\I64 (x1 k))
  (hkey:∀ k,k<n->∀ W,Below w.heap.size w W->Calls Tryz.prog gk #[.agg #[.int .i64 (x0 k),.int .i64 (x1 k),.string (s0 k),.string (s1 k)]] W (ZaE (kC (x0 k) (x1 k)) W))
  (hok:∀ k,k<n->∀ W,Below w.heap.size w W->Calls Tryz.prog gr (#[.agg #[.int .i64 (x0 k),.int .i64 (x1 k),.string (s0 k),.string (s1 k)]]++caps) W (ZB W (ok k))) :
  Calls Tryz.prog 128 #[.slice p n c,.func (.func gk) #[] #[],.func (.func gr) #[] caps] w (ZB w (Zba (fun k=>(x0 k,x1 k)) ok n)):=by
 obtain⟨hc1,hc2⟩:=hc
 have HV:=ZqH hat
 have HX:=ZqH hx
 have HK:=ZqH hkey
 have HO:=ZqH hok
 have hmk:∀ (t:TypeId) (w:World),(Instr.makeMap t none).run Tryz.prog w=.ok (.map (some w.heap.size)) (w.alloc (.map #[] 0)):=fun _ _=>rfl
 have HM0:Hid (CSet (w.alloc (.map #[] 0)) w.heap.size (Zap (fun k=>(x0 k,x1 k)) 0)):=CSet.made w
 have HB0:Hid (Below w.heap.size w (w.alloc (.map #[] 0))):=(ZpV _ w).alloc ZqI _
 clear hat hx hkey hok
 go_enter Tryz.func128,Tryz.ntmps128
 go_wp2_with fail
 obtain⟨w1,hw1⟩:=ZqJ (w.alloc (.map #[] 0))
 rw[hw1] at HM0 HB0 ⊢
 clear hw1
 go_loopw [13] (fun iv wr=>∃ k:Nat,iv=.int .i64 k/\k<=n/\Hid (∀ i,i<k->ok i=true/\∀ j,j<i->(x0 j,x1 j)≠(x0 i,x1 i))/\Hid (CSet wr w.heap.size (Zap (fun k=>(x0 k,x1 k)) k))/\ZqB w wr) (fun iv _=>n-(intOf iv).toNat)
 case atStart=>exact⟨0,rfl,Zp8 _,fun i h=>Zqx h (Zql _),HM0,HB0⟩
 case round=>
  obtain⟨k,rfl,hk,HD,HM,HB⟩:=hrel
  clear HM0 HB0
  by_cases hlt:k<n
  ·obtain⟨b,o,rfl,hat⟩:=HV.out Za
   obtain⟨e0,e1,e2,e3⟩:=hat wr HB.out k hlt
   obtain⟨hx,hy⟩:=HX.out k hlt
   have hK:=HK.out k hlt
   have hO:=HO.out k hlt
   have hnew:Hid ((Zap (fun k=>(x0 k,x1 k)) (k+1))=(x0 k,x1 k)::Zap (fun k=>(x0 k,x1 k)) k):=rfl
   have hmem:Hid ((x0 k,x1 k) ∈ Zap (fun k=>(x0 k,x1 k)) k<->∃ j,j<k/\(fun k=>(x0 k,x1 k)) j=(x0 k,x1 k)):=ZeD
   have hd0:Hid (∀ j,(fun k=>(x0 k,x1 k)) j=(x0 k,x1 k)<->(x0 j,x1 j)=(x0 k,x1 k)):=fun j=>Iff.rfl
   obtain⟨x,hxe⟩:=ZqJ (x0 k)
   obtain⟨y,hye⟩:=ZqJ (x1 k)
   obtain⟨s,hse⟩:=ZqJ (s0 k)
   obtain⟨u,hue⟩:=ZqJ (s1 k)
   rw[hxe,hye,hse,hue] at hK hO
   rw[hxe] at e0 hx
   rw[hye] at e1 hy
   rw[hse] at e2
   rw[hue] at e3
   rw[hxe,hye] at hnew hmem
   have HXE:=ZqH hxe
   have HYE:=ZqH hye
   have HKK:=ZqH hK
   have HOO:=ZqH hO
   have HI:=ZqH (Zqy hx hy)
   clear hat hK hO hxe hye hse hue hx hy hd0
   obtain⟨q,hq⟩:=ZqJ wr.heap.size
   obtain⟨W,hW⟩:=ZqJ (wr.alloc (.cells #[.int .i64 x,.int .i64 y,.string s,.string u] 93))
   have hal:Below wr.heap.size wr W:=by rw[<- hW];exact(ZpV _ wr).alloc ZqI _
   have hqb:W.heap[q]?=some (.cells #[.int .i64 x,.int .i64 y,.string s,.string u] 93):=by rw[<- hW,<- hq];exact ZpY wr _
   have HQ:=ZqH hqb
   have HB1:=ZqH (HB.out.trans (hal.mono HB.out.size))
   have HM1:Hid (CSet W w.heap.size (Zap (fun k=>(x0 k,x1 k)) k)):=HM.out.stay (hal.block _ HM.out.lt)
   clear hal hqb
   have a0:=Zn HQ.out 0 (v:=.int .i64 x) rfl
   have a1:=Zn HQ.out 1 (v:=.int .i64 y) rfl
   have a2:=Zn HQ.out 2 (v:=.string s) rfl
   have a3:=Zn HQ.out 3 (v:=.string u) rfl
   go_wp2_with fail
   refine(HKK.out W HB1.out).mono ?_
   rintro e w2 ⟨rfl,hb⟩
   have HB2:=ZqH (HB1.out.trans (hb.mono HB1.out.size))
   have HM2:=ZqH (HM1.out.stay (hb.block _ HM1.out.lt))
   clear a0 a1 a2 a3
   have hqk:w2.heap[q]?=some _:=(hb.block _ (ZqC HQ.out)).trans HQ.out
   clear HQ
   have HQ:=ZqH hqk
   clear hqk hb
   have a0:=Zn HQ.out 0 (v:=.int .i64 x) rfl
   have a1:=Zn HQ.out 1 (v:=.int .i64 y) rfl
   have a2:=Zn HQ.out 2 (v:=.string s) rfl
   have a3:=Zn HQ.out 3 (v:=.string u) rfl
   have hlook:=HM2.out.look HI.out.1 HI.out.2 w2 rfl
   cases hd:decide ((x,y) ∈ Zap (fun k=>(x0 k,x1 k)) k)
   rotate_left
   ·have HNO:Hid (Zba (fun k=>(x0 k,x1 k)) ok n=false):=ZdQ hlt (.inl (by
     show ∃ j,j<k/\(x0 j,x1 j)=(x0 k,x1 k)
     rw[HXE.out,HYE.out]
     exact hmem.out.1 (of_decide_eq_true hd)))
    rw[hd] at hlook
    clear hd
    go_wp2
    exact ZpW (v:=.bool false) (by simp[results,Tryz.f128,go_sem]) rfl ⟨by rw[HNO.out],HB2.out⟩
   have HD2:Hid (∀ j,j<k->(x0 j,x1 j)≠(x,y)):=fun j hj e=>of_decide_eq_false hd (hmem.out.2 ⟨j,hj,e⟩)
   rw[hd] at hlook
   clear hd
   obtain⟨r,hr⟩:=ZqJ (ok k)
   have HR:=ZqH hr
   clear hr
   go_wp2_with fail
   refine(HOO.out w2 HB2.out).mono ?_
   rintro e w3 ⟨rfl,hb⟩
   rw[HR.out]
   clear hlook
   have HB3:=ZqH (HB2.out.trans (hb.mono HB2.out.size))
   have HM3:=ZqH (HM2.out.stay (hb.block _ HM2.out.lt))
   clear a0 a1 a2 a3
   have hqk:w3.heap[q]?=some _:=(hb.block _ (ZqC HQ.out)).trans HQ.out
   clear HQ
   have HQ:=ZqH hqk
   clear hqk hb
   have a0:=Zn HQ.out 0 (v:=.int .i64 x) rfl
   have a1:=Zn HQ.out 1 (v:=.int .i64 y) rfl
   have a2:=Zn HQ.out 2 (v:=.string s) rfl
   have a3:=Zn HQ.out 3 (v:=.string u) rfl
   cases r
   ·have HNO:Hid (Zba (fun k=>(x0 k,x1 k)) ok n=false):=ZdQ hlt (.inr HR.out)
    go_wp2
    exact ZpW (v:=.bool false) (by simp[results,Tryz.f128,go_sem]) rfl ⟨by rw[HNO.out],HB3.out⟩
   go_wp2_with fail
   refine(HKK.out w3 HB3.out).mono ?_
   rintro e w4 ⟨rfl,hb⟩
   have HB4:=ZqH (HB3.out.trans (hb.mono HB3.out.size))
   have HM4:=ZqH (HM3.out.stay (hb.block _ HM3.out.lt))
   clear a0 a1 a2 a3
   have hqk:w4.heap[q]?=some _:=(hb.block _ (ZqC HQ.out)).trans HQ.out
   clear HQ
   have HQ:=ZqH hqk
   clear hqk hb
   have a0:=Zn HQ.out 0 (v:=.int .i64 x) rfl
   have a1:=Zn HQ.out 1 (v:=.int .i64 y) rfl
   have a2:=Zn HQ.out 2 (v:=.string s) rfl
   have a3:=Zn HQ.out 3 (v:=.string u) rfl
   obtain⟨w5,hrun,hm5,hk5⟩:=HM4.out.put HI.out.1 HI.out.2 (by rw[Zdp];omega)
   have HM5:Hid (CSet w5 w.heap.size (Zap (fun k=>(x0 k,x1 k)) (k+1))):=by rw[hnew.out];exact hm5
   have HB5:ZqB w w5:=HB4.out.trans ⟨hk5.os,hk5.tape,hk5.output,hk5.size,fun i hi=>hk5.block i (Zp2 hi HB4.out.size) Za⟩
   have HD5:Hid (∀ i,i<k+1->ok i=true/\∀ j,j<i->(x0 j,x1 j)≠(x0 i,x1 i)):=fun i hi=>by
    rcases Zp1 i k with h3 | h3
    ·exact HD.out i h3
    ·obtain rfl:i=k:=Za
     rw[HXE.out,HYE.out]
     exact⟨HR.out,HD2.out⟩
   clear hm5 hk5
   go_wp2
   go_roundw
   case rel=>exact⟨k+1,by go_num,Za,HD5,HM5,HB5⟩
   case measure=>exact Zj
  ·obtain rfl:n=k:=Za
   have HY:Hid (Zba (fun k=>(x0 k,x1 k)) ok n=true):=Zir HD.out
   go_wp2
   exact ZpW (v:=.bool true) (by simp[results,Tryz.f128,go_sem]) rfl ⟨by rw[HY.out],HB.out⟩
abbrev shO (x y:Int) (s t:ByteArray):Obj:=.cells #[.int .i64 x,.int .i64 y,.string s,.string t] 74
abbrev stO (x y:Int) (s t:ByteArray):Obj:=.cells #[.int .i64 x,.int .i64 y,.string s,.string t] 93
abbrev shV (x y:Int) (s t:ByteArray):Value:=.agg #[.int .i64 x,.int .i64 y,.string s,.string t]
theorem ZdG (s:ByteArray) (c:UInt8):s=⟨#[c]⟩<->s.toList=[c]:=by
 constructor
 ·rintro rfl
  rw[Zqi]
 ·intro h
  rw[Zqi] at h
  rw[<- ZdN s,h]
  rfl
theorem ZfE (s t:ByteArray):Zcy (s,t)=decide (s.toList=[48]/\t.toList=[49]):=by
 unfold Zcy
 simp only[ZdG]
theorem Zmp (x y:Int) (s t:ByteArray) (w:World):Calls Tryz.prog 126 #[shV x y s t] w (ZaE (kC x y) w):=by
 go_enter Tryz.func126,Tryz.ntmps126
 go_wp2
 have HE:Hid (Env w.heap.size w [(w.heap.size+1,ZcB x y),(w.heap.size,shO x y s t)] [] ((w.alloc (shO x y s t)).alloc (ZcB x y))):=((Env.start w).push _ rfl).push _ Zc
 have q0:=HE.out.cell 0 0 (v:=.int .i64 x) rfl rfl
 have q1:=HE.out.cell 0 1 (v:=.int .i64 y) rfl rfl
 exact ZpW (v:=kC x y) (by simp[results,Tryz.f126,go_sem,q0,q1]) rfl ⟨rfl,HE.out.base⟩
theorem Zmf (x y:Int) (s t:ByteArray) (w:World):Calls Tryz.prog 129 #[shV x y s t] w (ZaE (kC x y) w):=by
 go_enter Tryz.func129,Tryz.ntmps129
 go_wp2
 have HE:Hid (Env w.heap.size w [(w.heap.size+1,ZcB x y),(w.heap.size,stO x y s t)] [] ((w.alloc (stO x y s t)).alloc (ZcB x y))):=((Env.start w).push _ rfl).push _ Zc
 have q0:=HE.out.cell 0 0 (v:=.int .i64 x) rfl rfl
 have q1:=HE.out.cell 0 1 (v:=.int .i64 y) rfl rfl
 exact ZpW (v:=kC x y) (by simp[results,Tryz.f129,go_sem,q0,q1]) rfl ⟨rfl,HE.out.base⟩
theorem ZmX (x y:Int) (s t:ByteArray) (w:World) (hz:BelZ w):Calls Tryz.prog 132 #[shV x y s t] w (ZB w (!Zcy (s,t))):=by
 go_enter Tryz.func132,Tryz.ntmps132
 have HB:=ZqH ((ZpV w.heap.size w).alloc ZqI (shO x y s t))
 have hz2:=hz.below HB.out ZqI
 have z0:=hz2.z0
 have z1:=hz2.z1
 go_wp2
 all_goals
  go_ret
  exact⟨by simp[ZfE, *],HB.out⟩
theorem Znn {g:GridP} (hg:GridW g) {p0:Option Addr} {n0 c0 B:Nat} (x y:Int) (s t:ByteArray) (w:World) (hs:s.size<=1000000) (ht:t.size<=1000000) (hB:w.heap[B]?=some (ZaS g (.slice p0 n0 c0))) :
  Calls Tryz.prog 127 #[shV x y s t,.pointer (some ⟨B,0,none⟩)] w (ZB w (Zct g ⟨x,y,(s,t)⟩)):=by
 have HE1:Hid (Env w.heap.size w [(w.heap.size,shO x y s t)] [] (w.alloc (shO x y s t))):=(Env.start w).push _ rfl
 have hBl:=(ZqC hB)
 have hB2:(w.alloc (shO x y s t)).heap[B]?=some (ZaS g (.slice p0 n0 c0)):=(HE1.out.base.block B hBl).trans hB
 have g0:=Zn hB2 0 (v:=.int .i64 g.w) rfl
 have g1:=Zn hB2 1 (v:=.int .i64 g.h) rfl
 have g2:=Zn hB2 2 (v:=.int .i64 g.size) rfl
 have g3:=Zn hB2 3 (v:=.slice p0 n0 c0) rfl
 have HG:=ZqH hg
 clear hB hg hB2
 go_enter Tryz.func127,Tryz.ntmps127
 go_wp2_with fail
 refine(ZgQ HG.out x y _).mono ?_
 rintro e w2 ⟨rfl,hb⟩
 have HE2:=ZqH (HE1.out.step hb)
 clear hb HE1 g0 g1 g2 g3
 have x0:=HE2.out.cell 0 0 (v:=.int .i64 x) rfl rfl
 have x1:=HE2.out.cell 0 1 (v:=.int .i64 y) rfl rfl
 have x2:=HE2.out.cell 0 2 (v:=.string s) rfl rfl
 have x3:=HE2.out.cell 0 3 (v:=.string t) rfl rfl
 cases h1:hasC g x y
 ·have H3:Hid (Zct g ⟨x,y,(s,t)⟩=false):=by show _=_;simp only[Zct,h1,Bool.false_and]
  clear h1
  go_wp2
  go_ret
  exact⟨by rw[H3.out];rfl,HE2.out.base⟩
 ·have H3:Hid (Zct g ⟨x,y,(s,t)⟩=ZW 9 (s,t)):=by show _=_;simp only[Zct,h1,Bool.true_and]
  clear h1
  go_wp2_with fail
  refine(Zcn 9 s t hs ht _).mono ?_
  rintro e w3 ⟨rfl,hb⟩
  have HE3:=ZqH (HE2.out.step hb)
  clear hb HE2 x0 x1 x2 x3
  go_wp2
  go_ret
  exact⟨by rw[H3.out];rfl,HE3.out.base⟩
theorem ZmA (x y:Int) (s t:ByteArray) (w:World) (hs:s.size<=1000000) (ht:t.size<=1000000) :
  Calls Tryz.prog 130 #[shV x y s t] w (ZB w (Zao ⟨x,y,(s,t)⟩)):=by
 have HE1:Hid (Env w.heap.size w [(w.heap.size,stO x y s t)] [] (w.alloc (stO x y s t))):=(Env.start w).push _ rfl
 go_enter Tryz.func130,Tryz.ntmps130
 go_wp2_with fail
 refine(ZbG _ _ _ _).mono ?_
 rintro e w2 ⟨rfl,hb⟩
 have HE2:=ZqH (HE1.out.step hb)
 clear hb HE1
 have x0:=HE2.out.cell 0 0 (v:=.int .i64 x) rfl rfl
 have x1:=HE2.out.cell 0 1 (v:=.int .i64 y) rfl rfl
 have x2:=HE2.out.cell 0 2 (v:=.string s) rfl rfl
 have x3:=HE2.out.cell 0 3 (v:=.string t) rfl rfl
 cases h1:inG (-8) x 8
 ·have H3:Hid (Zao ⟨x,y,(s,t)⟩=false):=by show _=_;simp only[Zao,h1,Bool.false_and]
  clear h1
  go_wp2
  go_ret
  exact⟨by rw[H3.out];rfl,HE2.out.base⟩
 have H1:=ZqH h1
 clear h1
 go_wp2_with fail
 refine(ZbG _ _ _ _).mono ?_
 rintro e w3 ⟨rfl,hb⟩
 have HE3:=ZqH (HE2.out.step hb)
 clear hb HE2 x0 x1 x2 x3
 have x0:=HE3.out.cell 0 0 (v:=.int .i64 x) rfl rfl
 have x1:=HE3.out.cell 0 1 (v:=.int .i64 y) rfl rfl
 have x2:=HE3.out.cell 0 2 (v:=.string s) rfl rfl
 have x3:=HE3.out.cell 0 3 (v:=.string t) rfl rfl
 cases h2:inG (-8) y 8
 ·have H3:Hid (Zao ⟨x,y,(s,t)⟩=false):=by show _=_;simp only[Zao,h2,Bool.false_and,Bool.and_false]
  clear h2
  go_wp2
  go_ret
  exact⟨by rw[H3.out];rfl,HE3.out.base⟩
 have H3:Hid (Zao ⟨x,y,(s,t)⟩=ZW 9 (s,t)):=by show _=_;simp only[Zao,H1.out,h2,Bool.true_and]
 clear h2
 go_wp2_with fail
 refine(Zcn 9 s t hs ht _).mono ?_
 rintro e w4 ⟨rfl,hb⟩
 have HE4:=ZqH (HE3.out.step hb)
 clear hb HE3 x0 x1 x2 x3
 go_wp2
 go_ret
 exact⟨by rw[H3.out];rfl,HE4.out.base⟩
def Sz1 (p:PP):Prop:=p.1.size<=1000000/\p.2.size<=1000000
def LimS (s:SceneP):Prop:=Sz1 s.weight/\(∀ x ∈ s.start,Sz1 x.weight)/\∀ x ∈ s.strides,Sz1 x.chance
def LimB (b:BelP):Prop:=∀ s ∈ b.scenes,LimS s
theorem Zay.at {l:List ShareP} {p:Option Addr} {n c:Nat} {w:World} (h:Zay w (.slice p n c) l) (hn:l.length=n) (h0:0<n) :
  ∃ b o,p=some ⟨b,o,none⟩/\∀ W,Below w.heap.size w W->∀ k,k<n->W.cell? ⟨b,o+k*4,none⟩=some (.int .i64 (shA l k).x)/\W.cell? ⟨b,o+k*4+1,none⟩=some (.int .i64 (shA l k).y)/\W.cell? ⟨b,o+k*4+2,none⟩=some (.string (shA l k).weight.1)/\W.cell? ⟨b,o+k*4+3,none⟩=some (.string (shA l k).weight.2):=by
 obtain⟨b,o,h1,_,h2⟩:=LL.at ZbQ.stays h hn h0
 refine⟨b,o,h1,fun W hW k hk=>?_⟩
 obtain⟨a1,a2,a3,a4⟩:=h2 W hW k Za
 rw[Zc2 Za] at a1 a2 a3 a4
 exact⟨a1.1,a2.1,a3,a4⟩
theorem Zay.i64 {l:List ShareP} {v:Value} {w:World} (h:Zay w v l) (k:Nat) (hk:k<l.length):I64 (shA l k).x/\I64 (shA l k).y:=by
 obtain⟨p,c,rfl,_⟩:=h.shape rfl
 obtain⟨b,o,_,_,h2⟩:=LL.at ZbQ.stays h rfl Za
 obtain⟨a1,a2,_⟩:=h2 w (ZpV _ w) k hk
 rw[Zc2 hk] at a1 a2
 exact⟨a1.2,a2.2⟩
theorem Zad.at {l:List StrideP} {p:Option Addr} {n c:Nat} {w:World} (h:Zad w (.slice p n c) l) (hn:l.length=n) (h0:0<n) :
  ∃ b o,p=some ⟨b,o,none⟩/\∀ W,Below w.heap.size w W->∀ k,k<n->W.cell? ⟨b,o+k*4,none⟩=some (.int .i64 (stA l k).dx)/\W.cell? ⟨b,o+k*4+1,none⟩=some (.int .i64 (stA l k).dy)/\W.cell? ⟨b,o+k*4+2,none⟩=some (.string (stA l k).chance.1)/\W.cell? ⟨b,o+k*4+3,none⟩=some (.string (stA l k).chance.2):=by
 obtain⟨b,o,h1,_,h2⟩:=LL.at Zb1.stays h hn h0
 refine⟨b,o,h1,fun W hW k hk=>?_⟩
 obtain⟨a1,a2,a3,a4⟩:=h2 W hW k Za
 rw[ZcG Za] at a1 a2 a3 a4
 exact⟨a1.1,a2.1,a3,a4⟩
theorem Zad.i64 {l:List StrideP} {v:Value} {w:World} (h:Zad w v l) (k:Nat) (hk:k<l.length):I64 (stA l k).dx/\I64 (stA l k).dy:=by
 obtain⟨p,c,rfl,_⟩:=h.shape rfl
 obtain⟨b,o,_,_,h2⟩:=LL.at Zb1.stays h rfl Za
 obtain⟨a1,a2,_⟩:=h2 w (ZpV _ w) k hk
 rw[ZcG hk] at a1 a2
 exact⟨a1.2,a2.2⟩
theorem LimS.start {s:SceneP} (h:LimS s) {k:Nat} (hk:k<s.start.length):Sz1 (shA s.start k).weight:=by rw[<- Zc2 hk];exact h.2.1 _ (Zqm hk)
theorem LimS.stride {s:SceneP} (h:LimS s) {k:Nat} (hk:k<s.strides.length):Sz1 (stA s.strides k).chance:=by rw[<- ZcG hk];exact h.2.2 _ (Zqm hk)
theorem Zg2 {key:Nat->Int×Int} {ok:Nat->Bool} {n k:Nat} (h:Zba key ok n=true) (hk:k<n):ok k=true:=by
 cases e:ok k
 ·rw[ZdQ hk (.inr e)] at h
  cases h
 ·rfl
abbrev scO (s t:ByteArray) (a b:Value):Obj:=.cells #[.string s,.string t,a,b] 72
abbrev scV (s t:ByteArray) (a b:Value):Value:=.agg #[.string s,.string t,a,b]
theorem Zfw {g:GridP} {s:SceneP} (h:((ZW 9 s.weight && inG 1 s.start.length 256) && inG 1 s.strides.length 25)=false):Zaa g s=false:=by unfold Zaa;rw[h];rfl
theorem Zh7 {g:GridP} (hg:GridW g) {pg:Option Addr} {ng cg:Nat} {s:SceneP} {va vb:Value} {w:World} (ha:Zay w va s.start) (hb:Zad w vb s.strides) (hz:LimS s) (hT:Tabs w) (hZ:BelZ w) :
  Calls Tryz.prog 88 #[Ze1 g (.slice pg ng cg),scV s.weight.1 s.weight.2 va vb] w (ZB w (Zaa g s)):=by
 obtain⟨na,hna⟩:=ZqJ s.start.length
 obtain⟨nb,hnb⟩:=ZqJ s.strides.length
 obtain⟨pa,ca,rfl,ha1,ha2⟩:=ha.shape hna
 obtain⟨pb,cb,rfl,hb1,hb2⟩:=hb.shape hnb
 obtain⟨i0,hi,hz0,hz1,hz2⟩:=info_parts Zd4
 have HA:=ZqH ha
 have HB:=ZqH hb
 have HZ:=ZqH hz
 have HT:=ZqH hT
 have HZZ:=ZqH hZ
 have HG:=ZqH hg
 have HNA:=ZqH hna
 have HNB:=ZqH hnb
 obtain⟨⟨s1,s2⟩,hw⟩:∃ z,s.weight=z:=⟨_,rfl⟩
 have HWT:=ZqH hw
 rw[hw]
 have HE1:Hid (Env w.heap.size w [(w.heap.size+1,scO s1 s2 (.slice pa na ca) (.slice pb nb cb)),(w.heap.size,ZaS g (.slice pg ng cg))] [] ((w.alloc (ZaS g (.slice pg ng cg))).alloc (scO s1 s2 (.slice pa na ca) (.slice pb nb cb)))):=((Env.start w).push _ rfl).push _ Zc
 clear ha hb hz hT hZ hg hna hnb hw
 go_enter Tryz.func88,Tryz.ntmps88
 go_wp2_with fail
 refine(Zcn 9 s1 s2 (by have:=HZ.out.1.1;rw[HWT.out] at this;exact this) (by have:=HZ.out.1.2;rw[HWT.out] at this;exact this) _).mono ?_
 rintro e w2 ⟨rfl,hb⟩
 have HE2:=ZqH (HE1.out.step hb)
 clear hb HE1
 have s0:=HE2.out.cell 0 0 (v:=.string s1) rfl rfl
 have s1':=HE2.out.cell 0 1 (v:=.string s2) rfl rfl
 have s2':=HE2.out.cell 0 2 (v:=.slice pa na ca) rfl rfl
 have s3':=HE2.out.cell 0 3 (v:=.slice pb nb cb) rfl rfl
 cases h1:ZW 9 (s1,s2)
 ·skip
  have HNO:Hid (Zaa g s=false):=Zfw (by rw[HWT.out,h1];rfl)
  go_wp2
  exact ZpW (v:=.bool false) (by simp[results,Tryz.f88,go_sem]) rfl ⟨by rw[HNO.out],HE2.out.base⟩
 have H1:=ZqH h1
 clear h1
 go_wp2_with fail
 refine(ZbG _ _ _ _).mono ?_
 rintro e w3 ⟨rfl,hb⟩
 have HE3:=ZqH (HE2.out.step hb)
 clear hb HE2 s0 s1' s2' s3'
 have s0:=HE3.out.cell 0 0 (v:=.string s1) rfl rfl
 have s1':=HE3.out.cell 0 1 (v:=.string s2) rfl rfl
 have s2':=HE3.out.cell 0 2 (v:=.slice pa na ca) rfl rfl
 have s3':=HE3.out.cell 0 3 (v:=.slice pb nb cb) rfl rfl
 cases h2:inG 1 na 256
 ·skip
  have HNO:Hid (Zaa g s=false):=Zfw (by rw[HWT.out,H1.out,HNA.out,h2];rfl)
  go_wp2
  exact ZpW (v:=.bool false) (by simp[results,Tryz.f88,go_sem]) rfl ⟨by rw[HNO.out],HE3.out.base⟩
 have H2:=ZqH h2
 clear h2
 go_wp2_with fail
 refine(ZbG _ _ _ _).mono ?_
 rintro e w4 ⟨rfl,hb⟩
 have HE4:=ZqH (HE3.out.step hb)
 clear hb HE3 s0 s1' s2' s3'
 have s0:=HE4.out.cell 0 0 (v:=.string s1) rfl rfl
 have s1':=HE4.out.cell 0 1 (v:=.string s2) rfl rfl
 have s2':=HE4.out.cell 0 2 (v:=.slice pa na ca) rfl rfl
 have s3':=HE4.out.cell 0 3 (v:=.slice pb nb cb) rfl rfl
 cases h3:inG 1 nb 25
 ·skip
  have HNO:Hid (Zaa g s=false):=Zfw (by rw[HWT.out,H1.out,HNA.out,H2.out,HNB.out,h3];rfl)
  go_wp2
  exact ZpW (v:=.bool false) (by simp[results,Tryz.f88,go_sem]) rfl ⟨by rw[HNO.out],HE4.out.base⟩
 have H3:=ZqH h3
 clear h3
 have HS:Hid (Zaa g s=((Zba (fun k=>((shA s.start k).x,(shA s.start k).y)) (fun k=>Zct g (shA s.start k)) na && Zba (fun k=>((stA s.strides k).dx,(stA s.strides k).dy)) (fun k=>Zao (stA s.strides k)) nb) &&
   (ZV (fun k=>!Zcy (shA s.start k).weight) na && decide (sumA 0 (s.strides.map fun x=>qP x.chance)=some 1)))):=by
  show _=_
  unfold Zaa
  rw[HWT.out,H1.out,HNA.out,H2.out,HNB.out,H3.out]
  rfl
 have hA2:=H2.out
 have hB2:=H3.out
 unfold inG at hA2 hB2
 simp only[Zqt,Zqu] at hA2 hB2
 have HD1:=ZqH (Zm6 (w:=w4) (gk:=126) (gr:=127) (caps:=#[.pointer (some ⟨w.heap.size,0,none⟩)]) (enters_of Tryz.func126 Zb rfl) (enters_of Tryz.func127 Zb rfl)
  (ok:=fun k=>Zct g (shA s.start k)) (p:=pa) (n:=na) (c:=ca) (fun k=>(shA s.start k).x) (fun k=>(shA s.start k).y) (fun k=>(shA s.start k).weight.1) (fun k=>(shA s.start k).weight.2) ⟨ha1,ha2⟩ Za
  (fun h0=>Zay.at (HA.out.after ZbQ.stays HE4.out.base ZqI) HNA.out h0) (fun k hk=>HA.out.i64 k (by rw[HNA.out];exact hk))
  (fun k hk W hW=>Zmp _ _ _ _ W)
  (fun k hk W hW=>by
   have hs:=HZ.out.start (k:=k) (by rw[HNA.out];exact hk)
   exact Znn HG.out _ _ _ _ W hs.1 hs.2 ((hW.block _ (HE4.out.lt 1 rfl)).trans (HE4.out.block 1 rfl))))
 go_wp2_with fail
 refine HD1.out.mono ?_
 rintro e w5 ⟨rfl,hb⟩
 have HE5:=ZqH (HE4.out.step hb)
 clear hb HE4 s0 s1' s2' s3' HD1
 have s0:=HE5.out.cell 0 0 (v:=.string s1) rfl rfl
 have s1':=HE5.out.cell 0 1 (v:=.string s2) rfl rfl
 have s2':=HE5.out.cell 0 2 (v:=.slice pa na ca) rfl rfl
 have s3':=HE5.out.cell 0 3 (v:=.slice pb nb cb) rfl rfl
 have HD2:=ZqH (Zlr (w:=w5) (gk:=129) (gr:=130) (caps:=#[]) (enters_of Tryz.func129 Zb rfl) (enters_of Tryz.func130 Zb rfl)
  (ok:=fun k=>Zao (stA s.strides k)) (p:=pb) (n:=nb) (c:=cb) (fun k=>(stA s.strides k).dx) (fun k=>(stA s.strides k).dy) (fun k=>(stA s.strides k).chance.1) (fun k=>(stA s.strides k).chance.2) ⟨hb1,hb2⟩ Za
  (fun h0=>Zad.at (HB.out.after Zb1.stays HE5.out.base ZqI) HNB.out h0) (fun k hk=>HB.out.i64 k (by rw[HNB.out];exact hk))
  (fun k hk W hW=>Zmf _ _ _ _ W)
  (fun k hk W hW=>by
   have hs:=HZ.out.stride (k:=k) (by rw[HNB.out];exact hk)
   exact ZmA _ _ _ _ W hs.1 hs.2))
 go_wp2_with fail
 refine HD2.out.mono ?_
 rintro e w6 ⟨rfl,hb⟩
 have HE6:=ZqH (HE5.out.step hb)
 clear hb HE5 s0 s1' s2' s3' HD2
 have s0:=HE6.out.cell 0 0 (v:=.string s1) rfl rfl
 have s1':=HE6.out.cell 0 1 (v:=.string s2) rfl rfl
 have s2':=HE6.out.cell 0 2 (v:=.slice pa na ca) rfl rfl
 have s3':=HE6.out.cell 0 3 (v:=.slice pb nb cb) rfl rfl
 obtain⟨d1,hd1⟩:∃ z,Zba (fun k=>((shA s.start k).x,(shA s.start k).y)) (fun k=>Zct g (shA s.start k)) na=z:=⟨_,rfl⟩
 obtain⟨d2,hd2⟩:∃ z,Zba (fun k=>((stA s.strides k).dx,(stA s.strides k).dy)) (fun k=>Zao (stA s.strides k)) nb=z:=⟨_,rfl⟩
 rw[hd1,hd2] at HS
 rw[hd1,hd2]
 have HD1:=ZqH hd1
 have HD2:=ZqH hd2
 clear hd1 hd2
 cases d1
 ·skip
  have HNO:Hid (Zaa g s=false):=HS.out.trans rfl
  go_wp2
  exact ZpW (v:=.bool false) (by simp[results,Tryz.f88,go_sem]) rfl ⟨by rw[HNO.out],HE6.out.base⟩
 cases d2
 ·skip
  have HNO:Hid (Zaa g s=false):=HS.out.trans rfl
  go_wp2
  exact ZpW (v:=.bool false) (by simp[results,Tryz.f88,go_sem]) rfl ⟨by rw[HNO.out],HE6.out.base⟩
 have HF:=ZqH (ZnP (w:=w6) (g:=132) (caps:=#[]) (enters_of Tryz.func132 Zb rfl) (f:=fun k=>!Zcy (shA s.start k).weight) (p:=pa) (n:=na) (c:=ca)
  (fun k=>(shA s.start k).x) (fun k=>(shA s.start k).y) (fun k=>(shA s.start k).weight.1) (fun k=>(shA s.start k).weight.2) ⟨ha1,ha2⟩
  (fun h0=>Zay.at (HA.out.after ZbQ.stays HE6.out.base ZqI) HNA.out h0)
  (fun k hk W hW=>ZmX _ _ _ _ W (HZZ.out.below (HE6.out.base.trans (hW.mono HE6.out.own)) ZqI)))
 go_wp2_with fail
 refine HF.out.mono ?_
 rintro e w7 ⟨rfl,hb⟩
 have HE7:=ZqH (HE6.out.step hb)
 clear hb HE6 s0 s1' s2' s3' HF
 obtain⟨d3,hd3⟩:∃ z,ZV (fun k=>!Zcy (shA s.start k).weight) na=z:=⟨_,rfl⟩
 rw[hd3] at HS
 rw[hd3]
 clear hd3
 cases d3
 ·skip
  have HNO:Hid (Zaa g s=false):=HS.out.trans rfl
  go_wp2
  exact ZpW (v:=.bool false) (by simp[results,Tryz.f88,go_sem]) rfl ⟨by rw[HNO.out],HE7.out.base⟩
 have HS2:Hid (Zaa g s=decide (sumA 0 (s.strides.map fun x=>qP x.chance)=some 1)):=HS.out.trans rfl
 have s0:=HE7.out.cell 0 0 (v:=.string s1) rfl rfl
 have s1':=HE7.out.cell 0 1 (v:=.string s2) rfl rfl
 have s2':=HE7.out.cell 0 2 (v:=.slice pa na ca) rfl rfl
 have s3':=HE7.out.cell 0 3 (v:=.slice pb nb cb) rfl rfl
 go_wp2_with fail
 clear s0 s1' s2' s3'
 obtain⟨B0,hB0⟩:=ZqJ w7.heap.size
 have HB0:=ZqH hB0
 clear hB0
 go_loopw [7,52] (fun uv iv wr=>∃ (k:Nat) (qs:List PP),iv=.int .i64 k/\k<=nb/\Hid (Own wr B0 uv qs)/\Hid (qs=(s.strides.take k).map (·.chance))/\Hid (Below B0 w7 wr)) (fun _ iv _=>nb-(intOf iv).toNat)
 case atStart=>exact⟨0,[],rfl,Zp8 _,Own.nil _ _,rfl,ZpV _ _⟩
 case round=>
  obtain⟨k,qs,rfl,hk,HO,HQ,HW1⟩:=hrel
  have HE8:Hid (Env w.heap.size w [(w.heap.size+1,scO s1 s2 (.slice pa na ca) (.slice pb nb cb)),(w.heap.size,ZaS g (.slice pg ng cg))] [] wr):=HE7.out.after HW1.out (Nat.le_of_eq HB0.out)
  obtain⟨po9,no9,co9,rfl⟩:∃ p n c,u7=Value.slice p n c:=by
   obtain⟨p,c,h,_⟩:=HO.out.pl
   exact⟨_,_,_,h⟩
  have HBS:Hid (B0<=wr.heap.size):=by
   have:=HW1.out.size
   rwa [HB0.out] at this
  by_cases hlt:k<nb
  ·obtain⟨b,o,rfl,hat⟩:=Zad.at HB.out HNB.out Za
   obtain⟨e0,e1,e2,e3⟩:=hat wr HE8.out.base k hlt
   have hkl:k<s.strides.length:=by rw[HNB.out];exact hlt
   obtain⟨⟨dx,dy,⟨c1,c2⟩⟩,hst⟩:∃ z,stA s.strides k=z:=⟨_,rfl⟩
   have HQN:Hid (qs++[(c1,c2)]=(s.strides.take (k+1)).map (·.chance)):=by
    show _=_
    rw[List.take_add_one,Zqg hkl,HQ.out,List.map_append,ZcG hkl,hst]
    rfl
   rw[hst] at e0 e1 e2 e3
   dsimp only at e0 e1 e2 e3
   clear hat hst hkl
   obtain⟨W,hW⟩:=ZqJ (wr.alloc (stO dx dy c1 c2))
   have hal:Below wr.heap.size wr W:=by rw[<- hW];exact(ZpV _ wr).alloc ZqI _
   obtain⟨q,hq⟩:=ZqJ wr.heap.size
   have hqb:W.heap[q]?=some (stO dx dy c1 c2):=by rw[<- hW,<- hq];exact ZpY wr _
   have HO3:Hid (Own W B0 (.slice po9 no9 co9) qs):=HO.out.after hal
   have HW3:Hid (Below B0 w7 W):=HW1.out.trans (hal.mono HBS.out)
   have hsz:B0<=W.heap.size:=Zp4 HBS.out hal.size
   have a2:=Zn hqb 2 (v:=.string c1) rfl
   have a3:=Zn hqb 3 (v:=.string c2) rfl
   have hownA:(W.alloc (pObj c1 c2)).ownsRow B0 39 2 (.slice po9 no9 co9) qs.length (Zam qs):=by
    have h1:W.ownsRow B0 39 2 (.slice po9 no9 co9) qs.length (Zam qs):=HO3.out
    exact h1.alloc _
   have hql:qs.length=k:=by rw[HQ.out,List.length_map,Zqz,HNB.out];omega
   have hm1:qs.length+1<=maxLen:=by unfold maxLen;omega
   have hm2:(qs.length+1)*32<=140737488355328:=Za
   have hm3:B0<=(W.alloc (pObj c1 c2)).heap.size:=by simp;omega
   have hnews:∀ (j:Nat) (z:Value),([.string c1,.string c2]:List Value)[j]?=some z->(W.alloc (pObj c1 c2)).cell? ((⟨W.heap.size,0,none⟩:Addr).add j)=some z:=World.news_of_block (ZpY W _)
   clear hal hqb hql
   go_wp2_with (at_builtin;go_loud (refine Zqq _ rfl (.tmp 56) (.tmp 59) 154 rfl B0 39 i0 (ZqE ZqD ZqD) 2 32 Tryz.underlying154 hi hz0 hz1 hz2 rfl Zd _ qs.length (Zam qs) rfl hownA ⟨W.heap.size,0,none⟩ 1 1 [.string c1,.string c2] rfl rfl hnews (by simp[Value.oneCell']) hm1 hm2 hm3 ?_);intro v' w4' hown4 hgrow4 _)
   have HO4:Hid (Own w4' B0 v' (qs++[(c1,c2)])):=by
    show w4'.ownsRow _ _ _ _ _ _
    rw[Zqc,Zb0]
    exact hown4
   have HW4:Hid (Below B0 w7 w4'):=(HW3.out.alloc Za (pObj c1 c2)).grown hgrow4 hm3 (fun z hz=>(Zp9 hownA z hz).1)
   clear hown4 hgrow4 hownA hnews hm1 hm2 hm3 HQ
   go_roundw
   case rel=>exact⟨k+1,qs++[(c1,c2)],by go_num,Za,HO4,HQN,HW4⟩
   case measure=>exact Zj
  ·obtain rfl:k=nb:=Za
   have HQ2:Hid (qs=s.strides.map (·.chance)):=by
    have h1:=HQ.out
    rw[Zp5 (by rw[HNB.out];exact Nat.le_refl _)] at h1
    exact h1
   have HRT:Hid (∀ p ∈ qs,ZW 9 p=true):=by
    rw[HQ2.out]
    intro p hp
    obtain⟨x,hx,rfl⟩:=List.mem_map.1 hp
    obtain⟨j,hj,rfl⟩:=List.getElem_of_mem hx
    have h1:=Zg2 HD2.out (k:=j) (by rw[<- HNB.out];exact hj)
    rw[ZcG hj]
    unfold Zao at h1
    rw[Zqt] at h1
    exact h1.2
   have HC0:Hid (chkL [qs]=0):=Zh2 (fun l hl=>by
    obtain rfl:l=qs:=by simpa using hl
    rw[HQ2.out,List.length_map,HNB.out]
    omega) fun l hl p hp=>by
    obtain rfl:l=qs:=by simpa using hl
    exact(Zbr.1 (HRT.out p hp)).2.2
   have HSR:Hid (rats qs=s.strides.map fun x=>qP x.chance):=by
    show _=_
    unfold rats
    rw[HQ2.out,List.map_map]
    rfl
   clear HQ
   go_wp2_with fail
   refine(Znk (ps:=qs) HO.out.pl (fun _ p hp=>by have:=Zbr.1 (HRT.out p hp);omega) (HT.out.below HE8.out.base ZqI)).mono ?_
   rintro e w9 ⟨hb,hE⟩
   have HE9:=ZqH (HE8.out.step hb)
   clear hb
   rcases hE with ⟨h0,_⟩ | ⟨_,⟨z,x,y,h1,h2,rfl⟩ | ⟨h1,rfl⟩⟩
   ·exact Zqx HC0.out h0
   ·have HX:=ZqH h2
    have HS3:Hid (Zaa g s=decide (z=1)):=by
     have h3:=HS2.out
     rw[<- HSR.out,h1] at h3
     show _=_
     rw[h3]
     simp
    clear h1 h2
    have HB9:Hid (Below w.heap.size w (w9.alloc (pObj x y))):=HE9.out.base.alloc HE9.out.own _
    have hz9:=HZZ.out.below HB9.out ZqI
    have o0:=hz9.o0
    have o1:=hz9.o1
    clear hz9
    by_cases hz1:z=1
    ·subst hz1
     obtain⟨rfl,rfl⟩:=HX.out.one ZbD
     have HS4:Hid (Zaa g s=true):=HS3.out.trans rfl
     go_wp2
     all_goals exact ZpW (v:=.bool true) (by simp[results,Tryz.f88,go_sem]) rfl ⟨by rw[HS4.out],HB9.out⟩
    ·have HS4:Hid (Zaa g s=false):=HS3.out.trans (decide_eq_false hz1)
     have hno:¬ (x.toList=[49]/\y.toList=[49]):=fun h=>hz1 (HX.out.inj ZbD ((ZdG _ _).2 h.1) ((ZdG _ _).2 h.2))
     have HNN:=ZqH hno
     clear hno hz1
     go_wp2
     all_goals first
      | (refine Zqx ⟨?_,?_⟩ HNN.out<;>assumption)
      | exact ZpW (v:=.bool false) (by simp[results,Tryz.f88,go_sem]) rfl ⟨by rw[HS4.out],HB9.out⟩
   ·have HS4:Hid (Zaa g s=false):=by
     have h3:=HS2.out
     rw[<- HSR.out,h1] at h3
     show _=_
     rw[h3]
     simp
    clear h1
    unfold ZfD
    go_wp2
    exact ZpW (v:=.bool false) (by simp[results,Tryz.f88,go_sem]) rfl ⟨by rw[HS4.out],HE9.out.base.alloc HE9.out.own _⟩
theorem Zb7.at {l:List SceneP} {p:Option Addr} {n c:Nat} {w:World} (h:Zb7 w (.slice p n c) l) (hn:l.length=n) (h0:0<n) :
  ∃ b o,p=some ⟨b,o,none⟩/\∃ (p0:Nat->Option Addr) (n0 c0:Nat->Nat) (p1:Nat->Option Addr) (n1 c1:Nat->Nat),
   ∀ k,k<n->(∀ W,Below w.heap.size w W->W.cell? ⟨b,o+k*4,none⟩=some (.string (scA l k).weight.1)/\W.cell? ⟨b,o+k*4+1,none⟩=some (.string (scA l k).weight.2)/\W.cell? ⟨b,o+k*4+2,none⟩=some (.slice (p0 k) (n0 k) (c0 k))/\W.cell? ⟨b,o+k*4+3,none⟩=some (.slice (p1 k) (n1 k) (c1 k)))/\
    Zay w (.slice (p0 k) (n0 k) (c0 k)) (scA l k).start/\Zad w (.slice (p1 k) (n1 k) (c1 k)) (scA l k).strides:=by
 obtain⟨b,o,h1,hbl,h2⟩:=LL.at Zeq.stays h hn h0
 have each:∀ k,k<n->∃ z:(Option Addr×Nat×Nat)×(Option Addr×Nat×Nat),w.cell? ⟨b,o+k*4,none⟩=some (.string (scA l k).weight.1)/\w.cell? ⟨b,o+k*4+1,none⟩=some (.string (scA l k).weight.2)/\w.cell? ⟨b,o+k*4+2,none⟩=some (.slice z.1.1 z.1.2.1 z.1.2.2)/\w.cell? ⟨b,o+k*4+3,none⟩=some (.slice z.2.1 z.2.2.1 z.2.2.2)/\
   Zay w (.slice z.1.1 z.1.2.1 z.1.2.2) (scA l k).start/\Zad w (.slice z.2.1 z.2.2.1 z.2.2.2) (scA l k).strides:=fun k hk=>by
  obtain⟨a1,⟨va,a2,a3⟩,⟨vb,a4,a5⟩⟩:=h2 w (ZpV _ w) k Za
  rw[ZdC Za] at a1 a3 a5
  obtain⟨pa,ca,rfl,_⟩:=a3.shape rfl
  obtain⟨pb,cb,rfl,_⟩:=a5.shape rfl
  exact⟨⟨(pa,_,ca),(pb,_,cb)⟩,a1.1,a1.2,a2,a4,a3,a5⟩
 refine⟨b,o,h1,fun k=>if hk:k<n then (each k hk).choose.1.1 else none,fun k=>if hk:k<n then (each k hk).choose.1.2.1 else 0,fun k=>if hk:k<n then (each k hk).choose.1.2.2 else 0,
  fun k=>if hk:k<n then (each k hk).choose.2.1 else none,fun k=>if hk:k<n then (each k hk).choose.2.2.1 else 0,fun k=>if hk:k<n then (each k hk).choose.2.2.2 else 0,fun k hk=>?_⟩
 obtain⟨g1,g2,g3,g4,g5,g6⟩:=(each k hk).choose_spec
 simp only[dif_pos hk]
 exact⟨fun W hW=>⟨ZS g1 hbl hW ZqI,ZS g2 hbl hW ZqI,ZS g3 hbl hW ZqI,ZS g4 hbl hW ZqI⟩,g5,g6⟩
theorem LimB.scene {b:BelP} (h:LimB b) {k:Nat} (hk:k<b.scenes.length):LimS (scA b.scenes k):=by rw[<- ZdC hk];exact h _ (Zqm hk)
theorem Zv {w:World} {B:Nat} {b:BelP} {lv sv:Value} (h:w.heap[B]?=some (belO b lv sv)) :
  w.cell? ⟨B,0,none⟩=some (.int .i64 b.sea.w)/\w.cell? ⟨B,1,none⟩=some (.int .i64 b.sea.h)/\w.cell? ⟨B,2,none⟩=some (.int .i64 b.sea.size)/\w.cell? ⟨B,3,none⟩=some lv/\w.cell? ⟨B,4,none⟩=some sv:=
 ⟨Zn h 0 rfl,Zn h 1 rfl,Zn h 2 rfl,Zn h 3 rfl,Zn h 4 rfl⟩
theorem Zmo {b:BelP} (hg:GridW b.sea) {pg:Option Addr} {ng cg:Nat} {sv:Value} {s:SceneP} {pa:Option Addr} {na ca:Nat} {pb:Option Addr} {nb cb B:Nat} {w:World} (ha:Zay w (.slice pa na ca) s.start) (hb:Zad w (.slice pb nb cb) s.strides) (hz:LimS s) (hT:Tabs w) (hZ:BelZ w)
  (hB:w.heap[B]?=some (belO b (.slice pg ng cg) sv)) :
  Calls Tryz.prog 87 #[scV s.weight.1 s.weight.2 (.slice pa na ca) (.slice pb nb cb),.pointer (some ⟨B,0,none⟩)] w (ZB w (!Zaa b.sea s)):=by
 have HAL:=ZqH ((ZpV w.heap.size w).alloc ZqI (scO s.weight.1 s.weight.2 (.slice pa na ca) (.slice pb nb cb)))
 have HC:=ZqH (Zh7 hg (pg:=pg) (ng:=ng) (cg:=cg) (ha.after ZbQ.stays HAL.out ZqI) (hb.after Zb1.stays HAL.out ZqI) hz (hT.below HAL.out ZqI) (hZ.below HAL.out ZqI))
 have hbl:=(ZqC hB)
 obtain⟨g0,g1,g2,g3,_⟩:=Zv ((HAL.out.block B hbl).trans hB)
 obtain⟨⟨s1,s2⟩,hw⟩:∃ z,s.weight=z:=⟨_,rfl⟩
 rw[hw] at HC HAL g0 g1 g2 g3 ⊢
 obtain⟨r,hr⟩:=ZqJ (Zaa b.sea s)
 rw[hr] at HC ⊢
 clear ha hb hz hT hZ hB hg hw hr hbl
 go_enter Tryz.func87,Tryz.ntmps87
 go_wp2_with fail
 refine HC.out.mono ?_
 rintro e w2 ⟨rfl,hb⟩
 have HB2:=ZqH (HAL.out.trans (hb.mono HAL.out.size))
 clear hb HC HAL g0 g1 g2 g3
 go_wp2
 go_ret
 exact⟨rfl,HB2.out⟩
theorem ZlK (s t:ByteArray) (a b:Value) (w:World) (hz:BelZ w):Calls Tryz.prog 89 #[scV s t a b] w (ZB w (!Zcy (s,t))):=by
 go_enter Tryz.func89,Tryz.ntmps89
 have HB:=ZqH ((ZpV w.heap.size w).alloc ZqI (scO s t a b))
 have hz2:=hz.below HB.out ZqI
 have z0:=hz2.z0
 have z1:=hz2.z1
 go_wp2
 all_goals
  go_ret
  exact⟨by simp[ZfE, *],HB.out⟩
theorem Zfs {b:BelP} {lv sv:Value} {w:World} (h:BelIn b lv sv w) (hz:LimB b):Calls Tryz.prog 36 #[belV b lv sv] w (Zeo w (ZF b)):=by
 obtain⟨pg,cg,rfl,_,_⟩:=h.sea.land.shape rfl
 obtain⟨n,hn⟩:=ZqJ b.scenes.length
 obtain⟨ng,hng⟩:=ZqJ b.sea.land.length
 obtain⟨ps,cs,rfl,hc1,hc2⟩:=h.scenes.shape hn
 rw[hng] at h ⊢
 have HH:=ZqH h
 have HZ:=ZqH hz
 have HN:=ZqH hn
 have HE1:Hid (Env w.heap.size w [(w.heap.size,belO b (.slice pg ng cg) (.slice ps n cs))] [] (w.alloc (belO b (.slice pg ng cg) (.slice ps n cs)))):=(Env.start w).push _ rfl
 clear h hz hn hng
 go_enter Tryz.func36,Tryz.ntmps36
 go_wp2_with fail
 refine(Ze6 (g:=b.sea) (HH.out.sea.land.after RunR.stays HE1.out.base ZqI)).mono ?_
 rintro e w2 ⟨rfl,hb⟩
 have HE2:=ZqH (HE1.out.step hb)
 clear hb HE1
 obtain⟨g0,g1,g2,g3,g4⟩:=Zv (HE2.out.block 0 rfl)
 cases h1:ZaR b.sea
 ·simp only[Bool.false_eq_true,if_false]
  have HNO:Hid (ZF b=false):=by unfold ZF;rw[h1];rfl
  go_wp2
  exact ZpW (v:=.int .i64 2) (by simp[results,Tryz.f36,go_sem]) rfl ⟨by rw[HNO.out];rfl,HE2.out.base⟩
 have H1:=ZqH h1
 clear h1
 simp only[if_true]
 go_wp2_with fail
 refine(ZbG _ _ _ _).mono ?_
 rintro e w3 ⟨rfl,hb⟩
 have HE3:=ZqH (HE2.out.step hb)
 clear hb HE2 g0 g1 g2 g3 g4
 obtain⟨g0,g1,g2,g3,g4⟩:=Zv (HE3.out.block 0 rfl)
 cases h2:inG 1 n 8
 ·skip
  have HNO:Hid (ZF b=false):=by unfold ZF;rw[H1.out,HN.out,h2];rfl
  go_wp2
  exact ZpW (v:=.int .i64 2) (by simp[results,Tryz.f36,go_sem]) rfl ⟨by rw[HNO.out];rfl,HE3.out.base⟩
 have H2:=ZqH h2
 clear h2
 have HS:Hid (ZF b=(!ZV (fun k=>!Zaa b.sea (scA b.scenes k)) n && ZV (fun k=>!Zcy (scA b.scenes k).weight) n)):=by
  show _=_
  unfold ZF
  rw[H1.out,HN.out,H2.out]
  rfl
 have hn1:=H2.out
 unfold inG at hn1
 simp only[Zqt,Zqu] at hn1
 obtain⟨sb,so,rfl,p0,n0,c0,p1,n1,c1,hat⟩:=Zb7.at HH.out.scenes HN.out Za
 have HAT:=ZqH hat
 clear hat
 have HF1:=ZqH (Zj0 (w:=w3) (g:=87) (caps:=#[.pointer (some ⟨w.heap.size,0,none⟩)]) (enters_of Tryz.func87 Zb rfl) (f:=fun k=>!Zaa b.sea (scA b.scenes k)) (p:=some ⟨sb,so,none⟩) (n:=n) (c:=cs)
  (fun k=>(scA b.scenes k).weight.1) (fun k=>(scA b.scenes k).weight.2) p0 n0 c0 p1 n1 c1 ⟨hc1,hc2⟩ (fun _=>⟨sb,so,rfl,fun W hW k hk=>(HAT.out k hk).1 W (HE3.out.base.trans (hW.mono HE3.out.own))⟩)
  (fun k hk W hW=>by
   have hb:=HE3.out.base.trans (hW.mono HE3.out.own)
   exact Zmo (Zpi H1.out) ((HAT.out k hk).2.1.after ZbQ.stays hb ZqI) ((HAT.out k hk).2.2.after Zb1.stays hb ZqI) (HZ.out.scene (by rw[HN.out];exact hk)) (HH.out.tabs.below hb ZqI) (HH.out.vars.below hb ZqI) ((hW.block _ (HE3.out.lt 0 rfl)).trans (HE3.out.block 0 rfl))))
 go_wp2_with fail
 refine HF1.out.mono ?_
 rintro e w4 ⟨rfl,hb⟩
 have HE4:=ZqH (HE3.out.step hb)
 clear hb HE3 HF1 g0 g1 g2 g3 g4
 obtain⟨d1,hd1⟩:∃ z,ZV (fun k=>!Zaa b.sea (scA b.scenes k)) n=z:=⟨_,rfl⟩
 rw[hd1] at HS
 rw[hd1]
 clear hd1
 obtain⟨g0,g1,g2,g3,g4⟩:=Zv (HE4.out.block 0 rfl)
 cases d1
 rotate_left
 ·skip
  have HNO:Hid (ZF b=false):=HS.out.trans rfl
  go_wp2
  exact ZpW (v:=.int .i64 2) (by simp[results,Tryz.f36,go_sem]) rfl ⟨by rw[HNO.out];rfl,HE4.out.base⟩
 have HF2:=ZqH (Zj0 (w:=w4) (g:=89) (caps:=#[]) (enters_of Tryz.func89 Zb rfl) (f:=fun k=>!Zcy (scA b.scenes k).weight) (p:=some ⟨sb,so,none⟩) (n:=n) (c:=cs)
  (fun k=>(scA b.scenes k).weight.1) (fun k=>(scA b.scenes k).weight.2) p0 n0 c0 p1 n1 c1 ⟨hc1,hc2⟩ (fun _=>⟨sb,so,rfl,fun W hW k hk=>(HAT.out k hk).1 W (HE4.out.base.trans (hW.mono HE4.out.own))⟩)
  (fun k hk W hW=>ZlK _ _ _ _ W (HH.out.vars.below (HE4.out.base.trans (hW.mono HE4.out.own)) ZqI)))
 go_wp2_with fail
 refine HF2.out.mono ?_
 rintro e w5 ⟨rfl,hb⟩
 have HE5:=ZqH (HE4.out.step hb)
 clear hb HE4 HF2 g0 g1 g2 g3 g4
 obtain⟨d2,hd2⟩:∃ z,ZV (fun k=>!Zcy (scA b.scenes k).weight) n=z:=⟨_,rfl⟩
 rw[hd2] at HS
 rw[hd2]
 clear hd2
 cases d2
 ·skip
  have HNO:Hid (ZF b=false):=HS.out.trans rfl
  go_wp2
  exact ZpW (v:=.int .i64 2) (by simp[results,Tryz.f36,go_sem]) rfl ⟨by rw[HNO.out];rfl,HE5.out.base⟩
 have HY:Hid (ZF b=true):=HS.out.trans rfl
 go_wp2
 exact ZpW (v:=.int .i64 0) (by simp[results,Tryz.f36,go_sem]) rfl ⟨by rw[HY.out];rfl,HE5.out.base⟩
end Go.Proofs.YtjmckebecpjjfaaGreatDoor
