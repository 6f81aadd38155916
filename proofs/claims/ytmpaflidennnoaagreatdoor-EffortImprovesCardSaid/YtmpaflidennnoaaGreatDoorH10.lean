/- The parts RMinus, RTimes, ROver, RNat, RMade, RCheck, RPlus. -/
import Derived.Test.YtmpaflidennnoaaGreatDoorH09
set_option maxRecDepth 100000
set_option maxHeartbeats 8000000
set_option linter.unusedVariables false
set_option linter.unusedSimpArgs false
namespace Go.Proofs.YtmpaflidennnoaaGreatDoor
open Go.RowKit Go.Shelf
attribute [local go_sem ↓] Go.wp_at_zero Go.wp_at_succ
theorem Zgo {v1 v2:Value} {n m:Nat} {w:World} (h1:PNum w v1 n) (h2:PNum w v2 m) (hmn:m<=n) (hl1:(Zp 10000 n).length<=1000000) :
  Calls Tryz.prog 156 #[v1,v2] w (Zar w (n-m)):=by
 obtain⟨i0,hi,hz0,hz1,hz2⟩:=info_parts ZcW
 have hlm:=ZN (B:=10000) Za hmn
 obtain⟨p1,c1,rfl,_,_,hp1⟩:=h1.1
 obtain⟨p2,c2,rfl,_,_,hp2⟩:=h2.1
 obtain⟨xs,hxs⟩:=ZpB (Zp 10000 n)
 obtain⟨ys,hys⟩:=ZpB (Zp 10000 m)
 rw[hxs] at hl1 hp1 hlm ⊢
 rw[hys] at hp2 hlm ⊢
 have HX:Hid (∀ x ∈ xs,x<10000):=by rw[<- hxs];exact ZJ Za n
 have HY:Hid (∀ x ∈ ys,x<10000):=by rw[<- hys];exact ZJ Za m
 have HV:Hid (val 10000 xs=n/\val 10000 ys=m):=by rw[<- hxs,<- hys];exact⟨ZA Za n,ZA Za m⟩
 have HP1:=Zpz hp1
 have HP2:=Zpz hp2
 clear hxs hys hp1 hp2
 go_enter Tryz.func156,Tryz.ntmps156
 go_wp2
 go_loopw [5,6,7] (fun vo vb vi wr=>∃ (k b:Nat) (out:List Nat),vi=.int .i64 k/\vb=.int .i64 b/\k<=xs.length/\b<=1/\Hid (MinusInv 10000 xs ys k out b)/\Hid (Grow .i64 3 wr w.heap.size vo out)/\Hid (out.length=k)/\Zpt w wr) (fun _ _ vi _=>xs.length-(intOf vi).toNat)
 case atStart=>exact⟨0,0,[],rfl,rfl,Za,Za,MinusInv.start _ _ _,Grow.nil,rfl,ZoL _ _⟩
 case round=>
  obtain⟨k,b,out,rfl,rfl,hk,hb1,HI,HO,HLEN,HB⟩:=hrel
  obtain⟨po,no,co,rfl⟩:∃ p n c,u5=.slice p n c:=by obtain⟨q,c,h⟩:=HO.out.form;exact⟨_,_,_,h⟩
  by_cases hlt1:k<xs.length
  ·have hm1:k+1<=maxLen:=by unfold maxLen;omega
   have hm2:(k+1)*8<=140737488355328:=Za
   obtain⟨b1,o1,rfl,hb1,a1⟩:=HP1.out (ZoT Za)
   obtain⟨x,hx⟩:=ZpB (xs.getD k 0)
   have hxl:x<10000:=by rw[<- hx];exact ZM Za HX.out k
   have cx:wr.cell? ⟨b1,o1+k,none⟩=some (.int .i64 (x:Nat)):=(HB.out.cell (p:=⟨b1,o1+k,none⟩) hb1).trans (a1.getD hlt1 hx)
   have Hx:=Zpz hx
   clear hx a1
   by_cases hlt2:k<ys.length
   ·obtain⟨b2,o2,rfl,hb2,a2⟩:=HP2.out (ZoT Za)
    obtain⟨y,hy⟩:=ZpB (ys.getD k 0)
    have hyl:y<10000:=by rw[<- hy];exact ZM Za HY.out k
    have cy:wr.cell? ⟨b2,o2+k,none⟩=some (.int .i64 (y:Nat)):=(HB.out.cell (p:=⟨b2,o2+k,none⟩) hb2).trans (a2.getD hlt2 hy)
    have Hy:=Zpz hy
    clear hy a2
    by_cases hneg:x<b+y
    ·have hn:((x:Int)-b-y)<0:=Za
     have E1:Hid (((x:Int)-b-y)+10000=(x+10000-(b+y):Nat)):=by show _=_;omega
     have HS:=HI.out.step_borrow Za HY.out (less:=b+y) (by have h:=Hy.out;omega) (by rw[Hx.out];exact hneg)
     rw[Hx.out] at HS
     have HS:=Zpz HS
     clear hneg
     have hown:wr.ownsRow w.heap.size 3 1 (.slice po no co) k ((out).map fun x=>Value.int .i64 (x:Nat)):=by
      have:=HO.out;unfold Grow at this;rwa [HLEN.out] at this
     have hsz:=HB.out.size
     have hownA:=hown.alloc (.cells #[.int .i64 (((x:Int)-b-y)+10000)] 3)
     have hm3:w.heap.size<=(wr.alloc (.cells #[.int .i64 (((x:Int)-b-y)+10000)] 3)).heap.size:=by simp;omega
     go_wp2_with (at_builtin;go_loud (refine Zpg _ rfl _ _ 23 rfl w.heap.size 3 i0 (.int .i64 0) 1 8 Tryz.underlying23 hi hz0 hz1 hz2 rfl Zd _ k _ rfl hownA ⟨wr.heap.size,0,none⟩ 1 1 [.int .i64 (((x:Int)-b-y)+10000)] rfl rfl (cell_one_new _ _ _) (by simp[Value.oneCell']) hm1 hm2 hm3 ?_);intro v' w1 hown1 hgrow1 _)
     have HG:Hid (Grow .i64 3 w1 w.heap.size v' (out++[x+10000-(b+y)])):=Grow.snoc HLEN.out E1.out hown1
     have HB1:Zpt w w1:=(HB.out.alloc hsz _).grown hgrow1 hm3 (fun z hz=>(ZoZ hownA z hz).1)
     clear hown hownA hown1 hgrow1
     go_roundw
     case rel=>exact⟨k+1,1,_,by go_num,rfl,Za,Za,HS,HG,by show _=_;rw[Zo2,HLEN.out];rfl,HB1⟩
     case measure=>exact Zj
    ·have hn:¬ ((x:Int)-b-y)<0:=Za
     have E1:Hid (((x:Int)-b-y)=(x-(b+y):Nat)):=by show _=_;omega
     have HS:=HI.out.step_plain HX.out Za (less:=b+y) (by have h:=Hy.out;omega) (by rw[Hx.out];omega)
     rw[Hx.out] at HS
     have HS:=Zpz HS
     clear hneg
     have hown:wr.ownsRow w.heap.size 3 1 (.slice po no co) k ((out).map fun x=>Value.int .i64 (x:Nat)):=by
      have:=HO.out;unfold Grow at this;rwa [HLEN.out] at this
     have hsz:=HB.out.size
     have hownA:=hown.alloc (.cells #[.int .i64 ((x:Int)-b-y)] 3)
     have hm3:w.heap.size<=(wr.alloc (.cells #[.int .i64 ((x:Int)-b-y)] 3)).heap.size:=by simp;omega
     go_wp2_with (at_builtin;go_loud (refine Zpg _ rfl _ _ 23 rfl w.heap.size 3 i0 (.int .i64 0) 1 8 Tryz.underlying23 hi hz0 hz1 hz2 rfl Zd _ k _ rfl hownA ⟨wr.heap.size,0,none⟩ 1 1 [.int .i64 ((x:Int)-b-y)] rfl rfl (cell_one_new _ _ _) (by simp[Value.oneCell']) hm1 hm2 hm3 ?_);intro v' w1 hown1 hgrow1 _)
     have HG:Hid (Grow .i64 3 w1 w.heap.size v' (out++[x-(b+y)])):=Grow.snoc HLEN.out E1.out hown1
     have HB1:Zpt w w1:=(HB.out.alloc hsz _).grown hgrow1 hm3 (fun z hz=>(ZoZ hownA z hz).1)
     clear hown hownA hown1 hgrow1
     go_roundw
     case rel=>exact⟨k+1,0,_,by go_num,rfl,Za,Za,HS,HG,by show _=_;rw[Zo2,HLEN.out];rfl,HB1⟩
     case measure=>exact Zj
   ·have Hy:Hid (ys.getD k 0=0):=by show _=_;simp[List.getD,hlt2]
    by_cases hneg:x<b
    ·have hn:((x:Int)-b)<0:=Za
     have E1:Hid (((x:Int)-b)+10000=(x+10000-(b):Nat)):=by show _=_;omega
     have HS:=HI.out.step_borrow Za HY.out (less:=b) (by have h:=Hy.out;omega) (by rw[Hx.out];exact hneg)
     rw[Hx.out] at HS
     have HS:=Zpz HS
     clear hneg
     have hown:wr.ownsRow w.heap.size 3 1 (.slice po no co) k ((out).map fun x=>Value.int .i64 (x:Nat)):=by
      have:=HO.out;unfold Grow at this;rwa [HLEN.out] at this
     have hsz:=HB.out.size
     have hownA:=hown.alloc (.cells #[.int .i64 (((x:Int)-b)+10000)] 3)
     have hm3:w.heap.size<=(wr.alloc (.cells #[.int .i64 (((x:Int)-b)+10000)] 3)).heap.size:=by simp;omega
     go_wp2_with (at_builtin;go_loud (refine Zpg _ rfl _ _ 23 rfl w.heap.size 3 i0 (.int .i64 0) 1 8 Tryz.underlying23 hi hz0 hz1 hz2 rfl Zd _ k _ rfl hownA ⟨wr.heap.size,0,none⟩ 1 1 [.int .i64 (((x:Int)-b)+10000)] rfl rfl (cell_one_new _ _ _) (by simp[Value.oneCell']) hm1 hm2 hm3 ?_);intro v' w1 hown1 hgrow1 _)
     have HG:Hid (Grow .i64 3 w1 w.heap.size v' (out++[x+10000-(b)])):=Grow.snoc HLEN.out E1.out hown1
     have HB1:Zpt w w1:=(HB.out.alloc hsz _).grown hgrow1 hm3 (fun z hz=>(ZoZ hownA z hz).1)
     clear hown hownA hown1 hgrow1
     go_roundw
     case rel=>exact⟨k+1,1,_,by go_num,rfl,Za,Za,HS,HG,by show _=_;rw[Zo2,HLEN.out];rfl,HB1⟩
     case measure=>exact Zj
    ·have hn:¬ ((x:Int)-b)<0:=Za
     have E1:Hid (((x:Int)-b)=(x-(b):Nat)):=by show _=_;omega
     have HS:=HI.out.step_plain HX.out Za (less:=b) (by have h:=Hy.out;omega) (by rw[Hx.out];omega)
     rw[Hx.out] at HS
     have HS:=Zpz HS
     clear hneg
     have hown:wr.ownsRow w.heap.size 3 1 (.slice po no co) k ((out).map fun x=>Value.int .i64 (x:Nat)):=by
      have:=HO.out;unfold Grow at this;rwa [HLEN.out] at this
     have hsz:=HB.out.size
     have hownA:=hown.alloc (.cells #[.int .i64 ((x:Int)-b)] 3)
     have hm3:w.heap.size<=(wr.alloc (.cells #[.int .i64 ((x:Int)-b)] 3)).heap.size:=by simp;omega
     go_wp2_with (at_builtin;go_loud (refine Zpg _ rfl _ _ 23 rfl w.heap.size 3 i0 (.int .i64 0) 1 8 Tryz.underlying23 hi hz0 hz1 hz2 rfl Zd _ k _ rfl hownA ⟨wr.heap.size,0,none⟩ 1 1 [.int .i64 ((x:Int)-b)] rfl rfl (cell_one_new _ _ _) (by simp[Value.oneCell']) hm1 hm2 hm3 ?_);intro v' w1 hown1 hgrow1 _)
     have HG:Hid (Grow .i64 3 w1 w.heap.size v' (out++[x-(b)])):=Grow.snoc HLEN.out E1.out hown1
     have HB1:Zpt w w1:=(HB.out.alloc hsz _).grown hgrow1 hm3 (fun z hz=>(ZoZ hownA z hz).1)
     clear hown hownA hown1 hgrow1
     go_roundw
     case rel=>exact⟨k+1,0,_,by go_num,rfl,Za,Za,HS,HG,by show _=_;rw[Zo2,HLEN.out];rfl,HB1⟩
     case measure=>exact Zj
  ·obtain rfl:k=xs.length:=Za
   have HL:Hid (∀ z ∈ out,z<10000):=HI.out.lt
   have HD:Hid (val 10000 out=n-m):=by show _=_;rw[HI.out.done hlm (by rw[HV.out.1,HV.out.2];exact hmn),HV.out.1,HV.out.2]
   have ht:=Zdi HO.out.nums HO.out.pform HL.out _ HD.out
   go_wp2_with fail
   refine ht.mono ?_
   rintro e' w' ⟨v',rfl,rfl,hv,_⟩
   obtain⟨p',m',c',rfl⟩:=hv.form
   have HVV:=Zpz hv
   clear ht hv
   go_wp2
   go_ret
   exact⟨_,rfl,HVV.out,HB.out⟩
theorem Zap {v1 v2:Value} {n m:Nat} {w:World} (h1:PNum w v1 n) (h2:PNum w v2 m) (hl1:(Zp 10000 n).length<=1000000) (hl2:(Zp 10000 m).length<=1000000) :
  Calls Tryz.prog 117 #[v1,v2] w (Zar w (n*m)):=by
 obtain⟨p1,c1,rfl,_,_,hp1⟩:=h1.1
 obtain⟨p2,c2,rfl,_,_,hp2⟩:=h2.1
 obtain⟨xs,hxs⟩:=ZpB (Zp 10000 n)
 obtain⟨ys,hys⟩:=ZpB (Zp 10000 m)
 rw[hxs] at hl1 hp1 ⊢
 rw[hys] at hl2 hp2 ⊢
 have HX:Hid (∀ x ∈ xs,x<10000):=by rw[<- hxs];exact ZJ Za n
 have HY:Hid (∀ x ∈ ys,x<10000):=by rw[<- hys];exact ZJ Za m
 have HV:Hid (val 10000 xs=n/\val 10000 ys=m):=by rw[<- hxs,<- hys];exact⟨ZA Za n,ZA Za m⟩
 have HP1:=Zpz hp1
 have HP2:=Zpz hp2
 clear hxs hys hp1 hp2
 obtain⟨i0,hi,hz0,hz1,hz2⟩:=info_parts ZcW
 go_enter Tryz.func117,Tryz.ntmps117
 go_wp2_with (at_make;refine wpList_make_full _ rfl _ _ 23 rfl w.heap.size 3 i0 (.int .i64 0) 1 Tryz.underlying23 hi hz0 hz1 _ _ _ _ (xs.length+ys.length) rfl rfl Za Za ?b2 ?b3 ZpA ?_)
 case b2=>rw[hz2];omega
 case b3=>unfold maxLen;omega
 intro w0 hown0 hgrow0
 have HB0:=Zpz ((ZoL w.heap.size w).grown hgrow0 ZpA (fun k h=>by cases h))
 have HR0:=Zpz (Row.full (k:=.i64) hown0)
 clear hgrow0 hown0
 go_wp2
 go_loopw [6] (fun i wr=>∃ (k:Nat) (o:List Nat),k<=xs.length/\i=.int .i64 k/\Hid (Row .i64 3 wr w.heap.size w.heap.size (xs.length+ys.length) o)/\
   Hid (RowsInv 10000 (xs.length+ys.length) xs ys k o)/\Zpt w wr) (fun i _=>xs.length-(intOf i).toNat)
 case atStart=>exact⟨0,_,ZoY _,rfl,HR0,RowsInv.start Za _ _ _,HB0⟩
 case round=>
  obtain⟨i,o,hk,rfl,HR,HI,HB⟩:=hrel
  by_cases hlt:i<xs.length
  ·obtain⟨b1,off1,rfl,hb1,ha1⟩:=HP1.out (ZoT Za)
   obtain⟨x,hx⟩:=ZpB (xs.getD i 0)
   have hxl:x<10000:=by rw[<- hx];exact ZM Za HX.out i
   have Hx:=Zpz hx
   have HT:=Zpz (HI.out.inner Za x)
   have HA1:=Zpz ha1
   clear hx ha1 HI
   go_wp2
   obtain⟨wo,hwo⟩:∃ wo:World,wo=wr:=⟨_,rfl⟩
   go_loopw [7,8] (fun c kk wr=>∃ (k:Nat) (o:List Nat) (cr:Nat),k<=ys.length/\kk=.int .i64 k/\c=.int .i64 cr/\Hid (Row .i64 3 wr w.heap.size w.heap.size (xs.length+ys.length) o)/\
     Hid (TimesInv 10000 (xs.length+ys.length) i (val 10000 (xs.take i)*val 10000 ys) x ys k o cr)/\Zpt w wr) (fun _ kk _=>ys.length-(intOf kk).toNat)
   case atStart=>exact⟨0,_,0,ZoY _,rfl,rfl,HR,HT,HB⟩
   case round=>
    clear HT HR HB hwo
    obtain⟨k,o,cr,hk2,rfl,rfl,HR,HT,HB⟩:=hrel
    have hcr:=HT.out.carry
    by_cases hlt2:k<ys.length
    ·have cx:wr.cell? ⟨b1,off1+i,none⟩=some (.int .i64 (x:Nat)):=(HB.out.cell (p:=⟨b1,off1+i,none⟩) hb1).trans (HA1.out.getD hlt Hx.out)
     obtain⟨b2,off2,rfl,hb2,ha2⟩:=HP2.out (ZoT Za)
     obtain⟨y,hy⟩:=ZpB (ys.getD k 0)
     have hyl:y<10000:=by rw[<- hy];exact ZM Za HY.out k
     have cy:wr.cell? ⟨b2,off2+k,none⟩=some (.int .i64 (y:Nat)):=(HB.out.cell (p:=⟨b2,off2+k,none⟩) hb2).trans (ha2.getD hlt2 hy)
     obtain⟨z,hz⟩:=ZpB (o.getD (i+k) 0)
     have hzl:z<10000:=by rw[<- hz];exact ZM Za HT.out.lt _
     have hlen:=HT.out.len
     have cz:wr.cell? ⟨w.heap.size,i+k,none⟩=some (.int .i64 (z:Nat)):=HR.out.cell Za hz
     have fz:wr.frozen? ⟨w.heap.size,i+k,none⟩=false:=HR.out.frozen _
     have Hlen:=Zpz hlen
     have Hy:=Zpz hy
     have Hz:=Zpz hz
     have hmul:x*y<=9999*9999:=Nat.mul_le_mul Za Za
     have hmul':((x*y:Nat):Int)=(x:Int)*y:=Zc
     have hm0:0<=(x:Int)*y:=Za
     have hm1:(x:Int)*y<=99980001:=Za
     have e3:((cr+z+x*y:Nat):Int)=(cr:Int)+z+x*y:=Zc
     have E1:Hid (((cr:Int)+z+x*y) % 10000=((cr+z+x*y) % 10000:Nat)):=by show _=_;omega
     have E2:Hid (((cr:Int)+z+x*y)/10000=((cr+z+x*y)/10000:Nat)):=by show _=_;omega
     have HS:=Zpz (HT.out.step Za HY.out hxl hlt2 Za (show cr+z+x*y=cr+o.getD (i+k) 0+x*ys.getD k 0 by rw[Hy.out,Hz.out]))
     clear hy hz hlen ha2 hmul hmul' e3
     have i1:(0:Int)<=(i:Int)+k:=Za
     have i2:(i:Int)+k<(xs.length:Int)+ys.length:=Za
     have i3:((i:Int)+k).toNat=i+k:=Za
     go_wp2_with fail
     go_region
     clear cx cy cz
     obtain⟨w8,hw8⟩:=ZpB wr.drew
     have HR8:Hid (Row .i64 3 w8 w.heap.size w.heap.size (xs.length+ys.length) o):=by rw[<- hw8];exact HR
     have HB8:Zpt w w8:=by rw[<- hw8];exact HB.out.drew
     have cz:w8.cell? ⟨w.heap.size,i+k,none⟩=some (.int .i64 (z:Nat)):=HR8.out.cell (by rw[Hlen.out];omega) Hz.out
     have fz8:w8.frozen? ⟨w.heap.size,i+k,none⟩=false:=HR8.out.frozen _
     rw[hw8]
     clear fz hw8
     go_wp2
     go_roundw
     case rel=>exact⟨k+1,_,_,Za,by go_num,by rw[E2.out],by rw[E1.out];exact HR8.out.set _ _,HS,HB8.out.setCell ZpA _⟩
     case measure=>exact Zj
    ·obtain rfl:k=ys.length:=Za
     have hlen:=HT.out.len
     have hz:o.getD (i+ys.length) 0=0:=HT.out.zero _ ZpA
     have cz:wr.cell? ⟨w.heap.size,i+ys.length,none⟩=some (.int .i64 (0:Nat)):=HR.out.cell Za hz
     have fz:wr.frozen? ⟨w.heap.size,i+ys.length,none⟩=false:=HR.out.frozen _
     have HS:=Zpz (HT.out |> RowsInv.step (x:=x) (n:=xs) Za Hx.out.symm)
     have Hlen:=Zpz hlen
     clear hz hlen
     go_wp2
     go_roundw
     case rel=>exact⟨i+1,_,Za,by go_num,HR.out.set _ _,HS,HB.out.setCell ZpA _⟩
     case measure=>exact Zj
  ·obtain rfl:i=xs.length:=Za
   have HL:Hid (∀ z ∈ o,z<10000):=HI.out.lt
   have HD:Hid (val 10000 o=n*m):=by show _=_;rw[HI.out.done,HV.out.1,HV.out.2]
   have HNL:Hid (o.length=xs.length+ys.length):=HI.out.len
   have ht:=Zdi HR.out.nums (.inr ⟨_,_,_,rfl⟩) HL.out _ HD.out
   rw[HNL.out] at ht
   go_wp2_with fail
   refine ht.mono ?_
   rintro e' w' ⟨v',rfl,rfl,hv,_⟩
   obtain⟨p',m',c',rfl⟩:=hv.form
   have HVV:=Zpz hv
   clear ht hv
   go_wp2
   go_ret
   exact⟨_,rfl,HVV.out,HB.out⟩
def Zmb (w:World) (n m:Nat) (e:Ending) (w':World):Prop:=∃ q r,e=.returned (.tuple #[q,r])/\PNum w' q (n/m)/\PNum w' r (n % m)/\Below w.heap.size w w'
theorem ZiK (w:World) (x:Nat) (h0:0<x) (h1:x<10000):PNum (w.alloc (.cells #[.int .i64 (x:Nat)] 3)) (.slice (some ⟨w.heap.size,0,none⟩) 1 1) x:=by
 unfold PNum
 rw[Zg3 h0 h1]
 refine⟨⟨_,1,rfl,Nat.le_refl _,by simp[maxLen],fun _=>⟨_,0,rfl,Zc,fun j hj=>?_⟩⟩,.inr ⟨_,_,_,rfl⟩⟩
 match j,hj with
 | 0,_=>exact ZK _ _ _ 0 rfl
 | j+1,h=>simp at h
theorem ZlC (x r:Nat) (hx:x<10000):val 10000 (x::Zp 10000 r)=r*10000+x:=by
 rw[Zev,ZA Za];omega
theorem ZnM {x r:Nat} (hx:x<10000):∀ y ∈ x::Zp 10000 r,y<10000:=by
 intro y hy
 rcases List.mem_cons.1 hy with rfl | hy
 ·exact hx
 ·exact ZJ Za r y hy
theorem ZoE {s d l h:Nat} (h1:l*d<=s) (h2:s<h*d) (h3:h<=l+1) (h4:l<h):l=s/d:=by
 obtain rfl:h=l+1:=Za
 have hd:0<d:=by
  rcases Zo0 d with h0 | h0
  ·subst h0;omega
  ·exact h0
 exact(Nat.div_eq_of_lt_le h1 h2).symm
theorem ZaB {n m k l:Nat} (h1:(Zp 10000 n).length<=k) (h2:(Zp 10000 m).length<=l):(Zp 10000 (n*m)).length<=k+l:=by
 refine Zac Za ?_
 have a1:=Z8 (ZJ (B:=10000) Za n)
 have a2:=Z8 (ZJ (B:=10000) Za m)
 rw[ZA Za] at a1 a2
 rw[Nat.pow_add]
 refine Nat.mul_lt_mul'' (ZoS a1 (ZoW Za h1)) (ZoS a2 (ZoW Za h2))
theorem Zha {x:Nat} (h0:0<x) (h1:x<10000):(Zp 10000 x).length<=1:=by rw[Zg3 h0 h1];exact Nat.le_refl _
theorem Zfo {v1 v2:Value} {n d:Nat} {w:World} (h1:PNum w v1 n) (h2:PNum w v2 d) (hl1:(Zp 10000 n).length<=100000) (hl2:(Zp 10000 d).length<=100000) (hd:0<d) :
  Calls Tryz.prog 186 #[v1,v2] w (Zmb w n d):=by
 obtain⟨i0,hi,hz0,hz1,hz2⟩:=info_parts ZcW
 obtain⟨p2,m2,c2,rfl⟩:=h2.form
 obtain⟨p1,c1,rfl,_,_,hp1⟩:=h1.1
 obtain⟨xs,hxs⟩:=ZpB (Zp 10000 n)
 rw[hxs] at hl1 hp1 ⊢
 have HX:Hid (∀ x ∈ xs,x<10000):=by rw[<- hxs];exact ZJ Za n
 have HV:Hid (val 10000 xs=n):=by rw[<- hxs];exact ZA Za n
 have HP1:=Zpz hp1
 have H2:=Zpz h2
 have HD0:=Zpz hd
 have HL2:=Zpz hl2
 clear hxs hp1 h1 h2 hd hl2
 go_enter Tryz.func186,Tryz.ntmps186
 go_wp2_with (at_make;refine wpList_make_full _ rfl _ _ 23 rfl w.heap.size 3 i0 (.int .i64 0) 1 Tryz.underlying23 hi hz0 hz1 _ _ _ _ (xs.length) rfl rfl Za Za ?b2 ?b3 ZpA ?_)
 case b2=>rw[hz2];omega
 case b3=>unfold maxLen;omega
 intro w0 hown0 hgrow0
 have HB0:=Zpz ((ZoL w.heap.size w).grown hgrow0 ZpA (fun k h=>by cases h))
 have HR0:=Zpz (Row.full (k:=.i64) hown0)
 clear hgrow0 hown0
 go_wp2
 go_loopw [7,8] (fun vr vi wr=>∃ (k r:Nat) (o:List Nat),k<=xs.length/\vi=.int .i64 ((k:Int)-1)/\Hid (Row .i64 3 wr w.heap.size w.heap.size xs.length o)/\Hid (OverInv 10000 xs d k o r)/\Hid (PNum wr vr r)/\Zpt w wr) (fun _ vi _=>(intOf vi+1).toNat)
 case atStart=>exact⟨xs.length,0,_,Nat.le_refl _,rfl,HR0,OverInv.start Za _ HD0.out,Zm9 _,HB0⟩
 case round=>
  obtain⟨k,r,o,hk,rfl,HR,HI,HRest,HB⟩:=hrel
  obtain⟨pr,mr,cr,rfl⟩:=HRest.out.form
  have HLO:Hid (o.length=xs.length):=HI.out.inv.len
  rcases Zo0 k with h0 | h0
  ·subst h0
   have HD:=HI.out.done
   have ht:=Zdi HR.out.nums (.inr ⟨_,_,_,rfl⟩) HI.out.inv.lt (n/d) (by rw[HD.1,HV.out])
   rw[HLO.out] at ht
   have HE:Hid (r=n % d):=by show _=_;rw[HD.2,HV.out]
   clear HD
   go_wp2_with fail
   refine ht.mono ?_
   rintro e' w' ⟨v',rfl,rfl,hv,_⟩
   obtain⟨p',m',c',rfl⟩:=hv.form
   have HVV:=Zpz hv
   clear ht hv
   go_wp2
   refine ZoM (v:=.tuple #[.slice p' m' c',.slice pr mr cr]) (by simp[results,Tryz.f186,go_sem]) rfl ⟨_,_,rfl,HVV.out,?_,HB.out⟩
   rw[<- HE.out];exact HRest.out
  ·obtain⟨j,rfl⟩:∃ j,k=j+1:=⟨k-1,Za⟩
   have hj:j<xs.length:=Za
   have ej:((j+1:Nat):Int)-1=(j:Nat):=Za
   rw[ej]
   obtain⟨b1,o1,rfl,hb1,a1⟩:=HP1.out (ZoT Za)
   obtain⟨x,hx⟩:=ZpB (xs.getD j 0)
   have hxl:x<10000:=by rw[<- hx];exact ZM Za HX.out j
   have cx:wr.cell? ⟨b1,o1+j,none⟩=some (.int .i64 (x:Nat)):=(HB.out.cell (p:=⟨b1,o1+j,none⟩) hb1).trans (a1.getD hj hx)
   have Hx:=Zpz hx
   have hrd:r<d:=HI.out.inv.rest
   have hlr:(Zp 10000 r).length<=100000:=ZoU (ZN Za (Zph hrd)) HL2.out
   have hmr:mr=(Zp 10000 r).length:=by
    obtain⟨_,_,h,_⟩:=HRest.out.1
    injection h
   have HMR:=Zpz hmr
   obtain⟨s,hs⟩:=ZpB (r*10000+x)
   have HS:Hid (s=r*10000+xs.getD j 0):=by show _=_;rw[Hx.out,hs]
   have HSV:Hid (val 10000 (x::Zp 10000 r)=s):=by show _=_;rw[ZlC x r hxl,hs]
   have HSL:Hid (∀ y ∈ x::Zp 10000 r,y<10000):=ZnM hxl
   have hls:(Zp 10000 s).length<=100001:=by
    rw[<- HSV.out]
    refine ZoU (ZcR Za HSL.out) ?_
    simp;omega
   have hsz:=HB.out.size
   have al:=(ZoL wr.heap.size wr).alloc ZpA (.cells #[.int .i64 (x:Nat)] 3)
   have hown:(wr.alloc (.cells #[.int .i64 (x:Nat)] 3)).ownsRow wr.heap.size 3 1 (.slice (some ⟨wr.heap.size,0,none⟩) 1 1) 1 [.int .i64 (x:Nat)]:=World.ownsRow_lit wr #[.int .i64 (x:Nat)] 1 ZpA (by simp[maxLen]) rfl
   have hrA:=HRest.out.after al ZpA
   have hm1:1+(Zp 10000 r).length<=maxLen:=by unfold maxLen;omega
   have hm2:(1+(Zp 10000 r).length)*8<=140737488355328:=Za
   have hm3:wr.heap.size<=(wr.alloc (.cells #[.int .i64 (x:Nat)] 3)).heap.size:=Zc
   clear hx a1 hs ej hmr
   go_wp2_with (at_builtin;go_loud (refine ZfC rfl _ _ 23 rfl wr.heap.size 3 i0 .i64 8 Tryz.underlying23 hi hz0 hz1 hz2 _ 1 _ rfl hown _ (Zp 10000 r) rfl hrA.1 hrA.2 hm1 hm2 hm3 ?_);intro v' w1 hown1 hgrow1)
   have hG:Grow .i64 3 w1 wr.heap.size v' (x::Zp 10000 r):=by
    unfold Grow
    rw[Zpl,Nat.add_comm (Zp 10000 r).length 1]
    exact hown1
   have HWB:=Zpz (fun g (hg:v'.ownBlock=some g)=>ZoZ hown1 g hg)
   have hlw:w.heap.size<wr.heap.size:=HR.out.lt.2
   have hB1:Below w.heap.size w w1:=(HB.out.alloc hsz _).grown hgrow1 (by simp;omega) (fun z hz=>by have:wr.heap.size=z:=ZoP hz;omega)
   have hR1:Row .i64 3 w1 w.heap.size w.heap.size xs.length o:=(HR.out.alloc _).grown hgrow1 (by intro h;have:wr.heap.size=w.heap.size:=ZoP h;omega)
   have ht:=Zdi hG.nums hG.pform HSL.out s HSV.out
   have HB1:=Zpz hB1
   have HR1:=Zpz hR1
   have HLW:=Zpz hlw
   have HI1:=HI
   clear hown hrA hm1 hm2 hm3 al hown1 hgrow1 hG hB1 hR1 hlw cx HR HB HRest
   refine ht.mono ?_
   rintro e w1' ⟨vs,rfl,rfl,hvs,hvb⟩
   obtain⟨ps,ms,cs,rfl⟩:=hvs.form
   have HVS:=Zpz hvs
   have HVB:Hid (∀ g,(Value.slice ps ms cs).ownBlock=some g->w.heap.size<g):=fun g hg=>by
    have:=(HWB.out g (by rw[<- hvb];exact hg)).1
    have:=HLW.out
    omega
   have ho:=Zd4 hvs (H2.out.after HB1.out ZpA) Za (by have:=HL2.out;omega)
   clear ht hvs hvb HWB
   go_wp2_with fail
   refine ho.mono ?_
   rintro e w2 ⟨rfl,hb2⟩
   have HB2:=Zpz (HB1.out.trans (hb2.mono HB1.out.size))
   have HR2:=Zpz (HR1.out.below hb2 (by have:=HR1.out.lt.2;omega))
   have HVS2:=Zpz (HVS.out.after hb2 ZpA)
   clear ho hb2 HB1 HR1 HVS
   rcases ZoR s d with hlt | hge
   ·have hsg:sgnN s d<0:=ZeE.2 hlt
    have HS2:=Zpz (HI1.out.skip HX.out hj HS.out hlt)
    clear hlt
    go_wp2
    go_roundw
    case rel=>exact⟨j,s,o,Za,by go_num,HR2,HS2,HVS2,HB2⟩
    case measure=>simp[intOf]<;>omega
   ·have hsg:¬ sgnN s d<0:=fun h=>by have:=ZeE.1 h;omega
    have HDG:Hid (s/d<10000):=HI1.out.digit HX.out hj HS.out
    have HUP:Hid (s<10000*d):=by
     have h1:=HDG.out
     have h2:=HD0.out
     have h3:=Nat.lt_mul_div_succ s h2
     have h4:d*(s/d+1)<=d*10000:=Nat.mul_le_mul_left _ h1
     show _<_
     rw[Zo7 10000 d];omega
    have HLO1:Hid (1*d<=s):=by show _<=_;omega
    clear hge
    go_wp2
    obtain⟨wo,hwo⟩:∃ wo:World,wo=w2:=⟨_,rfl⟩
    go_loopw [9,10] (fun vl vh wz=>∃ (l h:Nat),vl=.int .i64 l/\vh=.int .i64 h/\1<=l/\l<h/\h<=10000/\Hid (l*d<=s)/\Hid (s<h*d)/\Zpt w2 wz) (fun vl vh _=>(intOf vh-intOf vl).toNat)
    case atStart=>exact⟨1,10000,rfl,rfl,Nat.le_refl _,Za,Nat.le_refl _,HLO1,HUP,ZoL _ _⟩
    case round=>
     obtain⟨l,h,rfl,rfl,hl1',hlh,hh,HL,HH,HZ⟩:=hrel
     obtain⟨wz,hwz⟩:∃ wz:World,wr=wz:=⟨_,rfl⟩
     subst hwz
     have HBZ:=Zpz (HB2.out.trans (HZ.out.mono HB2.out.size))
     have HVZ:=Zpz (HVS2.out.after HZ.out ZpA)
     by_cases hgo:1<h-l
     ·have hgo':(1:Int)<(h:Int)-l:=Za
      obtain⟨m,hm⟩:=ZpB ((l+h)/2)
      have em:((l:Int)+h)/2=(m:Nat):=Za
      have em':((l:Int)+h).tdiv 2=(m:Nat):=by rw[<- em];exact Int.tdiv_eq_ediv_of_nonneg Za
      have hm0:l<m/\m<h:=Za
      have al:=(ZoL wr.heap.size wr).alloc ZpA (.cells #[.int .i64 (m:Nat)] 3)
      have ht:=Zap ((H2.out.after HBZ.out ZpA).after al ZpA) (ZiK wr m Za Za) (by have:=HL2.out;omega) (by have:=Zha (x:=m) Za Za;omega)
      have HAL:=Zpz al
      clear hgo hm al
      go_wp2_with fail
      refine ht.mono ?_
      rintro e w4 ⟨vp,rfl,hvp,hb4⟩
      obtain⟨pp,mp,cp,rfl⟩:=hvp.form
      have hb4':=HAL.out.trans (hb4.mono HAL.out.size)
      have HZ4:=Zpz (HZ.out.trans (hb4'.mono HZ.out.size))
      have ho:=Zd4 hvp (HVZ.out.after hb4' ZpA) (by have:=ZaB HL2.out (Zha (x:=m) Za Za);omega) Za
      clear ht hvp hb4 hb4'
      go_wp2_with fail
      refine ho.mono ?_
      rintro e w5 ⟨rfl,hb5⟩
      have HZ5:=Zpz (HZ4.out.trans (hb5.mono HZ4.out.size))
      clear ho hb5
      by_cases hle:d*m<=s
      ·have hs:sgnN (d*m) s<=0:=Zkc.2 hle
       have HL5:Hid (m*d<=s):=by show _<=_;rw[Zo7];exact hle
       clear hle
       go_wp2
       go_roundw
       case rel=>exact⟨m,h,rfl,rfl,Za,Za,Za,HL5,HH,HZ5⟩
       case measure=>simp[intOf]<;>omega
      ·have hs:¬ sgnN (d*m) s<=0:=fun h=>hle (Zkc.1 h)
       have HH5:Hid (s<m*d):=by show _<_;rw[Zo7];omega
       clear hle
       go_wp2
       go_roundw
       case rel=>exact⟨l,m,rfl,rfl,Za,Za,Za,HL,HH5,HZ5⟩
       case measure=>simp[intOf]<;>omega
     ·have hgo':¬ (1:Int)<(h:Int)-l:=Za
      have HQ:Hid (l=s/d):=ZoE HL.out HH.out Za hlh
      have HRZ:=Zpz (HR2.out.below HZ.out (by have:=HR2.out.lt.2;omega))
      have cz:wr.cell? ⟨w.heap.size,j,none⟩=some (.int .i64 ((o.getD j 0:Nat):Int)):=HRZ.out.cell (by rw[HLO.out];exact hj) rfl
      have fz:wr.frozen? ⟨w.heap.size,j,none⟩=false:=HRZ.out.frozen _
      have hjl:(j:Int)<xs.length:=Za
      have hj0:(0:Int)<=(j:Int):=Za
      have hR3:=HRZ.out.set j l
      have hB3:=HBZ.out.setCell (p:=⟨w.heap.size,j,none⟩) ZpA (.int .i64 (l:Nat))
      have hV3:PNum (wr.setCell ⟨w.heap.size,j,none⟩ (.int .i64 (l:Nat))) (.slice ps ms cs) s:=HVZ.out.kept Zc (fun b hb _=>ZoN wr ⟨w.heap.size,j,none⟩ _ b (by have:=HVB.out b hb;simp;omega))
      obtain⟨w3,hw3⟩:=ZpB (wr.setCell ⟨w.heap.size,j,none⟩ (.int .i64 (l:Nat)))
      rw[hw3] at hR3 hB3 hV3
      have HR3:=Zpz hR3
      have HB3:=Zpz hB3
      have HV3:=Zpz hV3
      have al:=(ZoL w3.heap.size w3).alloc ZpA (.cells #[.int .i64 (l:Nat)] 3)
      have ht:=Zap ((H2.out.after HB3.out ZpA).after al ZpA) (ZiK w3 l Za Za) (by have:=HL2.out;omega) (by have:=Zha (x:=l) Za Za;omega)
      have HAL:=Zpz al
      clear hgo hR3 hB3 hV3 al
      go_wp2_with fail
      refine ht.mono ?_
      rintro e w4 ⟨vp,rfl,hvp,hb4⟩
      obtain⟨pp,mp,cp,rfl⟩:=hvp.form
      have hb4':=HAL.out.trans (hb4.mono HAL.out.size)
      have HB4:=Zpz (HB3.out.trans (hb4'.mono HB3.out.size))
      have HR4:=Zpz (HR3.out.below hb4' (by have:=HR3.out.lt.2;omega))
      have hmin:=Zgo (HV3.out.after hb4' ZpA) hvp (by rw[HQ.out];exact Nat.mul_div_le s d) Za
      have HE:Hid (s-d*l=s % d):=by show _=_;rw[HQ.out];exact(Nat.mod_eq_sub ..).symm
      rw[HE.out] at hmin
      clear ht hvp hb4 hb4' hw3 cz fz
      go_wp2_with fail
      refine hmin.mono ?_
      rintro e w5 ⟨vr,rfl,hvr,hb5⟩
      obtain⟨pr,mr',cr',rfl⟩:=hvr.form
      have HVR:=Zpz hvr
      have HB5:=Zpz (HB4.out.trans (hb5.mono HB4.out.size))
      have HR5:=Zpz (HR4.out.below hb5 (by have:=HR4.out.lt.2;omega))
      have HI5:=Zpz (HI1.out.step HX.out hj HS.out HQ.out rfl)
      clear hmin hvr hb5
      go_wp2
      go_roundw
      case rel=>exact⟨j,s % d,_,Za,by go_num,HR5,HI5,HVR,HB5⟩
      case measure=>simp[intOf]<;>omega
theorem ZnF {k:IntKind} {w:World} {b off:Nat} {xs ys:List Nat} (h1:At k w b off xs) (h2:At k w b off ys) (hl:xs.length=ys.length):xs=ys:=by
 refine List.ext_getElem hl fun j h3 h4=>?_
 have h5:=(h1 j h3).symm.trans (h2 j h4)
 injection h5 with h5
 injection h5 with _ h5
 omega
theorem PNum.unique {w:World} {v:Value} {n m:Nat} (h10:PNum w v n) (h20:PNum w v m):n=m:=by
 obtain⟨p1,c1,rfl,_,_,h1⟩:=h10.1
 obtain⟨p2,c2,hv,_,_,h2⟩:=h20.1
 injection hv with e1 e2 e3
 have:Zp 10000 n=Zp 10000 m:=by
  by_cases hn:Zp 10000 n=[]
  ·rw[hn] at e2 ⊢
   exact(ZoX e2.symm).symm
  ·have hm:Zp 10000 m≠[]:=fun h=>by rw[h] at e2;exact hn (ZoX e2)
   obtain⟨b1,o1,rfl,_,a1⟩:=h1 hn
   obtain⟨b2,o2,hb,_,a2⟩:=h2 hm
   rw[<- e1] at hb
   injection hb with hb
   injection hb with hb1 hb2
   subst hb1;subst hb2
   exact ZnF a1 a2 e2
 have h3:=congrArg (val 10000) this
 rwa [ZA Za,ZA Za] at h3
open Classical in
noncomputable def ZgJ (w:World) (v:Value):Nat:=if h:∃ n,PNum w v n then h.choose else 0
theorem Zi9 {w:World} {v:Value} {n:Nat} (h:PNum w v n):ZgJ w v=n:=by
 unfold ZgJ
 rw[dif_pos ⟨n,h⟩]
 exact PNum.unique (Exists.choose_spec (⟨n,h⟩:∃ n,PNum w v n)) h
theorem Zjd {v1 v2:Value} {n m:Nat} {w:World} (h1:PNum w v1 n) (h2:PNum w v2 m) (hl1:(Zp 10000 n).length<=100000) (hl2:(Zp 10000 m).length<=100000) :
  Calls Tryz.prog 185 #[v1,v2] w (Zar w (Nat.gcd n m)):=by
 have H1:=Zpz h1
 have H2:=Zpz h2
 clear h1 h2
 go_enter Tryz.func185,Tryz.ntmps185
 go_wp2
 go_loopw [0,1] (fun va vb wr=>∃ (a b:Nat),Hid (PNum wr va a)/\Hid (PNum wr vb b)/\Hid (Nat.gcd a b=Nat.gcd n m)/\Hid ((Zp 10000 a).length<=100000/\(Zp 10000 b).length<=100000)/\Zpt w wr) (fun _ vb wr=>ZgJ wr vb)
 case atStart=>exact⟨n,m,H1,H2,rfl,⟨hl1,hl2⟩,ZoL _ _⟩
 case round=>
  obtain⟨a,b,HA,HB,HG,HL,HW⟩:=hrel
  obtain⟨pa,ma,ca,rfl⟩:=HA.out.form
  rcases Zo0 b with h0 | h0
  ·subst h0
   obtain⟨p,c,rfl,_,_,_⟩:=id HB.out.1
   have e0:(Zp 10000 0).length=0:=by rw[ZO];rfl
   rw[e0]
   have HN:Hid (PNum wr (.slice pa ma ca) (Nat.gcd n m)):=by
    have h:=HG.out
    rw[Nat.gcd_zero_right] at h
    rw[<- h];exact HA
   clear HB HA HG HL e0
   go_wp2
   go_ret
   exact⟨_,rfl,HN.out,HW.out⟩
  ·obtain⟨p,c,rfl,_,_,_⟩:=id HB.out.1
   have hp:0<(Zp 10000 b).length:=(ZaN Za).2 h0
   have HNB:Hid (ZgJ wr (.slice p (Zp 10000 b).length c)=b):=Zi9 HB.out
   have hov:=Zfo HA.out HB.out HL.out.1 HL.out.2 h0
   obtain⟨l,hl⟩:=ZpB ((Zp 10000 b).length)
   rw[hl] at hov hp HB HNB ⊢
   have Hl:=Zpz hl
   clear hl
   go_wp2_with fail
   refine hov.mono ?_
   rintro e w9 ⟨q,r,rfl,hq,hr,hb9⟩
   have HR:=Zpz hr
   have HB9:Hid (PNum w9 (.slice p l c) b):=HB.out.after hb9 ZpA
   have HW9:=Zpz (HW.out.trans (hb9.mono HW.out.size))
   have HM:Hid (ZgJ w9 r<b):=by show _<_;rw[Zi9 hr];exact Nat.mod_lt _ h0
   clear hov hq hr hb9
   go_wp2
   go_roundw
   case rel=>exact⟨b,a % b,HB9,HR,by rw[<- HG.out,Nat.gcd_comm a b];exact(Nat.gcd_rec b a).symm ▸ (Nat.gcd_comm _ _),⟨HL.out.2,ZoU (ZN Za (Nat.mod_le _ _)) HL.out.1⟩,HW9⟩
   case measure=>rw[HNB.out];exact HM.out
theorem Zgl {c:UInt8} (h:ZG c=false):(c.toNat:Int)<48\/(57:Int)<c.toNat:=by
 unfold ZG at h
 have:=of_decide_eq_false h
 omega
theorem ZlG {l:List UInt8} {i:Nat} (hi:i<l.length) (h:ZG l[i]=false):l.all ZG=false:=by
 rw[List.all_eq_false]
 exact⟨l[i],Zpc hi,by rw[h];simp⟩
theorem Zne {l:List UInt8} (h:∀ j (hj:j<l.length),ZG l[j]=true):l.all ZG=true:=by
 rw[Zpo]
 intro x hx
 obtain⟨j,hj,rfl⟩:=List.getElem_of_mem hx
 exact h j hj
theorem ZcY {l:List UInt8} (h:l.all ZG=false):ZU l=false:=by unfold ZU ZcD Zdx;rw[h];simp
def Zbx (s:ByteArray) (k:Nat):Prop:=∀ j (h:j<s.data.toList.length),j<k->ZG s.data.toList[j]=true
theorem Zbx.next {s:ByteArray} {k:Nat} (h:Zbx s k) (hk:k<s.size) (hd:ZG s[k]=true):Zbx s (k+1):=by
 intro j h1 h2
 rcases ZoR j k with h3 | h3
 ·exact h j h1 h3
 ·obtain rfl:j=k:=Za
  exact hd
theorem Zbx.start (s:ByteArray):Zbx s 0:=by
 intro j _ h
 exact Zpp h Za
theorem Zbx.done {s:ByteArray} (h:Zbx s s.size):s.data.toList.all ZG=true:=Zne fun j hj=>h j hj (by have h2:=hj;rw[Zy] at h2;exact h2)
theorem Zge {s:ByteArray} {k:Nat} (hk:k<s.size) (h:ZG s[k]=false):s.data.toList.all ZG=false:=ZlG (i:=k) (by rw[Zy];exact hk) h
theorem ZhJ (s:ByteArray) (w:World) (h0:0<s.size) (h6:s.size<=600) (hh:s.size=1\/∃ c,(∃ h,s[0]'h=c)/\((c.toNat:Int)==48)=false) :
  Calls Tryz.prog 188 #[.string s] w fun e w'=>e=.returned (.bool (ZU s.data.toList))/\w=w':=by
 have e0:¬ (s.size:Int)=0:=Za
 have e0':((s.size:Int)==0)=false:=by rw[beq_eq_false_iff_ne];omega
 have e6:¬ (600:Int)<s.size:=Za
 have HH:=Zpz hh
 have HQ:Hid (s.data.toList.all ZG=true->ZU s.data.toList=true):=fun ha=>by
  unfold ZU ZcD Zdx
  have hne:s.data.toList≠[]:=ZoT (by rw[Zy];exact h0)
  have hl:s.data.toList.length<=600:=by rw[Zy];exact h6
  have hx:1<s.data.toList.length->s.data.toList.head?≠some 48:=fun h1=>by
   rw[Zy] at h1
   rcases hh with h | ⟨c,⟨h2,hc⟩,h3⟩
   ·omega
   ·intro h4
    have:=(Zjm s h2).1 h4
    rw[hc] at this
    rw[beq_eq_false_iff_ne] at h3
    exact h3 this
  simp[ha,hne]
  refine⟨?_,h6⟩
  rcases ZoR 1 s.size with h | h
  ·exact .inr (hx (by rw[Zy];exact h))
  ·exact .inl h
 clear hh
 rcases HH.out with h1 | ⟨c0,⟨h2,hc⟩,h3⟩
 ·have e1:¬ (1:Int)<s.size:=Za
  clear h1
  go_enter Tryz.func188,Tryz.ntmps188
  go_wp2
  go_loop [3] (fun vi=>∃ (k:Nat),vi=.int .i64 k/\k<=s.size/\Hid (Zbx s k)) (fun vi=>s.size-(intOf vi).toNat)
  case atStart=>exact⟨0,rfl,ZoY _,Zbx.start s⟩
  case round=>
   obtain⟨k,rfl,hk,HK⟩:=hrel
   by_cases hlt:k<s.size
   ·have hlt':(k:Int)<s.size:=Za
    obtain⟨c,hc⟩:=ZpB (s[k])
    cases hd:ZG c
    ·have HS:Hid (s.data.toList.all ZG=false):=Zge hlt (by rw[hc];exact hd)
     rcases Zgl hd with h1 | h1
     ·clear hd
      go_wp2
      go_ret
      exact⟨by rw[ZcY HS.out];rfl,rfl⟩
     ·have h2:¬ (c.toNat:Int)<48:=Za
      clear hd
      go_wp2
      go_ret
      exact⟨by rw[ZcY HS.out];rfl,rfl⟩
    ·have hd2:=of_decide_eq_true hd
     have h1:¬ (c.toNat:Int)<48:=Za
     have h2:¬ (57:Int)<c.toNat:=Za
     have HK2:Hid (Zbx s (k+1)):=HK.out.next hlt (by rw[hc];exact hd)
     clear hd hd2
     go_wp2
     go_round
     case rel=>exact⟨k+1,by go_num,Za,HK2⟩
     case measure=>exact Zj
   ·have hlt':¬ (k:Int)<s.size:=Za
    have HA:Hid (s.data.toList.all ZG=true):=by
     obtain rfl:k=s.size:=Za
     exact HK.out.done
    clear hlt
    go_wp2
    go_ret
    exact⟨by rw[HQ.out HA.out];rfl,rfl⟩
 ·by_cases h1:1<s.size
  ·have e1:(1:Int)<s.size:=Za
   clear h1
   go_enter Tryz.func188,Tryz.ntmps188
   go_wp2
   clear hc h3
   go_loop [3] (fun vi=>∃ (k:Nat),vi=.int .i64 k/\k<=s.size/\Hid (Zbx s k)) (fun vi=>s.size-(intOf vi).toNat)
   case atStart=>exact⟨0,rfl,ZoY _,Zbx.start s⟩
   case round=>
    obtain⟨k,rfl,hk,HK⟩:=hrel
    by_cases hlt:k<s.size
    ·have hlt':(k:Int)<s.size:=Za
     obtain⟨c,hc⟩:=ZpB (s[k])
     cases hd:ZG c
     ·have HS:Hid (s.data.toList.all ZG=false):=Zge hlt (by rw[hc];exact hd)
      rcases Zgl hd with h1 | h1
      ·clear hd
       go_wp2
       go_ret
       exact⟨by rw[ZcY HS.out];rfl,rfl⟩
      ·have h2:¬ (c.toNat:Int)<48:=Za
       clear hd
       go_wp2
       go_ret
       exact⟨by rw[ZcY HS.out];rfl,rfl⟩
     ·have hd2:=of_decide_eq_true hd
      have h1:¬ (c.toNat:Int)<48:=Za
      have h2:¬ (57:Int)<c.toNat:=Za
      have HK2:Hid (Zbx s (k+1)):=HK.out.next hlt (by rw[hc];exact hd)
      clear hd hd2
      go_wp2
      go_round
      case rel=>exact⟨k+1,by go_num,Za,HK2⟩
      case measure=>exact Zj
    ·have hlt':¬ (k:Int)<s.size:=Za
     have HA:Hid (s.data.toList.all ZG=true):=by
      obtain rfl:k=s.size:=Za
      exact HK.out.done
     clear hlt
     go_wp2
     go_ret
     exact⟨by rw[HQ.out HA.out];rfl,rfl⟩
  ·have e1:¬ (1:Int)<s.size:=Za
   clear h1 hc h3
   go_enter Tryz.func188,Tryz.ntmps188
   go_wp2
   go_loop [3] (fun vi=>∃ (k:Nat),vi=.int .i64 k/\k<=s.size/\Hid (Zbx s k)) (fun vi=>s.size-(intOf vi).toNat)
   case atStart=>exact⟨0,rfl,ZoY _,Zbx.start s⟩
   case round=>
    obtain⟨k,rfl,hk,HK⟩:=hrel
    by_cases hlt:k<s.size
    ·have hlt':(k:Int)<s.size:=Za
     obtain⟨c,hc⟩:=ZpB (s[k])
     cases hd:ZG c
     ·have HS:Hid (s.data.toList.all ZG=false):=Zge hlt (by rw[hc];exact hd)
      rcases Zgl hd with h1 | h1
      ·clear hd
       go_wp2
       go_ret
       exact⟨by rw[ZcY HS.out];rfl,rfl⟩
      ·have h2:¬ (c.toNat:Int)<48:=Za
       clear hd
       go_wp2
       go_ret
       exact⟨by rw[ZcY HS.out];rfl,rfl⟩
     ·have hd2:=of_decide_eq_true hd
      have h1:¬ (c.toNat:Int)<48:=Za
      have h2:¬ (57:Int)<c.toNat:=Za
      have HK2:Hid (Zbx s (k+1)):=HK.out.next hlt (by rw[hc];exact hd)
      clear hd hd2
      go_wp2
      go_round
      case rel=>exact⟨k+1,by go_num,Za,HK2⟩
      case measure=>exact Zj
    ·have hlt':¬ (k:Int)<s.size:=Za
     have HA:Hid (s.data.toList.all ZG=true):=by
      obtain rfl:k=s.size:=Za
      exact HK.out.done
     clear hlt
     go_wp2
     go_ret
     exact⟨by rw[HQ.out HA.out];rfl,rfl⟩
theorem Zau (s:ByteArray) (w:World) (hs:s.size<=1000000) :
  Calls Tryz.prog 188 #[.string s] w fun e w'=>e=.returned (.bool (ZU s.data.toList))/\w=w':=by
 rcases Zo0 s.size with h0 | h0
 ·have HQ:Hid (ZU s.data.toList=false):=by
   have:s.data.toList=[]:=ZoX (by rw[Zy];exact h0)
   show _=_
   rw[this];rfl
  have e0:(s.size:Int)=0:=Za
  clear h0
  go_enter Tryz.func188,Tryz.ntmps188
  go_wp2
  go_ret
  exact⟨by rw[HQ.out];rfl,rfl⟩
 ·have e0:¬ (s.size:Int)=0:=Za
  have e0':((s.size:Int)==0)=false:=by rw[beq_eq_false_iff_ne];omega
  rcases ZoR 600 s.size with h6 | h6
  ·have HQ:Hid (ZU s.data.toList=false):=by
    show _=_
    unfold ZU
    rw[Zy]
    simp;omega
   have e6:(600:Int)<s.size:=Za
   clear h6 h0
   go_enter Tryz.func188,Tryz.ntmps188
   go_wp2
   go_ret
   exact⟨by rw[HQ.out];rfl,rfl⟩
  ·obtain⟨c,hc⟩:=ZpB (s[0]'h0)
   cases h3:((c.toNat:Int)==48)
   ·exact ZhJ s w h0 h6 (.inr ⟨c,⟨h0,hc⟩,h3⟩)
   ·by_cases h1:s.size=1
    ·exact ZhJ s w h0 h6 (.inl h1)
    ·have e1:(1:Int)<s.size:=Za
     have HQ:Hid (ZU s.data.toList=false):=by
      have h4:=(Zjm s h0).2 (by rw[hc];simpa using h3)
      show _=_
      unfold ZU ZcD
      rw[Zy,h4]
      simp;omega
     have e6:¬ (600:Int)<s.size:=Za
     clear h6 h1
     go_enter Tryz.func188,Tryz.ntmps188
     go_wp2
     go_ret
     exact⟨by rw[HQ.out];rfl,rfl⟩
theorem ZV (s:ByteArray) (hl:s.size<=1000000) (hd:∀ c ∈ s.data.toList,ZG c=true) (w:World) :
  Calls Tryz.prog 118 #[.string s] w (Zar w (Zq s.data.toList)):=by
 have hp:=ZmM s hl hd w
 clear hd
 go_enter Tryz.func118,Tryz.ntmps118
 go_wp2_with fail
 refine hp.mono ?_
 rintro e w1 ⟨v,rfl,hv,hb⟩
 obtain⟨p,m,c,rfl⟩:=hv.form
 have HV:=Zpz hv
 have HB:=Zpz hb
 clear hp hv hb
 go_wp2
 go_ret
 exact⟨_,rfl,HV.out,HB.out⟩
theorem ZeG {v:Value} {n:Nat} {w:World} (h:PNum w v n) (hl:(Zp 10000 n).length<=1000000) :
  Calls Tryz.prog 187 #[v] w (Zj9 (str (Lib.decDigits n)) w):=by
 have hp:=ZfO h hl
 clear h
 go_enter Tryz.func187,Tryz.ntmps187
 go_wp2_with fail
 refine hp.mono ?_
 rintro e w1 ⟨rfl,hb⟩
 have HB:=Zpz hb
 clear hp hb
 go_wp2
 go_ret
 exact⟨rfl,HB.out⟩
theorem ZdV {v1 v2:Value} {n d:Nat} {w:World} (h1:PNum w v1 n) (h2:PNum w v2 d) (hl1:(Zp 10000 n).length<=100000) (hl2:(Zp 10000 d).length<=100000) (hd:0<d) :
  Calls Tryz.prog 141 #[v1,v2] w (ZL (Ans (mkRat (n:Nat) d)) w):=by
 obtain⟨g,hg⟩:=ZpB (Nat.gcd n d)
 have hg0:0<g:=by rw[<- hg];exact Nat.gcd_pos_of_pos_right _ hd
 have hgl:(Zp 10000 g).length<=100000:=ZoU (ZN Za (by rw[<- hg];exact Nat.gcd_le_right _ hd)) hl2
 have HQ:Hid (numD (mkRat (n:Nat) d)=Lib.decDigits (n/g)/\denD (mkRat (n:Nat) d)=Lib.decDigits (d/g)):=by rw[<- hg];exact ZdN n hd
 obtain⟨p1,m1,c1,rfl⟩:=h1.form
 obtain⟨p2,m2,c2,rfl⟩:=h2.form
 have H1:=Zpz h1
 have H2:=Zpz h2
 have HG0:=Zpz hg
 clear h1 h2 hg
 go_enter Tryz.func141,Tryz.ntmps141
 go_wp2_with fail
 obtain⟨w1,hw1⟩:=ZpB (w.alloc (Zpx Zpv Zpv))
 rw[hw1]
 have HX1:Hid (Zv w.heap.size [Zpx Zpv Zpv] w1):=by rw[<- hw1];exact Zv.one w _
 have HB1:Zpt w w1:=by rw[<- hw1];exact(ZoL _ w).alloc ZpA _
 clear hw1
 refine(Zjd (H1.out.after HB1.out ZpA) (H2.out.after HB1.out ZpA) hl1 hl2).mono ?_
 rintro e w2 ⟨vg,rfl,hG,hb2⟩
 obtain⟨pg,lg,cg,rfl⟩:=hG.form
 rw[HG0.out] at hG
 have HG:=Zpz hG
 have HB2:=Zpz (HB1.out.trans (hb2.mono HB1.out.size))
 have HX2:=Zpz (HX1.out.below hb2 HX1.out.lt)
 clear hG hb2
 go_wp2_with fail
 refine(Zfo (H1.out.after HB2.out ZpA) HG.out hl1 hgl hg0).mono ?_
 rintro e w3 ⟨vn,vr,rfl,hN,hR,hb3⟩
 obtain⟨pn,ln,cn,rfl⟩:=hN.form
 obtain⟨pr,lr,cr,rfl⟩:=hR.form
 have HN3:=Zpz hN
 have HG3:=Zpz (HG.out.after hb3 ZpA)
 have HB3:=Zpz (HB2.out.trans (hb3.mono HB2.out.size))
 have HX3:=Zpz (HX2.out.below hb3 HX2.out.lt)
 clear hN hR hb3
 go_wp2_with fail
 refine(Zfo (H2.out.after HB3.out ZpA) HG3.out hl2 hgl hg0).mono ?_
 rintro e w4 ⟨vd,vs,rfl,hD,hS,hb4⟩
 obtain⟨pd,ld,cd,rfl⟩:=hD.form
 obtain⟨ps,ls,cs,rfl⟩:=hS.form
 have HD4:=Zpz hD
 have HN4:=Zpz (HN3.out.after hb4 ZpA)
 have HB4:=Zpz (HB3.out.trans (hb4.mono HB3.out.size))
 have HX4:=Zpz (HX3.out.below hb4 HX3.out.lt)
 clear hD hS hb4
 have hln:(Zp 10000 (n/g)).length<=100000:=ZoU (ZN Za (Nat.div_le_self _ _)) hl1
 have hld:(Zp 10000 (d/g)).length<=100000:=ZoU (ZN Za (Nat.div_le_self _ _)) hl2
 go_wp2_with fail
 refine(ZeG HN4.out Za).mono ?_
 rintro e w5 ⟨rfl,hb5⟩
 have HD5:=Zpz (HD4.out.after hb5 ZpA)
 have HB5:=Zpz (HB4.out.trans (hb5.mono HB4.out.size))
 have HX5:=Zpz (HX4.out.below hb5 HX4.out.lt)
 clear hb5
 obtain⟨s,hs⟩:=ZpB (str (Lib.decDigits (n/g)))
 rw[hs]
 have HS:Hid (str (Lib.decDigits (n/g))=s/\s.size=(Lib.decDigits (n/g)).length):=⟨hs,by rw[<- hs,Zay]⟩
 clear hs
 go_wp2_with fail
 refine(ZeG HD5.out Za).mono ?_
 rintro e w6 ⟨rfl,hb6⟩
 have HB6:=Zpz (HB5.out.trans (hb6.mono HB5.out.size))
 have HX6:=Zpz (HX5.out.below hb6 HX5.out.lt)
 clear hb6
 obtain⟨t,ht⟩:=ZpB (str (Lib.decDigits (d/g)))
 rw[ht]
 have HT:Hid (str (Lib.decDigits (d/g))=t/\t.size=(Lib.decDigits (d/g)).length):=⟨ht,by rw[<- ht,Zay]⟩
 clear ht
 have c0:(w6.alloc (Zpx s t)).cell? ⟨w6.heap.size,0,none⟩=some (.string s):=ZK _ _ _ 0 rfl
 have c1:(w6.alloc (Zpx s t)).cell? ⟨w6.heap.size,1,none⟩=some (.string t):=ZK _ _ _ 1 rfl
 have HX7:=Zpz (HX6.out.alloc (Zpx s t))
 have HB7:=Zpz (HB6.out.alloc HB6.out.size (Zpx s t))
 by_cases e1:(600:Int)<s.size
 ·skip
  have r0:=HX7.out.cell 0 0 (b:=w.heap.size) rfl rfl rfl
  have r1:=HX7.out.cell 0 1 (b:=w.heap.size) rfl rfl rfl
  have f0:=HX7.out.free 0 0 (b:=w.heap.size) rfl rfl
  have f1:=HX7.out.free 0 1 (b:=w.heap.size) rfl rfl
  go_wp2
  have q:=Zu (HX7.out.block 0 (b:=w.heap.size) rfl rfl) (.string Zpv) (.string Zpv)
  have HBQ:=Zpz (Zs HB7.out (b:=w.heap.size) Za (.string Zpv) (.string Zpv))
  obtain⟨w9,hw9⟩:=ZpB (((w6.alloc (Zpx s t)).setCell ⟨w.heap.size,0,none⟩ (.string Zpv)).setCell ⟨w.heap.size,1,none⟩ (.string Zpv))
  rw[hw9] at q HBQ
  obtain⟨q0,q1⟩:=q
  rw[hw9]
  clear r0 r1 f0 f1 hw9
  go_wp2
  refine ZoM (v:=.tuple #[Zpw Zpv Zpv,.int .i64 4]) (by simp[results,Tryz.f141,go_sem,q0,q1]) rfl ⟨_,_,_,rfl,?_,HBQ.out⟩
  exact .inr ⟨fun hf=>by have:=hf.1;rw[HQ.out.1,<- HS.out.2] at this;omega,rfl,rfl,rfl⟩
 ·by_cases e2:(600:Int)<t.size
  ·skip
   have r0:=HX7.out.cell 0 0 (b:=w.heap.size) rfl rfl rfl
   have r1:=HX7.out.cell 0 1 (b:=w.heap.size) rfl rfl rfl
   have f0:=HX7.out.free 0 0 (b:=w.heap.size) rfl rfl
   have f1:=HX7.out.free 0 1 (b:=w.heap.size) rfl rfl
   go_wp2
   have q:=Zu (HX7.out.block 0 (b:=w.heap.size) rfl rfl) (.string Zpv) (.string Zpv)
   have HBQ:=Zpz (Zs HB7.out (b:=w.heap.size) Za (.string Zpv) (.string Zpv))
   obtain⟨w9,hw9⟩:=ZpB (((w6.alloc (Zpx s t)).setCell ⟨w.heap.size,0,none⟩ (.string Zpv)).setCell ⟨w.heap.size,1,none⟩ (.string Zpv))
   rw[hw9] at q HBQ
   obtain⟨q0,q1⟩:=q
   rw[hw9]
   clear r0 r1 f0 f1 hw9
   go_wp2
   refine ZoM (v:=.tuple #[Zpw Zpv Zpv,.int .i64 4]) (by simp[results,Tryz.f141,go_sem,q0,q1]) rfl ⟨_,_,_,rfl,?_,HBQ.out⟩
   exact .inr ⟨fun hf=>by have:=hf.2;rw[HQ.out.2,<- HT.out.2] at this;omega,rfl,rfl,rfl⟩
  ·skip
   have r0:=HX7.out.cell 0 0 (b:=w.heap.size) rfl rfl rfl
   have r1:=HX7.out.cell 0 1 (b:=w.heap.size) rfl rfl rfl
   have f0:=HX7.out.free 0 0 (b:=w.heap.size) rfl rfl
   have f1:=HX7.out.free 0 1 (b:=w.heap.size) rfl rfl
   go_wp2
   have q:=Zu (HX7.out.block 0 (b:=w.heap.size) rfl rfl) (.string s) (.string t)
   have HBQ:=Zpz (Zs HB7.out (b:=w.heap.size) Za (.string s) (.string t))
   obtain⟨w9,hw9⟩:=ZpB (((w6.alloc (Zpx s t)).setCell ⟨w.heap.size,0,none⟩ (.string s)).setCell ⟨w.heap.size,1,none⟩ (.string t))
   rw[hw9] at q HBQ
   obtain⟨q0,q1⟩:=q
   rw[hw9]
   clear r0 r1 f0 f1 hw9
   go_wp2
   refine ZoM (v:=.tuple #[Zpw s t,.int .i64 0]) (by simp[results,Tryz.f141,go_sem,q0,q1]) rfl ⟨_,_,_,rfl,?_,HBQ.out⟩
   refine .inl ⟨⟨ZcF _ _,?_,?_,?_⟩,rfl⟩
   ·rw[<- HS.out.1,HQ.out.1]
   ·rw[<- HT.out.1,HQ.out.2]
   ·unfold Fits
    rw[HQ.out.1,HQ.out.2,<- HS.out.2,<- HT.out.2]
    omega
theorem ZjE {s:ByteArray} (hd:∀ c ∈ s.data.toList,ZG c=true) {j:Nat} (hj:s.size<=4*j):(Zp 10000 (Zq s.data.toList)).length<=j:=by
 refine Zac Za (ZoS (Zb5 hd) ?_)
 have e:(10000:Nat) ^ j=10 ^ (4*j):=by rw[Nat.pow_mul]
 rw[e,Zy]
 exact ZoW Za hj
structure ROk (s t:ByteArray) (n d:Nat):Prop where
 ds:∀ c ∈ s.data.toList,ZG c=true
 dt:∀ c ∈ t.data.toList,ZG c=true
 ls:(Zp 10000 n).length<=150
 lt:(Zp 10000 d).length<=150
 pos:0<d
theorem rnok {s:ByteArray} (h:ZU s.data.toList=true):(∀ c ∈ s.data.toList,ZG c=true)/\(Zp 10000 (Zq s.data.toList)).length<=150:=by
 obtain⟨h1,h2⟩:=Zak h
 exact⟨h1.dig,ZjE h1.dig (by rw[<- Zy];omega)⟩
theorem rok {s t:ByteArray} (h:okP s t=true):ROk s t (Zq s.data.toList) (Zq t.data.toList):=by
 obtain⟨h1,h2,h3,h4⟩:=Zc0.1 h
 exact⟨(rnok h1).1,(rnok h2).1,(rnok h1).2,(rnok h2).2,h3⟩
theorem Znd {g:Nat} : ((str (Lib.decDigits g)).toList==[49])=decide (g=1):=by
 rw[Zo8,Zbv]
 by_cases h:g=1
 ·subst h;rw[Zcg];rfl
 ·have h2:¬ Lib.decDigits g=[49]:=fun hc=>h (Zdk (by rw[hc,Zcg]))
  rw[decide_eq_false h,beq_eq_false_iff_ne]
  exact h2
theorem ZbN (s t:ByteArray) (w:World) (hs:s.size<=1000000) (ht:t.size<=1000000) :
  Calls Tryz.prog 142 #[Zpw s t] w (ZfH w (okE s t)):=by
 cases h1:ZU s.data.toList
 ·have HQ:=Zpz (Zja (t:=t) h1)
  have H1:=Zpz h1
  obtain⟨b2,hb2⟩:=ZpB (ZU t.data.toList)
  have H2:=Zpz hb2
  clear h1 hb2
  go_enter Tryz.func142,Tryz.ntmps142
  go_wp2_with fail
  refine(Zau s _ hs).mono ?_
  rintro e w2 ⟨rfl,rfl⟩
  rw[H1.out]
  have HX1:=Zpz (Zv.one w (Zpx s t))
  have HB1:=Zpz ((ZoL _ w).alloc ZpA (Zpx s t))
  have c1:=HX1.out.cell 0 1 (b:=w.heap.size) rfl rfl rfl
  go_wp2_with fail
  refine(Zau t _ ht).mono ?_
  rintro e w3 ⟨rfl,rfl⟩
  rw[H2.out]
  go_wp2
  go_ret
  exact⟨by rw[ZaM HQ.out];rfl,HB1.out⟩
 ·have H1:=Zpz h1
  clear h1
  cases h2:ZU t.data.toList
  ·have HQ:=Zpz (ZhP (s:=s) h2)
   have H2:=Zpz h2
   clear h2
   go_enter Tryz.func142,Tryz.ntmps142
   go_wp2_with fail
   refine(Zau s _ hs).mono ?_
   rintro e w2 ⟨rfl,rfl⟩
   rw[H1.out]
   have HX1:=Zpz (Zv.one w (Zpx s t))
   have HB1:=Zpz ((ZoL _ w).alloc ZpA (Zpx s t))
   have c1:=HX1.out.cell 0 1 (b:=w.heap.size) rfl rfl rfl
   go_wp2_with fail
   refine(Zau t _ ht).mono ?_
   rintro e w3 ⟨rfl,rfl⟩
   rw[H2.out]
   go_wp2
   go_ret
   exact⟨by rw[ZaM HQ.out];rfl,HB1.out⟩
  ·have HZ:=Zpz (Zc2 h2)
   have H2:=Zpz h2
   clear h2
   have dl:t.toList=t.data.toList:=Zo8 ..
   by_cases h0:Zq t.data.toList=0
   ·have hz:(t.toList==[48])=true:=by
     rw[dl,HZ.out.2 h0];rfl
    have HQ:=Zpz (Zij (s:=s) h0)
    clear h0 dl
    go_enter Tryz.func142,Tryz.ntmps142
    go_wp2_with fail
    refine(Zau s _ hs).mono ?_
    rintro e w2 ⟨rfl,rfl⟩
    rw[H1.out]
    have HX1:=Zpz (Zv.one w (Zpx s t))
    have HB1:=Zpz ((ZoL _ w).alloc ZpA (Zpx s t))
    have c1:=HX1.out.cell 0 1 (b:=w.heap.size) rfl rfl rfl
    go_wp2_with fail
    refine(Zau t _ ht).mono ?_
    rintro e w3 ⟨rfl,rfl⟩
    rw[H2.out]
    go_wp2
    go_ret
    exact⟨by rw[ZaM HQ.out];rfl,HB1.out⟩
   ·have hz:(t.toList==[48])=false:=by
     rw[beq_eq_false_iff_ne,dl]
     intro hc
     refine h0 (HZ.out.1 ?_)
     rw[<- Za1 t,hc];rfl
    obtain⟨ds,ls⟩:=rnok H1.out
    obtain⟨dt,lt⟩:=rnok H2.out
    have HG:Hid ((Nat.gcd (Zq s.data.toList) (Zq t.data.toList)=1->okE s t=0)/\(Nat.gcd (Zq s.data.toList) (Zq t.data.toList)≠1->okE s t=2)):=
     ⟨fun hg=>Zbj (Zki H1.out H2.out h0 hg),fun hg=>ZaM (Zg7 hg)⟩
    obtain⟨n1,hn1⟩:=ZpB (Zq s.data.toList)
    obtain⟨d1,hd1⟩:=ZpB (Zq t.data.toList)
    have HPS:Hid (∀ W,Calls Tryz.prog 118 #[.string s] W (Zar W n1)):=fun W=>by rw[<- hn1];exact ZV s hs ds W
    have HPT:Hid (∀ W,Calls Tryz.prog 118 #[.string t] W (Zar W d1)):=fun W=>by rw[<- hd1];exact ZV t ht dt W
    have hd0:0<d1:=Za
    rw[hn1] at ls HG
    rw[hd1] at lt HG
    clear h0 dl ds dt hn1 hd1
    go_enter Tryz.func142,Tryz.ntmps142
    go_wp2_with fail
    refine(Zau s _ hs).mono ?_
    rintro e w2 ⟨rfl,rfl⟩
    rw[H1.out]
    have HX1:=Zpz (Zv.one w (Zpx s t))
    have HB1:=Zpz ((ZoL _ w).alloc ZpA (Zpx s t))
    have c1:=HX1.out.cell 0 1 (b:=w.heap.size) rfl rfl rfl
    go_wp2_with fail
    refine(Zau t _ ht).mono ?_
    rintro e w3 ⟨rfl,rfl⟩
    rw[H2.out]
    have HX1d:Hid (Zv w.heap.size [Zpx s t] (w.alloc (Zpx s t))):=HX1
    obtain⟨w1,hw1⟩:=ZpB (w.alloc (Zpx s t))
    rw[hw1] at HX1 HB1 c1 ⊢
    clear hw1 HX1d c1
    have ka1:=HX1.out.cell 0 0 (b:=w.heap.size) rfl rfl rfl
    have kb1:=HX1.out.cell 0 1 (b:=w.heap.size) rfl rfl rfl
    go_wp2_with fail
    go_region_held3
     (fun w'=>w'.cell? ⟨w.heap.size,0,none⟩=some (.string s)/\w'.cell? ⟨w.heap.size,1,none⟩=some (.string t))
     (first | exact⟨ka1,kb1⟩ | exact⟨ka2,kb2⟩ | exact⟨ka3,kb3⟩ | exact⟨ka4,kb4⟩)
     (first
      | (go_at_call_of 118 (Value.string s);refine(HPS.out _).mono ?_;rintro e w2 ⟨va,rfl,hv,hb⟩;obtain⟨pa,ma,ca,rfl⟩:=hv.form;have HA:=Zpz hv;have HX2:=Zpz (HX1.out.drew.below hb HX1.out.lt);have HB2:Zpt w w2:=HB1.out.drew.trans (hb.mono HB1.out.size);have ka2:=HX2.out.cell 0 0 (b:=w.heap.size) rfl rfl rfl;have kb2:=HX2.out.cell 0 1 (b:=w.heap.size) rfl rfl rfl;clear hv hb)
      | (go_at_call_of 118 (Value.string t);refine(HPT.out _).mono ?_;rintro e w3 ⟨vb,rfl,hv,hb⟩;obtain⟨pb,mb,cb,rfl⟩:=hv.form;have HC:=Zpz hv;have HA3:=Zpz (HA.out.after hb ZpA);have HX3:=Zpz (HX2.out.below hb HX2.out.lt);have HB3:Zpt w w3:=HB2.out.trans (hb.mono HB2.out.size);have ka3:=HX3.out.cell 0 0 (b:=w.heap.size) rfl rfl rfl;have kb3:=HX3.out.cell 0 1 (b:=w.heap.size) rfl rfl rfl;clear hv hb)
      | (go_at_call 185;refine(Zjd HA3.out HC.out Za Za).mono ?_;rintro e w4 ⟨vg,rfl,hv,hb⟩;obtain⟨pg,mg,cg,rfl⟩:=hv.form;have HGG:=Zpz hv;have HX4:=Zpz (HX3.out.below hb HX3.out.lt);have HB4:Zpt w w4:=HB3.out.trans (hb.mono HB3.out.size);have ka4:=HX4.out.cell 0 0 (b:=w.heap.size) rfl rfl rfl;have kb4:=HX4.out.cell 0 1 (b:=w.heap.size) rfl rfl rfl;clear hv hb))
    clear ka1 kb1
    have hgl:(Zp 10000 (Nat.gcd n1 d1)).length<=1000000:=ZoU (ZN Za (Nat.gcd_le_right _ hd0)) Za
    obtain⟨g,hg⟩:=ZpB (Nat.gcd n1 d1)
    rw[hg] at hgl HG HGG
    go_wp2_with fail
    refine(ZfO HGG.out hgl).mono ?_
    rintro e w5 ⟨rfl,hb5⟩
    have HB5:=Zpz (HB4.out.trans (hb5.mono HB4.out.size))
    have h1:=Znd (g:=g)
    obtain⟨z,hz1⟩:=ZpB (str (Lib.decDigits g))
    rw[hz1] at h1 ⊢
    clear hb5 hz1 hg
    by_cases hg1:g=1
    ·rw[decide_eq_true hg1] at h1
     have HG:=Zpz (HG.out.1 hg1)
     clear hg1
     go_wp2
     go_ret
     exact⟨by rw[HG.out];rfl,HB5.out⟩
    ·rw[decide_eq_false hg1] at h1
     have HG:=Zpz (HG.out.2 hg1)
     clear hg1
     go_wp2
     go_ret
     exact⟨by rw[HG.out];rfl,HB5.out⟩
def Zbs (s t u v:ByteArray):Int:=max (okE s t) (okE u v)
theorem ZdW {s t u v:ByteArray} (h:(okP s t && okP u v)=false):Zbs s t u v=2:=by
 unfold Zbs okE
 cases h1:okP s t<;>cases h2:okP u v<;>first | rfl | (rw[h1,h2] at h;exact Zpp h Zd)
theorem Zdc {s t u v:ByteArray} (h:(okP s t && okP u v)=true):Zbs s t u v=0:=by
 unfold Zbs okE
 rw[Zpj] at h
 rw[h.1,h.2];rfl
theorem Zmk {v1 v2:Value} {n m:Nat} {w:World} (h1:PNum w v1 n) (h2:PNum w v2 m) (hl1:(Zp 10000 n).length<=1000000) (hl2:(Zp 10000 m).length<=1000000) :
  Calls Tryz.prog 143 #[v1,v2] w (Zar w (n+m)):=by
 obtain⟨i0,hi,hz0,hz1,hz2⟩:=info_parts ZcW
 obtain⟨p1,c1,rfl,_,_,hp1⟩:=h1.1
 obtain⟨p2,c2,rfl,_,_,hp2⟩:=h2.1
 obtain⟨xs,hxs⟩:=ZpB (Zp 10000 n)
 obtain⟨ys,hys⟩:=ZpB (Zp 10000 m)
 have HXS:Hid (Zp 10000 n=xs/\Zp 10000 m=ys):=⟨hxs,hys⟩
 rw[hxs] at hl1 hp1 ⊢
 rw[hys] at hl2 hp2 ⊢
 have HX:Hid (∀ x ∈ xs,x<10000):=by rw[<- hxs];exact ZJ Za n
 have HY:Hid (∀ x ∈ ys,x<10000):=by rw[<- hys];exact ZJ Za m
 have HP1:=Zpz hp1
 have HP2:=Zpz hp2
 clear hxs hys hp1 hp2
 go_enter Tryz.func143,Tryz.ntmps143
 go_wp2
 go_loopw [5,6,7] (fun vo vc vi wr=>∃ (k c:Nat) (out:List Nat),vi=.int .i64 k/\vc=.int .i64 c/\k<=1000001/\c<=1/\Hid (SumInv 10000 xs ys k out c)/\Hid (Grow .i64 3 wr w.heap.size vo out)/\Hid (out.length=k)/\Zpt w wr) (fun _ vc vi _=>2*1000002-2*(intOf vi).toNat+(intOf vc).toNat)
 case atStart=>exact⟨0,0,[],rfl,rfl,Za,Za,SumInv.start _ _ _,Grow.nil,rfl,ZoL _ _⟩
 case round=>
  obtain⟨k,c,out,rfl,rfl,hk6,hc1,HI,HO,HLEN,HB⟩:=hrel
  obtain⟨po,no,co,rfl⟩:∃ p n c,u5=.slice p n c:=by obtain⟨q,c,h⟩:=HO.out.form;exact⟨_,_,_,h⟩
  by_cases hgo:k<xs.length\/k<ys.length\/0<c
  ·have hm1:k+1<=maxLen:=by unfold maxLen;omega
   have hm2:(k+1)*8<=140737488355328:=Za
   have HGO:Hid (k<(Zp 10000 n).length\/k<(Zp 10000 m).length\/0<c):=by rw[HXS.out.1,HXS.out.2];exact hgo
   have HST:Hid (∀ x,x=xs.getD k 0+c+ys.getD k 0->SumInv 10000 xs ys (k+1) (out++[x % 10000]) (x/10000)):=fun x hx=>by
    have h1:=HI.out
    have h2:=HGO.out
    obtain⟨e1,e2⟩:=HXS.out
    rw[<- e1,<- e2] at h1 hx ⊢
    exact h1.step Za hx h2
   by_cases hlt1:k<xs.length
   ·obtain⟨b1,o1,rfl,hb1,a1⟩:=HP1.out (ZoT Za)
    obtain⟨x,hx⟩:=ZpB (xs.getD k 0)
    have hxl:x<10000:=by rw[<- hx];exact ZM Za HX.out k
    have cx:wr.cell? ⟨b1,o1+k,none⟩=some (.int .i64 (x:Nat)):=(HB.out.cell (p:=⟨b1,o1+k,none⟩) hb1).trans (a1.getD hlt1 hx)
    have Hx:=Zpz hx
    clear hx a1 hgo
    by_cases hlt2:k<ys.length
    ·obtain⟨b2,o2,rfl,hb2,a2⟩:=HP2.out (ZoT Za)
     obtain⟨y,hy⟩:=ZpB (ys.getD k 0)
     have hyl:y<10000:=by rw[<- hy];exact ZM Za HY.out k
     have cy:wr.cell? ⟨b2,o2+k,none⟩=some (.int .i64 (y:Nat)):=(HB.out.cell (p:=⟨b2,o2+k,none⟩) hb2).trans (a2.getD hlt2 hy)
     have Hy:=Zpz hy
     clear hy a2
     have HS:=Zpz (HST.out (x+c+y) (by first | (rw[Hx.out,Hy.out];done) | (rw[Hx.out,Hy.out];omega)))
     have e1:((c:Int)+x+y) % 10000=(((x+c+y) % 10000:Nat):Int):=Za
     have e2:((c:Int)+x+y)/10000=(((x+c+y)/10000:Nat):Int):=Za
     have hq1:(x+c+y)/10000<=1:=Za
     have E1:=Zpz e1
     have E2:=Zpz e2
     have HQ:Hid (k+1<=1000001):=by
      have h1:=HS.out
      obtain⟨e1,e2⟩:=HXS.out
      rw[<- e1,<- e2] at h1
      exact h1.bound (by rw[e1];exact hl1) (by rw[e2];exact hl2)
     have HMS:Hid ((x+c+y)/10000<=1):=hq1
     clear e1 e2 hq1
     have hown:wr.ownsRow w.heap.size 3 1 (.slice po no co) k ((out).map fun x=>Value.int .i64 (x:Nat)):=by
      have:=HO.out;unfold Grow at this;rwa [HLEN.out] at this
     have hsz:=HB.out.size
     have hownA:=hown.alloc (.cells #[.int .i64 (((c:Int)+x+y) % 10000)] 3)
     have hm3:w.heap.size<=(wr.alloc (.cells #[.int .i64 (((c:Int)+x+y) % 10000)] 3)).heap.size:=by simp;omega
     go_wp2_with (at_builtin;go_loud (refine Zpg _ rfl _ _ 23 rfl w.heap.size 3 i0 (.int .i64 0) 1 8 Tryz.underlying23 hi hz0 hz1 hz2 rfl Zd _ k _ rfl hownA ⟨wr.heap.size,0,none⟩ 1 1 [.int .i64 (((c:Int)+x+y) % 10000)] rfl rfl (cell_one_new _ _ _) (by simp[Value.oneCell']) hm1 hm2 hm3 ?_);intro v' w1 hown1 hgrow1 _)
     have HG:Hid (Grow .i64 3 w1 w.heap.size v' (out++[(x+c+y) % 10000])):=Grow.snoc HLEN.out E1.out hown1
     have HB1:Zpt w w1:=(HB.out.alloc hsz _).grown hgrow1 hm3 (fun z hz=>(ZoZ hownA z hz).1)
     clear hown hownA hown1 hgrow1
     go_roundw
     case rel=>exact⟨k+1,_,_,by go_num,by rw[E2.out],HQ.out,HMS.out,HS,HG,by show _=_;rw[Zo2,HLEN.out];rfl,HB1⟩
     case measure=>rw[E2.out];have:=HMS.out;have:=HQ.out;simp[intOf];omega
    ·have Hy:Hid (ys.getD k 0=0):=by show _=_;simp[List.getD,hlt2]
     have HS:=Zpz (HST.out (x+c) (by first | (rw[Hx.out,Hy.out];done) | (rw[Hx.out,Hy.out];omega)))
     have e1:((c:Int)+x) % 10000=(((x+c) % 10000:Nat):Int):=Za
     have e2:((c:Int)+x)/10000=(((x+c)/10000:Nat):Int):=Za
     have hq1:(x+c)/10000<=1:=Za
     have E1:=Zpz e1
     have E2:=Zpz e2
     have HQ:Hid (k+1<=1000001):=by
      have h1:=HS.out
      obtain⟨e1,e2⟩:=HXS.out
      rw[<- e1,<- e2] at h1
      exact h1.bound (by rw[e1];exact hl1) (by rw[e2];exact hl2)
     have HMS:Hid ((x+c)/10000<=1):=hq1
     clear e1 e2 hq1
     have hown:wr.ownsRow w.heap.size 3 1 (.slice po no co) k ((out).map fun x=>Value.int .i64 (x:Nat)):=by
      have:=HO.out;unfold Grow at this;rwa [HLEN.out] at this
     have hsz:=HB.out.size
     have hownA:=hown.alloc (.cells #[.int .i64 (((c:Int)+x) % 10000)] 3)
     have hm3:w.heap.size<=(wr.alloc (.cells #[.int .i64 (((c:Int)+x) % 10000)] 3)).heap.size:=by simp;omega
     go_wp2_with (at_builtin;go_loud (refine Zpg _ rfl _ _ 23 rfl w.heap.size 3 i0 (.int .i64 0) 1 8 Tryz.underlying23 hi hz0 hz1 hz2 rfl Zd _ k _ rfl hownA ⟨wr.heap.size,0,none⟩ 1 1 [.int .i64 (((c:Int)+x) % 10000)] rfl rfl (cell_one_new _ _ _) (by simp[Value.oneCell']) hm1 hm2 hm3 ?_);intro v' w1 hown1 hgrow1 _)
     have HG:Hid (Grow .i64 3 w1 w.heap.size v' (out++[(x+c) % 10000])):=Grow.snoc HLEN.out E1.out hown1
     have HB1:Zpt w w1:=(HB.out.alloc hsz _).grown hgrow1 hm3 (fun z hz=>(ZoZ hownA z hz).1)
     clear hown hownA hown1 hgrow1
     go_roundw
     case rel=>exact⟨k+1,_,_,by go_num,by rw[E2.out],HQ.out,HMS.out,HS,HG,by show _=_;rw[Zo2,HLEN.out];rfl,HB1⟩
     case measure=>rw[E2.out];have:=HMS.out;have:=HQ.out;simp[intOf];omega
   ·have Hx:Hid (xs.getD k 0=0):=by show _=_;simp[List.getD,hlt1]
    by_cases hlt2:k<ys.length
    ·obtain⟨b2,o2,rfl,hb2,a2⟩:=HP2.out (ZoT Za)
     obtain⟨y,hy⟩:=ZpB (ys.getD k 0)
     have hyl:y<10000:=by rw[<- hy];exact ZM Za HY.out k
     have cy:wr.cell? ⟨b2,o2+k,none⟩=some (.int .i64 (y:Nat)):=(HB.out.cell (p:=⟨b2,o2+k,none⟩) hb2).trans (a2.getD hlt2 hy)
     have Hy:=Zpz hy
     clear hy a2 hgo
     have HS:=Zpz (HST.out (c+y) (by first | (rw[Hx.out,Hy.out];done) | (rw[Hx.out,Hy.out];omega)))
     have e1:((c:Int)+y) % 10000=(((c+y) % 10000:Nat):Int):=Za
     have e2:((c:Int)+y)/10000=(((c+y)/10000:Nat):Int):=Za
     have hq1:(c+y)/10000<=1:=Za
     have E1:=Zpz e1
     have E2:=Zpz e2
     have HQ:Hid (k+1<=1000001):=by
      have h1:=HS.out
      obtain⟨e1,e2⟩:=HXS.out
      rw[<- e1,<- e2] at h1
      exact h1.bound (by rw[e1];exact hl1) (by rw[e2];exact hl2)
     have HMS:Hid ((c+y)/10000<=1):=hq1
     clear e1 e2 hq1
     have hown:wr.ownsRow w.heap.size 3 1 (.slice po no co) k ((out).map fun x=>Value.int .i64 (x:Nat)):=by
      have:=HO.out;unfold Grow at this;rwa [HLEN.out] at this
     have hsz:=HB.out.size
     have hownA:=hown.alloc (.cells #[.int .i64 (((c:Int)+y) % 10000)] 3)
     have hm3:w.heap.size<=(wr.alloc (.cells #[.int .i64 (((c:Int)+y) % 10000)] 3)).heap.size:=by simp;omega
     go_wp2_with (at_builtin;go_loud (refine Zpg _ rfl _ _ 23 rfl w.heap.size 3 i0 (.int .i64 0) 1 8 Tryz.underlying23 hi hz0 hz1 hz2 rfl Zd _ k _ rfl hownA ⟨wr.heap.size,0,none⟩ 1 1 [.int .i64 (((c:Int)+y) % 10000)] rfl rfl (cell_one_new _ _ _) (by simp[Value.oneCell']) hm1 hm2 hm3 ?_);intro v' w1 hown1 hgrow1 _)
     have HG:Hid (Grow .i64 3 w1 w.heap.size v' (out++[(c+y) % 10000])):=Grow.snoc HLEN.out E1.out hown1
     have HB1:Zpt w w1:=(HB.out.alloc hsz _).grown hgrow1 hm3 (fun z hz=>(ZoZ hownA z hz).1)
     clear hown hownA hown1 hgrow1
     go_roundw
     case rel=>exact⟨k+1,_,_,by go_num,by rw[E2.out],HQ.out,HMS.out,HS,HG,by show _=_;rw[Zo2,HLEN.out];rfl,HB1⟩
     case measure=>rw[E2.out];have:=HMS.out;have:=HQ.out;simp[intOf];omega
    ·have Hy:Hid (ys.getD k 0=0):=by show _=_;simp[List.getD,hlt2]
     have hc0:(0:Int)<c:=Za
     clear hgo
     have HS:=Zpz (HST.out (c) (by first | (rw[Hx.out,Hy.out];done) | (rw[Hx.out,Hy.out];omega)))
     have e1:((c:Int)) % 10000=(((c) % 10000:Nat):Int):=Za
     have e2:((c:Int))/10000=(((c)/10000:Nat):Int):=Za
     have hq1:(c)/10000<=1:=Za
     have E1:=Zpz e1
     have E2:=Zpz e2
     have HQ:Hid (k+1<=1000001):=by
      have h1:=HS.out
      obtain⟨e1,e2⟩:=HXS.out
      rw[<- e1,<- e2] at h1
      exact h1.bound (by rw[e1];exact hl1) (by rw[e2];exact hl2)
     have HMS:Hid ((c)/10000<=1):=hq1
     clear e1 e2 hq1
     have hown:wr.ownsRow w.heap.size 3 1 (.slice po no co) k ((out).map fun x=>Value.int .i64 (x:Nat)):=by
      have:=HO.out;unfold Grow at this;rwa [HLEN.out] at this
     have hsz:=HB.out.size
     have hownA:=hown.alloc (.cells #[.int .i64 (((c:Int)) % 10000)] 3)
     have hm3:w.heap.size<=(wr.alloc (.cells #[.int .i64 (((c:Int)) % 10000)] 3)).heap.size:=by simp;omega
     go_wp2_with (at_builtin;go_loud (refine Zpg _ rfl _ _ 23 rfl w.heap.size 3 i0 (.int .i64 0) 1 8 Tryz.underlying23 hi hz0 hz1 hz2 rfl Zd _ k _ rfl hownA ⟨wr.heap.size,0,none⟩ 1 1 [.int .i64 (((c:Int)) % 10000)] rfl rfl (cell_one_new _ _ _) (by simp[Value.oneCell']) hm1 hm2 hm3 ?_);intro v' w1 hown1 hgrow1 _)
     have HG:Hid (Grow .i64 3 w1 w.heap.size v' (out++[(c) % 10000])):=Grow.snoc HLEN.out E1.out hown1
     have HB1:Zpt w w1:=(HB.out.alloc hsz _).grown hgrow1 hm3 (fun z hz=>(ZoZ hownA z hz).1)
     clear hown hownA hown1 hgrow1
     go_roundw
     case rel=>exact⟨k+1,_,_,by go_num,by rw[E2.out],HQ.out,HMS.out,HS,HG,by show _=_;rw[Zo2,HLEN.out];rfl,HB1⟩
     case measure=>rw[E2.out];have:=HMS.out;have:=HQ.out;simp[intOf];omega
  ·have hc0:c=0:=Za
   subst hc0
   have hn1:¬ (k:Int)<xs.length:=Za
   have hn2:¬ (k:Int)<ys.length:=Za
   have HD:Hid (out=Zp 10000 (n+m)):=by
    have h1:=HI.out
    obtain⟨e1,e2⟩:=HXS.out
    rw[<- e1,<- e2] at h1
    exact h1.done Za (by rw[e1];omega) (by rw[e2];omega)
   clear hgo
   go_wp2
   go_ret
   refine⟨_,rfl,?_,HB.out⟩
   have:=HO.out.nums
   rw[HD.out] at this
   exact⟨this,HO.out.pform⟩
end Go.Proofs.YtmpaflidennnoaaGreatDoor
