/- The parts RPlus, RTwo. -/
import Derived.Test.YtmpaflidennnoaaGreatDoorH18
set_option maxRecDepth 100000
set_option maxHeartbeats 4000000
set_option linter.unusedVariables false
set_option linter.unusedSimpArgs false
namespace Go.Proofs.YtmpaflidennnoaaGreatDoor
open Go.RowKit Go.Shelf
attribute [local go_sem ↓] Go.wp_at_zero Go.wp_at_succ
theorem ZlF {v1 v2:Value} {n m:Nat} {w:World} (h1:PNum w v1 n) (h2:PNum w v2 m) (hl1:(Zp 10000 n).length<=1000000) (hl2:(Zp 10000 m).length<=1000000) :
  Calls Tryz.prog 143 #[v1,v2] w (Zao w (n+m)):=by
 obtain⟨i0,hi,hz0,hz1,hz2⟩:=info_parts ZcR
 obtain⟨p1,c1,rfl,_,_,hp1⟩:=h1.1
 obtain⟨p2,c2,rfl,_,_,hp2⟩:=h2.1
 obtain⟨xs,hxs⟩:=Zpg (Zp 10000 n)
 obtain⟨ys,hys⟩:=Zpg (Zp 10000 m)
 have HXS:Hid (Zp 10000 n=xs/\Zp 10000 m=ys):=⟨hxs,hys⟩
 rw[hxs] at hl1 hp1 ⊢
 rw[hys] at hl2 hp2 ⊢
 have HX:Hid (∀ x ∈ xs,x<10000):=by rw[<- hxs];exact ZI Za n
 have HY:Hid (∀ x ∈ ys,x<10000):=by rw[<- hys];exact ZI Za m
 have HP1:=Zpe hp1
 have HP2:=Zpe hp2
 clear hxs hys hp1 hp2
 go_enter Tryz.func143,Tryz.ntmps143
 go_wp2
 go_loopw [5,6,7] (fun vo vc vi wr=>∃ (k c:Nat) (out:List Nat),vi=.int .i64 k/\vc=.int .i64 c/\k<=1000001/\c<=1/\Hid (SumInv 10000 xs ys k out c)/\Hid (Grow .i64 3 wr w.heap.size vo out)/\Hid (out.length=k)/\Zo8 w wr) (fun _ vc vi _=>2*1000002-2*(intOf vi).toNat+(intOf vc).toNat)
 case atStart=>exact⟨0,0,[],rfl,rfl,Za,Za,SumInv.start _ _ _,Grow.nil,rfl,Zoq _ _⟩
 case round=>
  obtain⟨k,c,out,rfl,rfl,hk6,hc1,HI,HO,HLEN,HB⟩:=hrel
  obtain⟨po,no,co,rfl⟩:∃ p n c,u5=.slice p n c:=by obtain⟨q,c,h⟩:=HO.out.form;exact⟨_,_,_,h⟩
  by_cases hgo:k<xs.length\/k<ys.length\/0<c
  ·have hm1:k+1<=maxLen:=by unfold maxLen;omega
   have hm2:(k+1)*8<=140737488355328:=Za
   have HGO:Hid (k<(Zp 10000 n).length\/k<(Zp 10000 m).length\/0<c):=by rw[HXS.out.1,HXS.out.2];exact hgo
   have HST:Hid (∀ x,x=xs.getD k 0+c+ys.getD k 0->SumInv 10000 xs ys (k+1) (out++[x % 10000]) (x/10000)):=fun x hx=>by
    have h1:=HI.out
    have h2:=HGO.out
    obtain⟨e1,e2⟩:=HXS.out
    rw[<- e1,<- e2] at h1 hx ⊢
    exact h1.step Za hx h2
   by_cases hlt1:k<xs.length
   ·obtain⟨b1,o1,rfl,hb1,a1⟩:=HP1.out (Zoy Za)
    obtain⟨x,hx⟩:=Zpg (xs.getD k 0)
    have hxl:x<10000:=by rw[<- hx];exact ZM Za HX.out k
    have cx:wr.cell? ⟨b1,o1+k,none⟩=some (.int .i64 (x:Nat)):=(HB.out.cell (p:=⟨b1,o1+k,none⟩) hb1).trans (a1.getD hlt1 hx)
    have Hx:=Zpe hx
    clear hx a1 hgo
    by_cases hlt2:k<ys.length
    ·obtain⟨b2,o2,rfl,hb2,a2⟩:=HP2.out (Zoy Za)
     obtain⟨y,hy⟩:=Zpg (ys.getD k 0)
     have hyl:y<10000:=by rw[<- hy];exact ZM Za HY.out k
     have cy:wr.cell? ⟨b2,o2+k,none⟩=some (.int .i64 (y:Nat)):=(HB.out.cell (p:=⟨b2,o2+k,none⟩) hb2).trans (a2.getD hlt2 hy)
     have Hy:=Zpe hy
     clear hy a2
     have HS:=Zpe (HST.out (x+c+y) (by first | (rw[Hx.out,Hy.out];done) | (rw[Hx.out,Hy.out];omega)))
     have e1:((c:Int)+x+y) % 10000=(((x+c+y) % 10000:Nat):Int):=Za
     have e2:((c:Int)+x+y)/10000=(((x+c+y)/10000:Nat):Int):=Za
     have hq1:(x+c+y)/10000<=1:=Za
     have E1:=Zpe e1
     have E2:=Zpe e2
     have HQ:Hid (k+1<=1000001):=by
      have h1:=HS.out
      obtain⟨e1,e2⟩:=HXS.out
      rw[<- e1,<- e2] at h1
      exact h1.bound (by rw[e1];exact hl1) (by rw[e2];exact hl2)
     have HMS:Hid ((x+c+y)/10000<=1):=hq1
     clear e1 e2 hq1
     have hown:wr.ownsRow w.heap.size 3 1 (.slice po no co) k ((out).map fun x=>Value.int .i64 (x:Nat)):=by
      have:=HO.out;unfold Grow at this;rwa [HLEN.out] at this
     have hsz:=HB.out.size
     have hownA:=hown.alloc (.cells #[.int .i64 (((c:Int)+x+y) % 10000)] 3)
     have hm3:w.heap.size<=(wr.alloc (.cells #[.int .i64 (((c:Int)+x+y) % 10000)] 3)).heap.size:=by simp;omega
     go_wp2_with (at_builtin;go_loud (refine ZoV _ rfl _ _ 23 rfl w.heap.size 3 i0 (.int .i64 0) 1 8 Tryz.underlying23 hi hz0 hz1 hz2 rfl Zd _ k _ rfl hownA ⟨wr.heap.size,0,none⟩ 1 1 [.int .i64 (((c:Int)+x+y) % 10000)] rfl rfl (cell_one_new _ _ _) (by simp[Value.oneCell']) hm1 hm2 hm3 ?_);intro v' w1 hown1 hgrow1 _)
     have HG:Hid (Grow .i64 3 w1 w.heap.size v' (out++[(x+c+y) % 10000])):=Grow.snoc HLEN.out E1.out hown1
     have HB1:Zo8 w w1:=(HB.out.alloc hsz _).grown hgrow1 hm3 (fun z hz=>(ZoE hownA z hz).1)
     clear hown hownA hown1 hgrow1
     go_roundw
     case rel=>exact⟨k+1,_,_,by go_num,by rw[E2.out],HQ.out,HMS.out,HS,HG,by show _=_;rw[ZoH,HLEN.out];rfl,HB1⟩
     case measure=>rw[E2.out];have:=HMS.out;have:=HQ.out;simp[intOf];omega
    ·have Hy:Hid (ys.getD k 0=0):=by show _=_;simp[List.getD,hlt2]
     have HS:=Zpe (HST.out (x+c) (by first | (rw[Hx.out,Hy.out];done) | (rw[Hx.out,Hy.out];omega)))
     have e1:((c:Int)+x) % 10000=(((x+c) % 10000:Nat):Int):=Za
     have e2:((c:Int)+x)/10000=(((x+c)/10000:Nat):Int):=Za
     have hq1:(x+c)/10000<=1:=Za
     have E1:=Zpe e1
     have E2:=Zpe e2
     have HQ:Hid (k+1<=1000001):=by
      have h1:=HS.out
      obtain⟨e1,e2⟩:=HXS.out
      rw[<- e1,<- e2] at h1
      exact h1.bound (by rw[e1];exact hl1) (by rw[e2];exact hl2)
     have HMS:Hid ((x+c)/10000<=1):=hq1
     clear e1 e2 hq1
     have hown:wr.ownsRow w.heap.size 3 1 (.slice po no co) k ((out).map fun x=>Value.int .i64 (x:Nat)):=by
      have:=HO.out;unfold Grow at this;rwa [HLEN.out] at this
     have hsz:=HB.out.size
     have hownA:=hown.alloc (.cells #[.int .i64 (((c:Int)+x) % 10000)] 3)
     have hm3:w.heap.size<=(wr.alloc (.cells #[.int .i64 (((c:Int)+x) % 10000)] 3)).heap.size:=by simp;omega
     go_wp2_with (at_builtin;go_loud (refine ZoV _ rfl _ _ 23 rfl w.heap.size 3 i0 (.int .i64 0) 1 8 Tryz.underlying23 hi hz0 hz1 hz2 rfl Zd _ k _ rfl hownA ⟨wr.heap.size,0,none⟩ 1 1 [.int .i64 (((c:Int)+x) % 10000)] rfl rfl (cell_one_new _ _ _) (by simp[Value.oneCell']) hm1 hm2 hm3 ?_);intro v' w1 hown1 hgrow1 _)
     have HG:Hid (Grow .i64 3 w1 w.heap.size v' (out++[(x+c) % 10000])):=Grow.snoc HLEN.out E1.out hown1
     have HB1:Zo8 w w1:=(HB.out.alloc hsz _).grown hgrow1 hm3 (fun z hz=>(ZoE hownA z hz).1)
     clear hown hownA hown1 hgrow1
     go_roundw
     case rel=>exact⟨k+1,_,_,by go_num,by rw[E2.out],HQ.out,HMS.out,HS,HG,by show _=_;rw[ZoH,HLEN.out];rfl,HB1⟩
     case measure=>rw[E2.out];have:=HMS.out;have:=HQ.out;simp[intOf];omega
   ·have Hx:Hid (xs.getD k 0=0):=by show _=_;simp[List.getD,hlt1]
    by_cases hlt2:k<ys.length
    ·obtain⟨b2,o2,rfl,hb2,a2⟩:=HP2.out (Zoy Za)
     obtain⟨y,hy⟩:=Zpg (ys.getD k 0)
     have hyl:y<10000:=by rw[<- hy];exact ZM Za HY.out k
     have cy:wr.cell? ⟨b2,o2+k,none⟩=some (.int .i64 (y:Nat)):=(HB.out.cell (p:=⟨b2,o2+k,none⟩) hb2).trans (a2.getD hlt2 hy)
     have Hy:=Zpe hy
     clear hy a2 hgo
     have HS:=Zpe (HST.out (c+y) (by first | (rw[Hx.out,Hy.out];done) | (rw[Hx.out,Hy.out];omega)))
     have e1:((c:Int)+y) % 10000=(((c+y) % 10000:Nat):Int):=Za
     have e2:((c:Int)+y)/10000=(((c+y)/10000:Nat):Int):=Za
     have hq1:(c+y)/10000<=1:=Za
     have E1:=Zpe e1
     have E2:=Zpe e2
     have HQ:Hid (k+1<=1000001):=by
      have h1:=HS.out
      obtain⟨e1,e2⟩:=HXS.out
      rw[<- e1,<- e2] at h1
      exact h1.bound (by rw[e1];exact hl1) (by rw[e2];exact hl2)
     have HMS:Hid ((c+y)/10000<=1):=hq1
     clear e1 e2 hq1
     have hown:wr.ownsRow w.heap.size 3 1 (.slice po no co) k ((out).map fun x=>Value.int .i64 (x:Nat)):=by
      have:=HO.out;unfold Grow at this;rwa [HLEN.out] at this
     have hsz:=HB.out.size
     have hownA:=hown.alloc (.cells #[.int .i64 (((c:Int)+y) % 10000)] 3)
     have hm3:w.heap.size<=(wr.alloc (.cells #[.int .i64 (((c:Int)+y) % 10000)] 3)).heap.size:=by simp;omega
     go_wp2_with (at_builtin;go_loud (refine ZoV _ rfl _ _ 23 rfl w.heap.size 3 i0 (.int .i64 0) 1 8 Tryz.underlying23 hi hz0 hz1 hz2 rfl Zd _ k _ rfl hownA ⟨wr.heap.size,0,none⟩ 1 1 [.int .i64 (((c:Int)+y) % 10000)] rfl rfl (cell_one_new _ _ _) (by simp[Value.oneCell']) hm1 hm2 hm3 ?_);intro v' w1 hown1 hgrow1 _)
     have HG:Hid (Grow .i64 3 w1 w.heap.size v' (out++[(c+y) % 10000])):=Grow.snoc HLEN.out E1.out hown1
     have HB1:Zo8 w w1:=(HB.out.alloc hsz _).grown hgrow1 hm3 (fun z hz=>(ZoE hownA z hz).1)
     clear hown hownA hown1 hgrow1
     go_roundw
     case rel=>exact⟨k+1,_,_,by go_num,by rw[E2.out],HQ.out,HMS.out,HS,HG,by show _=_;rw[ZoH,HLEN.out];rfl,HB1⟩
     case measure=>rw[E2.out];have:=HMS.out;have:=HQ.out;simp[intOf];omega
    ·have Hy:Hid (ys.getD k 0=0):=by show _=_;simp[List.getD,hlt2]
     have hc0:(0:Int)<c:=Za
     clear hgo
     have HS:=Zpe (HST.out (c) (by first | (rw[Hx.out,Hy.out];done) | (rw[Hx.out,Hy.out];omega)))
     have e1:((c:Int)) % 10000=(((c) % 10000:Nat):Int):=Za
     have e2:((c:Int))/10000=(((c)/10000:Nat):Int):=Za
     have hq1:(c)/10000<=1:=Za
     have E1:=Zpe e1
     have E2:=Zpe e2
     have HQ:Hid (k+1<=1000001):=by
      have h1:=HS.out
      obtain⟨e1,e2⟩:=HXS.out
      rw[<- e1,<- e2] at h1
      exact h1.bound (by rw[e1];exact hl1) (by rw[e2];exact hl2)
     have HMS:Hid ((c)/10000<=1):=hq1
     clear e1 e2 hq1
     have hown:wr.ownsRow w.heap.size 3 1 (.slice po no co) k ((out).map fun x=>Value.int .i64 (x:Nat)):=by
      have:=HO.out;unfold Grow at this;rwa [HLEN.out] at this
     have hsz:=HB.out.size
     have hownA:=hown.alloc (.cells #[.int .i64 (((c:Int)) % 10000)] 3)
     have hm3:w.heap.size<=(wr.alloc (.cells #[.int .i64 (((c:Int)) % 10000)] 3)).heap.size:=by simp;omega
     go_wp2_with (at_builtin;go_loud (refine ZoV _ rfl _ _ 23 rfl w.heap.size 3 i0 (.int .i64 0) 1 8 Tryz.underlying23 hi hz0 hz1 hz2 rfl Zd _ k _ rfl hownA ⟨wr.heap.size,0,none⟩ 1 1 [.int .i64 (((c:Int)) % 10000)] rfl rfl (cell_one_new _ _ _) (by simp[Value.oneCell']) hm1 hm2 hm3 ?_);intro v' w1 hown1 hgrow1 _)
     have HG:Hid (Grow .i64 3 w1 w.heap.size v' (out++[(c) % 10000])):=Grow.snoc HLEN.out E1.out hown1
     have HB1:Zo8 w w1:=(HB.out.alloc hsz _).grown hgrow1 hm3 (fun z hz=>(ZoE hownA z hz).1)
     clear hown hownA hown1 hgrow1
     go_roundw
     case rel=>exact⟨k+1,_,_,by go_num,by rw[E2.out],HQ.out,HMS.out,HS,HG,by show _=_;rw[ZoH,HLEN.out];rfl,HB1⟩
     case measure=>rw[E2.out];have:=HMS.out;have:=HQ.out;simp[intOf];omega
  ·have hc0:c=0:=Za
   subst hc0
   have hn1:¬ (k:Int)<xs.length:=Za
   have hn2:¬ (k:Int)<ys.length:=Za
   have HD:Hid (out=Zp 10000 (n+m)):=by
    have h1:=HI.out
    obtain⟨e1,e2⟩:=HXS.out
    rw[<- e1,<- e2] at h1
    exact h1.done Za (by rw[e1];omega) (by rw[e2];omega)
   clear hgo
   go_wp2
   go_ret
   refine⟨_,rfl,?_,HB.out⟩
   have:=HO.out.nums
   rw[HD.out] at this
   exact⟨this,HO.out.pform⟩
theorem ZaT (s t u v:ByteArray) (w:World) (hs:s.size<=1000000) (ht:t.size<=1000000) (hu:u.size<=1000000) (hv:v.size<=1000000) :
  Calls Tryz.prog 115 #[Zpb s t,Zpb u v] w (ZfB w (Zbl s t u v)):=by
 obtain⟨c1,hc1⟩:=Zpg (okE s t)
 obtain⟨c2,hc2⟩:=Zpg (okE u v)
 have HM:Hid (max c1 c2=Zbl s t u v):=by show _=_;unfold Zbl;rw[hc1,hc2]
 have HC1:=Zpe hc1
 have HC2:=Zpe hc2
 clear hc1 hc2
 go_enter Tryz.func115,Tryz.ntmps115
 go_wp2_with fail
 obtain⟨w1,hw1⟩:=Zpg ((w.alloc (Zpc s t)).alloc (Zpc u v))
 rw[hw1]
 have HX1:Hid (Zv w.heap.size [Zpc s t,Zpc u v] w1):=by rw[<- hw1];exact Zv.two w _ _
 have HB1:Zo8 w w1:=by rw[<- hw1];exact((Zoq _ w).alloc Zpf _).alloc Zc _
 clear hw1
 have k1:=HX1.out.f4
 obtain⟨ka1,kb1,kc1,kd1⟩:=id k1
 go_region_held3
  (fun w'=>w'.cell? ⟨w.heap.size,0,none⟩=some (.string s)/\w'.cell? ⟨w.heap.size,1,none⟩=some (.string t)/\w'.cell? ⟨w.heap.size+1,0,none⟩=some (.string u)/\w'.cell? ⟨w.heap.size+1,1,none⟩=some (.string v))
  (first | exact k1 | exact k2 | exact k3 | exact k4 | exact k5 | exact k6 | exact k7 | exact k8 | exact ZaQ Za Za k9 _ _ | exact k9)
  (first
   | (go_at_call_of 142 (Value.agg #[.string s,.string t]);refine(ZbF s t _ hs ht).mono ?_;rintro e w2 ⟨rfl,hb⟩;rw[HC1.out];have HX2:=Zpe (HX1.out.drew.below hb HX1.out.lt);have HB2:Zo8 w w2:=HB1.out.drew.trans (hb.mono HB1.out.size);have k2:=HX2.out.f4;clear hb)
   | (go_at_call_of 142 (Value.agg #[.string u,.string v]);refine(ZbF u v _ hu hv).mono ?_;rintro e w3 ⟨rfl,hb⟩;rw[HC2.out];have HX3:=Zpe (HX2.out.below hb HX2.out.lt);have HB3:Zo8 w w3:=HB2.out.trans (hb.mono HB2.out.size);have k3:=HX3.out.f4;clear hb))
 go_wp2
 go_ret
 exact⟨by rw[<- HM.out];rfl,HB3.out⟩
theorem Zlt {n m k:Nat} (h1:(Zp 10000 n).length<=k) (h2:(Zp 10000 m).length<=k):(Zp 10000 (n+m)).length<=k+1:=by
 refine Zab Za ?_
 have a1:=Z6 (ZI (B:=10000) Za n)
 have a2:=Z6 (ZI (B:=10000) Za m)
 rw[ZA Za] at a1 a2
 have b1:=ZoB (n:=10000) Za h1
 have b2:=ZoB (n:=10000) Za h2
 rw[ZoX]
 omega
theorem Zom (s t u v:ByteArray) (w:World) (hs:s.size<=1000000) (ht:t.size<=1000000) (hu:u.size<=1000000) (hv:v.size<=1000000) :
  Calls Tryz.prog 86 #[Zpb s t,Zpb u v] w (ZL (Bi s t u v (Ans (mkRat ((Zq s.data.toList*Zq u.data.toList:Nat):Int) (Zq t.data.toList*Zq v.data.toList)))) w):=by
 cases hq:(okP s t && okP u v)
 ·skip
  have HQ:Hid (Zbl s t u v=2):=ZdO hq
  have HK:=Zpe hq
  clear hq
  go_enter Tryz.func86,Tryz.ntmps86
  go_wp2_with fail
  obtain⟨w1,hw1⟩:=Zpg (((w.alloc (Zpc s t)).alloc (Zpc u v)).alloc (Zpc Zpa Zpa))
  rw[hw1]
  have HX1:Hid (Zv w.heap.size [Zpc s t,Zpc u v,Zpc Zpa Zpa] w1):=by rw[<- hw1];exact Zv.three w _ _ _
  have HB1:Zo8 w w1:=by rw[<- hw1];exact(((Zoq _ w).alloc Zpf _).alloc Zc _).alloc (by simp<;>omega) _
  clear hw1
  refine(ZaT s t u v _ hs ht hu hv).mono ?_
  rintro e w2 ⟨rfl,hb2⟩
  rw[HQ.out]
  have HX2:=Zpe (HX1.out.below hb2 HX1.out.lt)
  have HB2:=Zpe (HB1.out.trans (hb2.mono HB1.out.size))
  clear hb2
  have r0:=HX2.out.cell 2 0 (b:=w.heap.size+1+1) rfl rfl rfl
  have r1:=HX2.out.cell 2 1 (b:=w.heap.size+1+1) rfl rfl rfl
  have f0:=HX2.out.free 2 0 (b:=w.heap.size+1+1) rfl rfl
  have f1:=HX2.out.free 2 1 (b:=w.heap.size+1+1) rfl rfl
  go_wp2
  have q:=Zu (HX2.out.block 2 (b:=w.heap.size+1+1) rfl rfl) (.string Zpa) (.string Zpa)
  have HBQ:=Zpe (Zs HB2.out (b:=w.heap.size+1+1) Za (.string Zpa) (.string Zpa))
  refine Zor (v:=.tuple #[Zpb Zpa Zpa,.int .i64 2]) (by simp[results,Tryz.f86,go_sem,q.1,q.2]) rfl ⟨_,_,_,rfl,.inl ⟨HK.out,rfl,rfl,rfl⟩,HBQ.out⟩
 ·skip
  have HQ:Hid (Zbl s t u v=0):=Zda hq
  have HK:=Zpe hq
  have hq2:=hq
  rw[ZoY] at hq2
  have g1:=rok hq2.1
  have g2:=rok hq2.2
  obtain⟨n1,hn1⟩:=Zpg (Zq s.data.toList)
  obtain⟨d1,hd1⟩:=Zpg (Zq t.data.toList)
  obtain⟨n2,hn2⟩:=Zpg (Zq u.data.toList)
  obtain⟨d2,hd2⟩:=Zpg (Zq v.data.toList)
  rw[hn1,hd1] at g1
  rw[hn2,hd2] at g2
  have HPS:Hid (∀ W,Calls Tryz.prog 118 #[.string s] W (Zao W n1)):=fun W=>by rw[<- hn1];exact ZX s hs g1.ds W
  have HPT:Hid (∀ W,Calls Tryz.prog 118 #[.string t] W (Zao W d1)):=fun W=>by rw[<- hd1];exact ZX t ht g1.dt W
  have HPU:Hid (∀ W,Calls Tryz.prog 118 #[.string u] W (Zao W n2)):=fun W=>by rw[<- hn2];exact ZX u hu g2.ds W
  have HPV:Hid (∀ W,Calls Tryz.prog 118 #[.string v] W (Zao W d2)):=fun W=>by rw[<- hd2];exact ZX v hv g2.dt W
  have l1:=g1.ls
  have l2:=g1.lt
  have l3:=g2.ls
  have l4:=g2.lt
  have z1:=g1.pos
  have z2:=g2.pos
  rw[hn1,hd1,hn2,hd2]
  have HN:=Zpe (Zo5 hn1 (Zo5 hd1 (Zo5 hn2 hd2)))
  clear hq hq2 g1 g2 hn1 hd1 hn2 hd2
  have HL1:Hid ((Zp 10000 (n1*n2)).length<=100000):=Zoz (ZaB l1 l3) Za
  have HL2:Hid ((Zp 10000 (d1*d2)).length<=100000):=Zoz (ZaB l2 l4) Za
  have HD0:Hid (0<d1*d2):=Nat.mul_pos z1 z2
  go_enter Tryz.func86,Tryz.ntmps86
  go_wp2_with fail
  obtain⟨w1,hw1⟩:=Zpg (((w.alloc (Zpc s t)).alloc (Zpc u v)).alloc (Zpc Zpa Zpa))
  rw[hw1]
  have HX1:Hid (Zv w.heap.size [Zpc s t,Zpc u v,Zpc Zpa Zpa] w1):=by rw[<- hw1];exact Zv.three w _ _ _
  have HB1:Zo8 w w1:=by rw[<- hw1];exact(((Zoq _ w).alloc Zpf _).alloc Zc _).alloc (by simp<;>omega) _
  clear hw1
  refine(ZaT s t u v _ hs ht hu hv).mono ?_
  rintro e w2 ⟨rfl,hb2⟩
  rw[HQ.out]
  have HX2:=Zpe (HX1.out.below hb2 HX1.out.lt)
  have HB2:=Zpe (HB1.out.trans (hb2.mono HB1.out.size))
  clear hb2
  have k2:=HX2.out.f4
  obtain⟨ka2,kb2,kc2,kd2⟩:=id k2
  go_wp2_with fail
  go_region_held3
   (fun w'=>w'.cell? ⟨w.heap.size,0,none⟩=some (.string s)/\w'.cell? ⟨w.heap.size,1,none⟩=some (.string t)/\w'.cell? ⟨w.heap.size+1,0,none⟩=some (.string u)/\w'.cell? ⟨w.heap.size+1,1,none⟩=some (.string v))
   (first | exact k1 | exact k2 | exact k3 | exact k4 | exact k5 | exact k6 | exact k7 | exact k8 | exact ZaQ Za Za k9 _ _ | exact k9)
   (first
    | (go_at_call_of 118 (Value.string s);refine(HPS.out _).mono ?_;rintro e w3 ⟨va,rfl,hv,hb⟩;obtain⟨pa,ma,ca,rfl⟩:=hv.form;have NA:=Zpe hv;have HX3:=Zpe (HX2.out.drew.below hb HX2.out.lt);have HB3:Zo8 w w3:=HB2.out.drew.trans (hb.mono HB2.out.drew.size);have k3:=HX3.out.f4;clear hv hb)
    | (go_at_call_of 118 (Value.string u);refine(HPU.out _).mono ?_;rintro e w4 ⟨vb,rfl,hv,hb⟩;obtain⟨pb,mb,cb,rfl⟩:=hv.form;have NB:=Zpe hv;have NA4:=Zpe (NA.out.after hb Zpf);have HX4:=Zpe (HX3.out.below hb HX3.out.lt);have HB4:Zo8 w w4:=HB3.out.trans (hb.mono HB3.out.size);have k4:=HX4.out.f4;clear hv hb)
    | (go_at_call_of 117 (Value.slice pa ma ca);refine(Zam NA4.out NB.out Za Za).mono ?_;rintro e w5 ⟨vc,rfl,hv,hb⟩;obtain⟨pc,mc,cc,rfl⟩:=hv.form;have NC:=Zpe hv;have HX5:=Zpe (HX4.out.below hb HX4.out.lt);have HB5:Zo8 w w5:=HB4.out.trans (hb.mono HB4.out.size);have k5:=HX5.out.f4;clear hv hb)
    | (go_at_call_of 118 (Value.string t);refine(HPT.out _).mono ?_;rintro e w6 ⟨vd,rfl,hv,hb⟩;obtain⟨pd,md,cd,rfl⟩:=hv.form;have ND:=Zpe hv;have NC6:=Zpe (NC.out.after hb Zpf);have HX6:=Zpe (HX5.out.below hb HX5.out.lt);have HB6:Zo8 w w6:=HB5.out.trans (hb.mono HB5.out.size);have k6:=HX6.out.f4;clear hv hb)
    | (go_at_call_of 118 (Value.string v);refine(HPV.out _).mono ?_;rintro e w7 ⟨ve,rfl,hv,hb⟩;obtain⟨pe,me,ce,rfl⟩:=hv.form;have NE:=Zpe hv;have NC7:=Zpe (NC6.out.after hb Zpf);have ND7:=Zpe (ND.out.after hb Zpf);have HX7:=Zpe (HX6.out.below hb HX6.out.lt);have HB7:Zo8 w w7:=HB6.out.trans (hb.mono HB6.out.size);have k7:=HX7.out.f4;clear hv hb)
    | (go_at_call_of 117 (Value.slice pd md cd);refine(Zam ND7.out NE.out Za Za).mono ?_;rintro e w8 ⟨vf,rfl,hv,hb⟩;obtain⟨pf,mf,cf,rfl⟩:=hv.form;have NF:=Zpe hv;have NC8:=Zpe (NC7.out.after hb Zpf);have HX8:=Zpe (HX7.out.below hb HX7.out.lt);have HB8:Zo8 w w8:=HB7.out.trans (hb.mono HB7.out.size);have k8:=HX8.out.f4;clear hv hb)
    | (go_at_call 141;refine(ZdI NC8.out NF.out HL1.out HL2.out HD0.out).mono ?_;rintro e w9 ⟨x,y,n,rfl,hR,hb9⟩;have HR:=Zpe hR;have HX9:=Zpe (HX8.out.below hb9 HX8.out.lt);have HB9:Zo8 w w9:=HB8.out.trans (hb9.mono HB8.out.size);have k9:=HX9.out.f4;have r0:=HX9.out.cell 2 0 (b:=w.heap.size+1+1) rfl rfl rfl;have r1:=HX9.out.cell 2 1 (b:=w.heap.size+1+1) rfl rfl rfl;have f0:=HX9.out.free 2 0 (b:=w.heap.size+1+1) rfl rfl;have f1:=HX9.out.free 2 1 (b:=w.heap.size+1+1) rfl rfl;clear hR hb9)
   )
  all_goals
   have q:=Zu (HX9.out.block 2 (b:=w.heap.size+1+1) rfl rfl) (.string x) (.string y)
   have HBQ:=Zpe (Zs HB9.out (b:=w.heap.size+1+1) Za (.string x) (.string y))
   obtain⟨wz,hwz⟩:=Zpg ((w9.setCell ⟨w.heap.size+1+1,0,none⟩ (.string x)).setCell ⟨w.heap.size+1+1,1,none⟩ (.string y))
   rw[hwz] at q HBQ
   obtain⟨q0,q1⟩:=q
   rw[hwz]
   clear r0 r1 f0 f1 hwz
   go_wp2
   refine Zor (v:=.tuple #[Zpb x y,.int .i64 n]) (by simp[results,Tryz.f86,go_sem,q0,q1]) rfl ⟨_,_,_,rfl,?_,HBQ.out⟩
   exact .inr ⟨HK.out,HR.out⟩
theorem Zn7 (s t u v:ByteArray) (w:World) (hs:s.size<=1000000) (ht:t.size<=1000000) (hu:u.size<=1000000) (hv:v.size<=1000000) :
  Calls Tryz.prog 88 #[Zpb s t,Zpb u v] w (ZL (Bi s t u v (Ans (mkRat ((Zq s.data.toList*Zq v.data.toList+Zq u.data.toList*Zq t.data.toList:Nat):Int) (Zq t.data.toList*Zq v.data.toList)))) w):=by
 cases hq:(okP s t && okP u v)
 ·skip
  have HQ:Hid (Zbl s t u v=2):=ZdO hq
  have HK:=Zpe hq
  clear hq
  go_enter Tryz.func88,Tryz.ntmps88
  go_wp2_with fail
  obtain⟨w1,hw1⟩:=Zpg (((w.alloc (Zpc s t)).alloc (Zpc u v)).alloc (Zpc Zpa Zpa))
  rw[hw1]
  have HX1:Hid (Zv w.heap.size [Zpc s t,Zpc u v,Zpc Zpa Zpa] w1):=by rw[<- hw1];exact Zv.three w _ _ _
  have HB1:Zo8 w w1:=by rw[<- hw1];exact(((Zoq _ w).alloc Zpf _).alloc Zc _).alloc (by simp<;>omega) _
  clear hw1
  refine(ZaT s t u v _ hs ht hu hv).mono ?_
  rintro e w2 ⟨rfl,hb2⟩
  rw[HQ.out]
  have HX2:=Zpe (HX1.out.below hb2 HX1.out.lt)
  have HB2:=Zpe (HB1.out.trans (hb2.mono HB1.out.size))
  clear hb2
  have r0:=HX2.out.cell 2 0 (b:=w.heap.size+1+1) rfl rfl rfl
  have r1:=HX2.out.cell 2 1 (b:=w.heap.size+1+1) rfl rfl rfl
  have f0:=HX2.out.free 2 0 (b:=w.heap.size+1+1) rfl rfl
  have f1:=HX2.out.free 2 1 (b:=w.heap.size+1+1) rfl rfl
  go_wp2
  have q:=Zu (HX2.out.block 2 (b:=w.heap.size+1+1) rfl rfl) (.string Zpa) (.string Zpa)
  have HBQ:=Zpe (Zs HB2.out (b:=w.heap.size+1+1) Za (.string Zpa) (.string Zpa))
  refine Zor (v:=.tuple #[Zpb Zpa Zpa,.int .i64 2]) (by simp[results,Tryz.f88,go_sem,q.1,q.2]) rfl ⟨_,_,_,rfl,.inl ⟨HK.out,rfl,rfl,rfl⟩,HBQ.out⟩
 ·skip
  have HQ:Hid (Zbl s t u v=0):=Zda hq
  have HK:=Zpe hq
  have hq2:=hq
  rw[ZoY] at hq2
  have g1:=rok hq2.1
  have g2:=rok hq2.2
  obtain⟨n1,hn1⟩:=Zpg (Zq s.data.toList)
  obtain⟨d1,hd1⟩:=Zpg (Zq t.data.toList)
  obtain⟨n2,hn2⟩:=Zpg (Zq u.data.toList)
  obtain⟨d2,hd2⟩:=Zpg (Zq v.data.toList)
  rw[hn1,hd1] at g1
  rw[hn2,hd2] at g2
  have HPS:Hid (∀ W,Calls Tryz.prog 118 #[.string s] W (Zao W n1)):=fun W=>by rw[<- hn1];exact ZX s hs g1.ds W
  have HPT:Hid (∀ W,Calls Tryz.prog 118 #[.string t] W (Zao W d1)):=fun W=>by rw[<- hd1];exact ZX t ht g1.dt W
  have HPU:Hid (∀ W,Calls Tryz.prog 118 #[.string u] W (Zao W n2)):=fun W=>by rw[<- hn2];exact ZX u hu g2.ds W
  have HPV:Hid (∀ W,Calls Tryz.prog 118 #[.string v] W (Zao W d2)):=fun W=>by rw[<- hd2];exact ZX v hv g2.dt W
  have l1:=g1.ls
  have l2:=g1.lt
  have l3:=g2.ls
  have l4:=g2.lt
  have z1:=g1.pos
  have z2:=g2.pos
  rw[hn1,hd1,hn2,hd2]
  have HN:=Zpe (Zo5 hn1 (Zo5 hd1 (Zo5 hn2 hd2)))
  clear hq hq2 g1 g2 hn1 hd1 hn2 hd2
  have M1:Hid ((Zp 10000 (n1*d2)).length<=300):=Zoz (ZaB l1 l4) Za
  have M2:Hid ((Zp 10000 (n2*d1)).length<=300):=Zoz (ZaB l3 l2) Za
  have HL2:Hid ((Zp 10000 (d1*d2)).length<=100000):=Zoz (ZaB l2 l4) Za
  have HD0:Hid (0<d1*d2):=Nat.mul_pos z1 z2
  have HL1:Hid ((Zp 10000 (n1*d2+n2*d1)).length<=100000):=Zoz (Zlt M1.out M2.out) Za
  go_enter Tryz.func88,Tryz.ntmps88
  go_wp2_with fail
  obtain⟨w1,hw1⟩:=Zpg (((w.alloc (Zpc s t)).alloc (Zpc u v)).alloc (Zpc Zpa Zpa))
  rw[hw1]
  have HX1:Hid (Zv w.heap.size [Zpc s t,Zpc u v,Zpc Zpa Zpa] w1):=by rw[<- hw1];exact Zv.three w _ _ _
  have HB1:Zo8 w w1:=by rw[<- hw1];exact(((Zoq _ w).alloc Zpf _).alloc Zc _).alloc (by simp<;>omega) _
  clear hw1
  refine(ZaT s t u v _ hs ht hu hv).mono ?_
  rintro e w2 ⟨rfl,hb2⟩
  rw[HQ.out]
  have HX2:=Zpe (HX1.out.below hb2 HX1.out.lt)
  have HB2:=Zpe (HB1.out.trans (hb2.mono HB1.out.size))
  clear hb2
  have k2:=HX2.out.f4
  obtain⟨ka2,kb2,kc2,kd2⟩:=id k2
  go_wp2_with fail
  go_region_held3
   (fun w'=>w'.cell? ⟨w.heap.size,0,none⟩=some (.string s)/\w'.cell? ⟨w.heap.size,1,none⟩=some (.string t)/\w'.cell? ⟨w.heap.size+1,0,none⟩=some (.string u)/\w'.cell? ⟨w.heap.size+1,1,none⟩=some (.string v))
   (first | exact k1 | exact k2 | exact k3 | exact k4 | exact k5 | exact k6 | exact k7 | exact k8 | exact ZaQ Za Za k9 _ _ | exact k9)
   (first
    | (go_at_call_of 118 (Value.string s);refine(HPS.out _).mono ?_;rintro e w3 ⟨va,rfl,hv,hb⟩;obtain⟨pa,ma,ca,rfl⟩:=hv.form;have NA:=Zpe hv;have HX3:=Zpe (HX2.out.drew.below hb HX2.out.lt);have HB3:Zo8 w w3:=HB2.out.drew.trans (hb.mono HB2.out.drew.size);have k3:=HX3.out.f4;clear hv hb)
    | (go_at_call_of 118 (Value.string v);refine(HPV.out _).mono ?_;rintro e w4 ⟨vb,rfl,hv,hb⟩;obtain⟨pb,mb,cb,rfl⟩:=hv.form;have NB:=Zpe hv;have NA4:=Zpe (NA.out.after hb Zpf);have HX4:=Zpe (HX3.out.below hb HX3.out.lt);have HB4:Zo8 w w4:=HB3.out.trans (hb.mono HB3.out.size);have k4:=HX4.out.f4;clear hv hb)
    | (go_at_call_of 117 (Value.slice pa ma ca);refine(Zam NA4.out NB.out Za Za).mono ?_;rintro e w5 ⟨vc,rfl,hv,hb⟩;obtain⟨pc,mc,cc,rfl⟩:=hv.form;have NC:=Zpe hv;have HX5:=Zpe (HX4.out.below hb HX4.out.lt);have HB5:Zo8 w w5:=HB4.out.trans (hb.mono HB4.out.size);have k5:=HX5.out.f4;clear hv hb)
   )
  go_wp2_with fail
  go_region_held3
   (fun w'=>w'.cell? ⟨w.heap.size,0,none⟩=some (.string s)/\w'.cell? ⟨w.heap.size,1,none⟩=some (.string t)/\w'.cell? ⟨w.heap.size+1,0,none⟩=some (.string u)/\w'.cell? ⟨w.heap.size+1,1,none⟩=some (.string v))
   (first | exact k1 | exact k2 | exact k3 | exact k4 | exact k5 | exact k6 | exact k7 | exact k8 | exact ZaQ Za Za k9 _ _ | exact k9)
   (first
    | (go_at_call_of 118 (Value.string u);refine(HPU.out _).mono ?_;rintro e w6 ⟨vd,rfl,hv,hb⟩;obtain⟨pd,md,cd,rfl⟩:=hv.form;have ND:=Zpe hv;have NC6:=Zpe (PNum.after (w:=w5.drew) NC.out hb Zpf);have HX6:=Zpe (HX5.out.drew.below hb HX5.out.lt);have HB6:Zo8 w w6:=HB5.out.drew.trans (hb.mono HB5.out.drew.size);have k6:=HX6.out.f4;clear hv hb)
    | (go_at_call_of 118 (Value.string t);refine(HPT.out _).mono ?_;rintro e w7 ⟨ve,rfl,hv,hb⟩;obtain⟨pe,me,ce,rfl⟩:=hv.form;have NE:=Zpe hv;have NC7:=Zpe (NC6.out.after hb Zpf);have ND7:=Zpe (ND.out.after hb Zpf);have HX7:=Zpe (HX6.out.below hb HX6.out.lt);have HB7:Zo8 w w7:=HB6.out.trans (hb.mono HB6.out.size);have k7:=HX7.out.f4;clear hv hb)
    | (go_at_call_of 117 (Value.slice pd md cd);refine(Zam ND7.out NE.out Za Za).mono ?_;rintro e w8 ⟨vf,rfl,hv,hb⟩;obtain⟨pf,mf,cf,rfl⟩:=hv.form;have NF:=Zpe hv;have NC8:=Zpe (NC7.out.after hb Zpf);have HX8:=Zpe (HX7.out.below hb HX7.out.lt);have HB8:Zo8 w w8:=HB7.out.trans (hb.mono HB7.out.size);have k8:=HX8.out.f4;clear hv hb)
   )
  go_wp2_with fail
  go_region_held3
   (fun w'=>w'.cell? ⟨w.heap.size,0,none⟩=some (.string s)/\w'.cell? ⟨w.heap.size,1,none⟩=some (.string t)/\w'.cell? ⟨w.heap.size+1,0,none⟩=some (.string u)/\w'.cell? ⟨w.heap.size+1,1,none⟩=some (.string v))
   (first | exact k1 | exact k2 | exact k3 | exact k4 | exact k5 | exact k6 | exact k7 | exact k8 | exact ZaQ Za Za k9 _ _ | exact k9)
   (first
    | (go_at_call_of 143 (Value.slice pc mc cc);refine(ZlF (NC8.out.after (Zoq w8.heap.size w8).drew Zpf) (NF.out.after (Zoq w8.heap.size w8).drew Zpf) (by have:=M1.out;omega) (by have:=M2.out;omega)).mono ?_;rintro e w11 ⟨vg,rfl,hv,hb⟩;obtain⟨pg,mg,cg,rfl⟩:=hv.form;have NG:=Zpe hv;have HX11:=Zpe (HX8.out.drew.below hb HX8.out.lt);have HB11:Zo8 w w11:=HB8.out.drew.trans (hb.mono HB8.out.drew.size);have k3:=HX11.out.f4;clear hv hb)
    | (go_at_call_of 118 (Value.string t);refine(HPT.out _).mono ?_;rintro e w12 ⟨vh,rfl,hv,hb⟩;obtain⟨ph,mh,ch,rfl⟩:=hv.form;have NH:=Zpe hv;have NG12:=Zpe (NG.out.after hb Zpf);have HX12:=Zpe (HX11.out.below hb HX11.out.lt);have HB12:Zo8 w w12:=HB11.out.trans (hb.mono HB11.out.size);have k4:=HX12.out.f4;clear hv hb)
    | (go_at_call_of 118 (Value.string v);refine(HPV.out _).mono ?_;rintro e w13 ⟨vi,rfl,hv,hb⟩;obtain⟨pi,mi,ci,rfl⟩:=hv.form;have NI:=Zpe hv;have NG13:=Zpe (NG12.out.after hb Zpf);have NH13:=Zpe (NH.out.after hb Zpf);have HX13:=Zpe (HX12.out.below hb HX12.out.lt);have HB13:Zo8 w w13:=HB12.out.trans (hb.mono HB12.out.size);have k5:=HX13.out.f4;clear hv hb)
    | (go_at_call_of 117 (Value.slice ph mh ch);refine(Zam NH13.out NI.out Za Za).mono ?_;rintro e w14 ⟨vj,rfl,hv,hb⟩;obtain⟨pj,mj,cj,rfl⟩:=hv.form;have NJ:=Zpe hv;have NG14:=Zpe (NG13.out.after hb Zpf);have HX14:=Zpe (HX13.out.below hb HX13.out.lt);have HB14:Zo8 w w14:=HB13.out.trans (hb.mono HB13.out.size);have k6:=HX14.out.f4;clear hv hb)
    | (go_at_call 141;refine(ZdI NG14.out NJ.out HL1.out HL2.out HD0.out).mono ?_;rintro e w9 ⟨x,y,n,rfl,hR,hb9⟩;have HR:=Zpe hR;have HX9:=Zpe (HX14.out.below hb9 HX14.out.lt);have HB9:Zo8 w w9:=HB14.out.trans (hb9.mono HB14.out.size);have k9:=HX9.out.f4;have r0:=HX9.out.cell 2 0 (b:=w.heap.size+1+1) rfl rfl rfl;have r1:=HX9.out.cell 2 1 (b:=w.heap.size+1+1) rfl rfl rfl;have f0:=HX9.out.free 2 0 (b:=w.heap.size+1+1) rfl rfl;have f1:=HX9.out.free 2 1 (b:=w.heap.size+1+1) rfl rfl;clear hR hb9)
   )
  all_goals
   have q:=Zu (HX9.out.block 2 (b:=w.heap.size+1+1) rfl rfl) (.string x) (.string y)
   have HBQ:=Zpe (Zs HB9.out (b:=w.heap.size+1+1) Za (.string x) (.string y))
   obtain⟨wz,hwz⟩:=Zpg ((w9.setCell ⟨w.heap.size+1+1,0,none⟩ (.string x)).setCell ⟨w.heap.size+1+1,1,none⟩ (.string y))
   rw[hwz] at q HBQ
   obtain⟨q0,q1⟩:=q
   rw[hwz]
   clear r0 r1 f0 f1 hwz
   go_wp2
   refine Zor (v:=.tuple #[Zpb x y,.int .i64 n]) (by simp[results,Tryz.f88,go_sem,q0,q1]) rfl ⟨_,_,_,rfl,?_,HBQ.out⟩
   exact .inr ⟨HK.out,HR.out⟩
end Go.Proofs.YtmpaflidennnoaaGreatDoor
