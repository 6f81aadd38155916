/- The parts DOps, RInt, RInt2, REBase, RECover. -/
import Derived.Test.YtmpaflidennnoaaGreatDoorH25
set_option maxRecDepth 100000
set_option maxHeartbeats 4000000
set_option linter.unusedVariables false
set_option linter.unusedSimpArgs false
namespace Go.Proofs.YtmpaflidennnoaaGreatDoor
open Go.RowKit Go.Shelf
attribute [local go_sem ↓] Go.wp_at_zero Go.wp_at_succ
theorem Zcw (w:World):Calls Tryz.prog 53 #[] w (ZV (pV ⟨#[48]⟩ ⟨#[49]⟩) w):=by
 go_enter Tryz.func53,Tryz.ntmps53
 go_wp2
 have HB1:Hid (Below w.heap.size w (w.alloc (pObj ⟨#[48]⟩ ⟨#[49]⟩))):=(Zoq _ w).alloc Zpf _
 have c0:=ZK w #[.string ⟨#[48]⟩,.string ⟨#[49]⟩] 41 0 rfl
 have c1:=ZK w #[.string ⟨#[48]⟩,.string ⟨#[49]⟩] 41 1 rfl
 refine Zor (v:=pV ⟨#[48]⟩ ⟨#[49]⟩) (by simp[results,Tryz.f53,go_sem,c0,c1]) rfl ⟨rfl,HB1.out⟩
theorem Zhe {q r p:Rat} {s t u v x y:ByteArray} (ha:IsP q s t) (hb:IsP r u v) (hx:IsP p x y) (hq:q+r=p) (w:World) :
  Calls Tryz.prog 88 #[pV s t,pV u v] w (ZV (.tuple #[pV x y,.int .i64 0]) w):=by
 refine(Zis s t u v w ha.le.1 ha.le.2 hb.le.1 hb.le.2).mono ?_
 rintro e w' ⟨x',y',n,rfl,h,hbb⟩
 rcases h with ⟨h,_⟩ | ⟨_,h⟩
 ·rw[ha.oks hb] at h;cases h
 ·rw[ha.rat,hb.rat] at h
  obtain⟨rfl,rfl,rfl⟩:=Zcf h hx hq
  exact⟨rfl,hbb⟩
theorem Zfy {q r p:Rat} {s t u v x y:ByteArray} (ha:IsP q s t) (hb:IsP r u v) (hx:IsP p x y) (hq:q*r=p) (w:World) :
  Calls Tryz.prog 86 #[pV s t,pV u v] w (ZV (.tuple #[pV x y,.int .i64 0]) w):=by
 refine(ZmK s t u v w ha.le.1 ha.le.2 hb.le.1 hb.le.2).mono ?_
 rintro e w' ⟨x',y',n,rfl,h,hbb⟩
 rcases h with ⟨h,_⟩ | ⟨_,h⟩
 ·rw[ha.oks hb] at h;cases h
 ·rw[ha.rat,hb.rat] at h
  obtain⟨rfl,rfl,rfl⟩:=Zcf h hx hq
  exact⟨rfl,hbb⟩
theorem ZfC {q r p:Rat} {s t u v x y:ByteArray} (ha:IsP q s t) (hb:IsP r u v) (hx:IsP p x y) (hq:q-r=p) (w:World) :
  Calls Tryz.prog 105 #[pV s t,pV u v] w (ZV (.tuple #[pV x y,.int .i64 0]) w):=by
 refine(Zm6 s t u v w ha.le.1 ha.le.2 hb.le.1 hb.le.2).mono ?_
 rintro e w' ⟨x',y',n,rfl,h,hbb⟩
 rcases h with ⟨h,_⟩ | ⟨_,h⟩
 ·rw[ha.oks hb] at h;cases h
 ·rw[ha.rat,hb.rat] at h
  rcases h with ⟨h,_⟩ | ⟨_,h⟩
  ·have:=hx.nn;grind
  ·obtain⟨rfl,rfl,rfl⟩:=Zcf h hx hq
   exact⟨rfl,hbb⟩
theorem ZnB {q r p:Rat} {s t u v x y:ByteArray} (ha:IsP q s t) (hb:IsP r u v) (hx:IsP p x y) (h0:0<r) (hq:q/r=p) (w:World) :
  Calls Tryz.prog 145 #[pV s t,pV u v] w (ZV (.tuple #[pV x y,.int .i64 0]) w):=by
 refine(ZmT s t u v w ha.le.1 ha.le.2 hb.le.1 hb.le.2).mono ?_
 rintro e w' ⟨x',y',n,rfl,h,hbb⟩
 rcases h with ⟨h,_⟩ | ⟨_,h⟩
 ·rw[ha.oks hb] at h;cases h
 ·rw[ha.rat,hb.rat] at h
  rcases h with ⟨h,_⟩ | ⟨_,h⟩
  ·grind
  ·obtain⟨rfl,rfl,rfl⟩:=Zcf h hx hq
   exact⟨rfl,hbb⟩
theorem Zb6 {q r:Rat} {n:Int} {s t u v:ByteArray} (ha:IsP q s t) (hb:IsP r u v) (hn:sgnR q r=n) (w:World) :
  Calls Tryz.prog 56 #[pV s t,pV u v] w (ZV (.int .i64 n) w):=by
 refine(Zi9 s t u v w ha.le.1 ha.le.2 hb.le.1 hb.le.2).mono ?_
 rintro e w' ⟨m,rfl,h,hbb⟩
 rcases h with ⟨h,_⟩ | ⟨_,h⟩
 ·rw[ha.oks hb] at h;cases h
 ·rw[ha.rat,hb.rat,hn] at h
  subst h
  exact⟨rfl,hbb⟩
theorem Zdc (s t:ByteArray) (n:Int) (w:World):Calls Tryz.prog 164 #[pV s t,.int .i64 n] w (ZV (pV s t) w):=by
 go_enter Tryz.func164,Tryz.ntmps164
 go_wp2
 have HB1:Hid (Below w.heap.size w ((w.alloc (pObj s t)).alloc (pObj s t))):=((Zoq _ w).alloc Zpf _).alloc Zc _
 have c0:=ZK (w.alloc (pObj s t)) #[.string s,.string t] 41 (b:=w.heap.size+1) 0 Zc
 have c1:=ZK (w.alloc (pObj s t)) #[.string s,.string t] 41 (b:=w.heap.size+1) 1 Zc
 refine Zor (v:=pV s t) (by simp[results,Tryz.f164,go_sem,c0,c1]) rfl ⟨rfl,?_⟩
 first | exact HB1.out | (have h:=HB1.out;simpa using h)
theorem Zkd (n low high:Int) (w:World):Calls Tryz.prog 161 #[.int .i64 n,.int .i64 low,.int .i64 high] w (Z3 w (decide (low<=n) && decide (n<=high))):=by
 by_cases h1:low<=n
 ·by_cases h2:n<=high
  ·go_enter Tryz.func161,Tryz.ntmps161
   go_wp2
   go_ret
   exact⟨by simp[h1,h2],Zoq _ _⟩
  ·go_enter Tryz.func161,Tryz.ntmps161
   go_wp2
   go_ret
   exact⟨by simp[h1,h2],Zoq _ _⟩
 ·go_enter Tryz.func161,Tryz.ntmps161
  go_wp2
  go_ret
  exact⟨by rw[decide_eq_false (show ¬ low<=n by omega)];rfl,Zoq _ _⟩
theorem ZgL (s t:ByteArray) (hs:s.size<=1000000) (ht:t.size<=1000000) (w:World):Calls Tryz.prog 162 #[pV s t] w (Z3 w (Zw 18 (s,t))):=by
 obtain⟨r,hr⟩:=Zpg (Zw 18 (s,t))
 have hal:=(Zoq w.heap.size w).alloc Zpf (pObj s t)
 have HAL:=Zpe hal
 by_cases h1:(s.size:Int)<=18
 ·by_cases h2:(t.size:Int)<=18
  ·cases h3:okP s t
   ·have HR:Hid (Zw 18 (s,t)=false):=by unfold Zw;show _=_;simp[h3]
    have HE:=Zpe (ZaM h3)
    clear h3 hr hal
    go_enter Tryz.func162,Tryz.ntmps162
    go_wp2_with fail
    refine(ZbF s t _ hs ht).mono ?_
    rintro e w2 ⟨rfl,hb⟩
    rw[HE.out]
    have HB:=Zpe (HAL.out.trans (hb.mono HAL.out.size))
    clear hb
    go_wp2
    go_ret
    exact⟨by rw[HR.out];rfl,HB.out⟩
   ·have HR:Hid (Zw 18 (s,t)=true):=by unfold Zw;show _=_;simp[h3];omega
    have HE:=Zpe (Zbg h3)
    clear h3 hr hal
    go_enter Tryz.func162,Tryz.ntmps162
    go_wp2_with fail
    refine(ZbF s t _ hs ht).mono ?_
    rintro e w2 ⟨rfl,hb⟩
    rw[HE.out]
    have HB:=Zpe (HAL.out.trans (hb.mono HAL.out.size))
    clear hb
    go_wp2
    go_ret
    exact⟨by rw[HR.out];rfl,HB.out⟩
  ·have HR:Hid (Zw 18 (s,t)=false):=by
    show _=_
    unfold Zw
    rw[decide_eq_false (p:=(s,t).2.size<=18) (by show ¬ t.size<=18;omega)]
    simp
   clear hr hal
   go_enter Tryz.func162,Tryz.ntmps162
   go_wp2
   go_ret
   exact⟨by rw[HR.out];rfl,HAL.out⟩
 ·have HR:Hid (Zw 18 (s,t)=false):=by
   show _=_
   unfold Zw
   rw[decide_eq_false (p:=(s,t).1.size<=18) (by show ¬ s.size<=18;omega)]
   simp
  clear hr hal
  go_enter Tryz.func162,Tryz.ntmps162
  go_wp2
  go_ret
  exact⟨by rw[HR.out];rfl,HAL.out⟩
theorem Zl4 (s t:ByteArray) (hs:s.size<=1000000) (ht:t.size<=1000000) (w:World):Calls Tryz.prog 138 #[pV s t] w (Z3 w (Zw 300 (s,t))):=by
 obtain⟨r,hr⟩:=Zpg (Zw 300 (s,t))
 have hal:=(Zoq w.heap.size w).alloc Zpf (pObj s t)
 have HAL:=Zpe hal
 by_cases h1:(s.size:Int)<=300
 ·by_cases h2:(t.size:Int)<=300
  ·cases h3:okP s t
   ·have HR:Hid (Zw 300 (s,t)=false):=by unfold Zw;show _=_;simp[h3]
    have HE:=Zpe (ZaM h3)
    clear h3 hr hal
    go_enter Tryz.func138,Tryz.ntmps138
    go_wp2_with fail
    refine(ZbF s t _ hs ht).mono ?_
    rintro e w2 ⟨rfl,hb⟩
    rw[HE.out]
    have HB:=Zpe (HAL.out.trans (hb.mono HAL.out.size))
    clear hb
    go_wp2
    go_ret
    exact⟨by rw[HR.out];rfl,HB.out⟩
   ·have HR:Hid (Zw 300 (s,t)=true):=by unfold Zw;show _=_;simp[h3];omega
    have HE:=Zpe (Zbg h3)
    clear h3 hr hal
    go_enter Tryz.func138,Tryz.ntmps138
    go_wp2_with fail
    refine(ZbF s t _ hs ht).mono ?_
    rintro e w2 ⟨rfl,hb⟩
    rw[HE.out]
    have HB:=Zpe (HAL.out.trans (hb.mono HAL.out.size))
    clear hb
    go_wp2
    go_ret
    exact⟨by rw[HR.out];rfl,HB.out⟩
  ·have HR:Hid (Zw 300 (s,t)=false):=by
    show _=_
    unfold Zw
    rw[decide_eq_false (p:=(s,t).2.size<=300) (by show ¬ t.size<=300;omega)]
    simp
   clear hr hal
   go_enter Tryz.func138,Tryz.ntmps138
   go_wp2
   go_ret
   exact⟨by rw[HR.out];rfl,HAL.out⟩
 ·have HR:Hid (Zw 300 (s,t)=false):=by
   show _=_
   unfold Zw
   rw[decide_eq_false (p:=(s,t).1.size<=300) (by show ¬ s.size<=300;omega)]
   simp
  clear hr hal
  go_enter Tryz.func138,Tryz.ntmps138
  go_wp2
  go_ret
  exact⟨by rw[HR.out];rfl,HAL.out⟩
theorem Zl7 (s t:ByteArray) (w:World) (hs:s.size<=1000000) (ht:t.size<=1000000) :
  Calls Tryz.prog 191 #[.string s,.string t] w (ZL (Made s t) w):=by
 cases h1:ZW s.data.toList
 ·have H1:=Zpe h1
  obtain⟨b2,hb2⟩:=Zpg (ZW t.data.toList)
  have H2:=Zpe hb2
  clear h1 hb2
  go_enter Tryz.func191,Tryz.ntmps191
  go_wp2_with fail
  obtain⟨w1,hw1⟩:=Zpg (w.alloc (Zpc Zpa Zpa))
  rw[hw1]
  have HX1:Hid (Zv w.heap.size [Zpc Zpa Zpa] w1):=by rw[<- hw1];exact Zv.one w _
  have HB1:Zo8 w w1:=by rw[<- hw1];exact(Zoq _ w).alloc Zpf _
  clear hw1
  refine(Zat s _ hs).mono ?_
  rintro e w2 ⟨rfl,rfl⟩
  rw[H1.out]
  go_wp2_with fail
  refine(Zat t _ ht).mono ?_
  rintro e w3 ⟨rfl,rfl⟩
  rw[H2.out]
  have r0:=HX1.out.cell 0 0 (b:=w.heap.size) rfl rfl rfl
  have r1:=HX1.out.cell 0 1 (b:=w.heap.size) rfl rfl rfl
  have f0:=HX1.out.free 0 0 (b:=w.heap.size) rfl rfl
  have f1:=HX1.out.free 0 1 (b:=w.heap.size) rfl rfl
  go_wp2
  have q:=Zu (HX1.out.block 0 (b:=w.heap.size) rfl rfl) (.string Zpa) (.string Zpa)
  have HBQ:=Zpe (Zs HB1.out (b:=w.heap.size) Za (.string Zpa) (.string Zpa))
  obtain⟨w9,hw9⟩:=Zpg ((w1.setCell ⟨w.heap.size,0,none⟩ (.string Zpa)).setCell ⟨w.heap.size,1,none⟩ (.string Zpa))
  rw[hw9] at q HBQ
  obtain⟨q0,q1⟩:=q
  rw[hw9]
  clear r0 r1 f0 f1 hw9
  go_wp2
  refine Zor (v:=.tuple #[Zpb Zpa Zpa,.int .i64 2]) (by simp[results,Tryz.f191,go_sem,q0,q1]) rfl ⟨_,_,_,rfl,?_,HBQ.out⟩
  exact .inl ⟨by rw[H1.out];rfl,rfl,rfl,rfl⟩
 ·have H1:=Zpe h1
  clear h1
  cases h2:ZW t.data.toList
  ·have H2:=Zpe h2
   clear h2
   go_enter Tryz.func191,Tryz.ntmps191
   go_wp2_with fail
   obtain⟨w1,hw1⟩:=Zpg (w.alloc (Zpc Zpa Zpa))
   rw[hw1]
   have HX1:Hid (Zv w.heap.size [Zpc Zpa Zpa] w1):=by rw[<- hw1];exact Zv.one w _
   have HB1:Zo8 w w1:=by rw[<- hw1];exact(Zoq _ w).alloc Zpf _
   clear hw1
   refine(Zat s _ hs).mono ?_
   rintro e w2 ⟨rfl,rfl⟩
   rw[H1.out]
   go_wp2_with fail
   refine(Zat t _ ht).mono ?_
   rintro e w3 ⟨rfl,rfl⟩
   rw[H2.out]
   have r0:=HX1.out.cell 0 0 (b:=w.heap.size) rfl rfl rfl
   have r1:=HX1.out.cell 0 1 (b:=w.heap.size) rfl rfl rfl
   have f0:=HX1.out.free 0 0 (b:=w.heap.size) rfl rfl
   have f1:=HX1.out.free 0 1 (b:=w.heap.size) rfl rfl
   go_wp2
   have q:=Zu (HX1.out.block 0 (b:=w.heap.size) rfl rfl) (.string Zpa) (.string Zpa)
   have HBQ:=Zpe (Zs HB1.out (b:=w.heap.size) Za (.string Zpa) (.string Zpa))
   obtain⟨w9,hw9⟩:=Zpg ((w1.setCell ⟨w.heap.size,0,none⟩ (.string Zpa)).setCell ⟨w.heap.size,1,none⟩ (.string Zpa))
   rw[hw9] at q HBQ
   obtain⟨q0,q1⟩:=q
   rw[hw9]
   clear r0 r1 f0 f1 hw9
   go_wp2
   refine Zor (v:=.tuple #[Zpb Zpa Zpa,.int .i64 2]) (by simp[results,Tryz.f191,go_sem,q0,q1]) rfl ⟨_,_,_,rfl,?_,HBQ.out⟩
   exact .inl ⟨by rw[H2.out,Bool.and_false],rfl,rfl,rfl⟩
  ·have HZ:=Zpe (ZcN h2)
   have H2:=Zpe h2
   clear h2
   have dl:t.toList=t.data.toList:=ZoN ..
   by_cases h0:Zq t.data.toList=0
   ·have hz:(t.toList==[48])=true:=by
     rw[dl,HZ.out.2 h0];rfl
    have H0:=Zpe h0
    clear h0 dl
    go_enter Tryz.func191,Tryz.ntmps191
    go_wp2_with fail
    obtain⟨w1,hw1⟩:=Zpg (w.alloc (Zpc Zpa Zpa))
    rw[hw1]
    have HX1:Hid (Zv w.heap.size [Zpc Zpa Zpa] w1):=by rw[<- hw1];exact Zv.one w _
    have HB1:Zo8 w w1:=by rw[<- hw1];exact(Zoq _ w).alloc Zpf _
    clear hw1
    refine(Zat s _ hs).mono ?_
    rintro e w2 ⟨rfl,rfl⟩
    rw[H1.out]
    go_wp2_with fail
    refine(Zat t _ ht).mono ?_
    rintro e w3 ⟨rfl,rfl⟩
    rw[H2.out]
    have r0:=HX1.out.cell 0 0 (b:=w.heap.size) rfl rfl rfl
    have r1:=HX1.out.cell 0 1 (b:=w.heap.size) rfl rfl rfl
    have f0:=HX1.out.free 0 0 (b:=w.heap.size) rfl rfl
    have f1:=HX1.out.free 0 1 (b:=w.heap.size) rfl rfl
    go_wp2
    have q:=Zu (HX1.out.block 0 (b:=w.heap.size) rfl rfl) (.string Zpa) (.string Zpa)
    have HBQ:=Zpe (Zs HB1.out (b:=w.heap.size) Za (.string Zpa) (.string Zpa))
    obtain⟨w9,hw9⟩:=Zpg ((w1.setCell ⟨w.heap.size,0,none⟩ (.string Zpa)).setCell ⟨w.heap.size,1,none⟩ (.string Zpa))
    rw[hw9] at q HBQ
    obtain⟨q0,q1⟩:=q
    rw[hw9]
    clear r0 r1 f0 f1 hw9
    go_wp2
    refine Zor (v:=.tuple #[Zpb Zpa Zpa,.int .i64 10]) (by simp[results,Tryz.f191,go_sem,q0,q1]) rfl ⟨_,_,_,rfl,?_,HBQ.out⟩
    exact .inr (.inl ⟨by rw[H1.out,H2.out];rfl,H0.out,rfl,rfl,rfl⟩)
   ·have hz:(t.toList==[48])=false:=by
     rw[beq_eq_false_iff_ne,dl]
     intro hc
     refine h0 (HZ.out.1 ?_)
     rw[<- ZaZ t,hc];rfl
    have H0:=Zpe h0
    obtain⟨ds,ls⟩:=rnok H1.out
    obtain⟨dt,lt⟩:=rnok H2.out
    have HDS:=Zpe ds
    have HDT:=Zpe dt
    have HL:=Zpe (Zo5 ls lt)
    clear h0 dl ds ls dt lt
    go_enter Tryz.func191,Tryz.ntmps191
    go_wp2_with fail
    obtain⟨w1,hw1⟩:=Zpg (w.alloc (Zpc Zpa Zpa))
    rw[hw1]
    have HX1:Hid (Zv w.heap.size [Zpc Zpa Zpa] w1):=by rw[<- hw1];exact Zv.one w _
    have HB1:Zo8 w w1:=by rw[<- hw1];exact(Zoq _ w).alloc Zpf _
    clear hw1
    refine(Zat s _ hs).mono ?_
    rintro e w2 ⟨rfl,rfl⟩
    rw[H1.out]
    go_wp2_with fail
    refine(Zat t _ ht).mono ?_
    rintro e w3 ⟨rfl,rfl⟩
    rw[H2.out]
    go_wp2_with fail
    refine(ZX s hs HDS.out _).mono ?_
    rintro e w4 ⟨vn,rfl,hN,hb4⟩
    obtain⟨pn,ln,cn,rfl⟩:=hN.form
    have HN4:=Zpe hN
    have HX4:=Zpe (HX1.out.below hb4 HX1.out.lt)
    have HB4:=Zpe (HB1.out.trans (hb4.mono HB1.out.size))
    clear hN hb4
    go_wp2_with fail
    refine(ZX t ht HDT.out _).mono ?_
    rintro e w5 ⟨vd,rfl,hD,hb5⟩
    obtain⟨pd,ld,cd,rfl⟩:=hD.form
    have HD5:=Zpe hD
    have HN5:=Zpe (HN4.out.after hb5 Zpf)
    have HX5:=Zpe (HX4.out.below hb5 HX4.out.lt)
    have HB5:=Zpe (HB4.out.trans (hb5.mono HB4.out.size))
    clear hD hb5
    go_wp2_with fail
    refine(ZdI HN5.out HD5.out (Zoz HL.out.1 Zd) (Zoz HL.out.2 Zd) (Nat.pos_of_ne_zero H0.out)).mono ?_
    rintro e w6 ⟨x,y,n,rfl,hR,hb6⟩
    have HR:=Zpe hR
    have HX6:=Zpe (HX5.out.below hb6 HX5.out.lt)
    have HB6:=Zpe (HB5.out.trans (hb6.mono HB5.out.size))
    clear hR hb6
    have r0:=HX6.out.cell 0 0 (b:=w.heap.size) rfl rfl rfl
    have r1:=HX6.out.cell 0 1 (b:=w.heap.size) rfl rfl rfl
    have f0:=HX6.out.free 0 0 (b:=w.heap.size) rfl rfl
    have f1:=HX6.out.free 0 1 (b:=w.heap.size) rfl rfl
    go_wp2
    have q:=Zu (HX6.out.block 0 (b:=w.heap.size) rfl rfl) (.string x) (.string y)
    have HBQ:=Zpe (Zs HB6.out (b:=w.heap.size) Za (.string x) (.string y))
    obtain⟨w9,hw9⟩:=Zpg ((w6.setCell ⟨w.heap.size,0,none⟩ (.string x)).setCell ⟨w.heap.size,1,none⟩ (.string y))
    rw[hw9] at q HBQ
    obtain⟨q0,q1⟩:=q
    rw[hw9]
    clear r0 r1 f0 f1 hw9
    go_wp2
    refine Zor (v:=.tuple #[Zpb x y,.int .i64 n]) (by simp[results,Tryz.f191,go_sem,q0,q1]) rfl ⟨_,_,_,rfl,?_,HBQ.out⟩
    exact .inr (.inr ⟨by rw[H1.out,H2.out];rfl,Nat.pos_of_ne_zero H0.out,HR.out⟩)
theorem Zke (n:Int) (h0 : -9223372036854775808<=n) (h1:n<=9223372036854775807) (w:World) :
  Calls Tryz.prog 190 #[.int .i64 n] w (ZlB n w):=by
 obtain⟨i0,hi,hz0,hz1,hz2⟩:=info_parts ZcR
 by_cases hn:n<0
 ·go_enter Tryz.func190,Tryz.ntmps190
  go_wp2
  go_ret2
  exact⟨_,_,rfl,.inl ⟨hn,rfl,rfl⟩,Zoq _ _⟩
 ·obtain⟨m,rfl⟩:∃ m:Nat,n=m:=⟨n.toNat,Za⟩
  have hl6:(Zp 10000 m).length<=6:=Zab Za Za
  have HL6:=Zpe hl6
  clear h0 hl6
  go_enter Tryz.func190,Tryz.ntmps190
  go_wp2
  go_loopw [0,4] (fun vn vo wr=>∃ (j k:Nat) (out:List Nat),vn=.int .i64 j/\j<=9223372036854775807/\k<=6/\Hid (Zp 10000 m=out++Zp 10000 j)/\Hid (Grow .i64 3 wr w.heap.size vo out)/\Hid (out.length=k)/\Zo8 w wr) (fun vn _ _=>(intOf vn).toNat)
  case atStart=>exact⟨m,0,[],rfl,Za,Za,by show _=_;simp,Grow.nil,rfl,Zoq _ _⟩
  case round=>
   obtain⟨j,k,out,rfl,hj,hk6,HI,HO,HLEN,HB⟩:=hrel
   obtain⟨po,no,co,rfl⟩:∃ p n c,u4=.slice p n c:=by obtain⟨q,c,h⟩:=HO.out.form;exact⟨_,_,_,h⟩
   by_cases hgo:0<j
   ·have hgo':(0:Int)<j:=Za
    have hm1:k+1<=maxLen:=by unfold maxLen;omega
    have hm2:(k+1)*8<=140737488355328:=Za
    have HI2:Hid (Zp 10000 m=(out++[j % 10000])++Zp 10000 (j/10000)):=by
     show _=_
     rw[HI.out,Za1 Za hgo];simp
    have HK7:Hid (k+1<=6):=by
     have h2:=congrArg List.length HI2.out
     have h3:=HL6.out
     have h4:=HLEN.out
     simp at h2
     show _<=_
     omega
    have E1:Hid ((j:Int) % 10000=((j % 10000:Nat):Int)):=by show _=_;omega
    have E2:Hid ((j:Int)/10000=((j/10000:Nat):Int)):=by show _=_;omega
    have HJ:Hid (j/10000<j/\j/10000<=9223372036854775807):=⟨Za,Za⟩
    clear hgo
    have hown:wr.ownsRow w.heap.size 3 1 (.slice po no co) k ((out).map fun x=>Value.int .i64 (x:Nat)):=by
     have:=HO.out;unfold Grow at this;rwa [HLEN.out] at this
    have hsz:=HB.out.size
    have hownA:=hown.alloc (.cells #[.int .i64 ((j:Int) % 10000)] 3)
    have hm3:w.heap.size<=(wr.alloc (.cells #[.int .i64 ((j:Int) % 10000)] 3)).heap.size:=by simp;omega
    go_wp2_with (at_builtin;go_loud (refine ZoV _ rfl _ _ 23 rfl w.heap.size 3 i0 (.int .i64 0) 1 8 Tryz.underlying23 hi hz0 hz1 hz2 rfl Zd _ k _ rfl hownA ⟨wr.heap.size,0,none⟩ 1 1 [.int .i64 ((j:Int) % 10000)] rfl rfl (cell_one_new _ _ _) (by simp[Value.oneCell']) hm1 hm2 hm3 ?_);intro v' w1 hown1 hgrow1 _)
    have HG:Hid (Grow .i64 3 w1 w.heap.size v' (out++[j % 10000])):=Grow.snoc HLEN.out E1.out hown1
    have HB1:Zo8 w w1:=(HB.out.alloc hsz _).grown hgrow1 hm3 (fun z hz=>(ZoE hownA z hz).1)
    clear hown hownA hown1 hgrow1
    go_roundw
    case rel=>exact⟨j/10000,k+1,_,by rw[E2.out],HJ.out.2,HK7.out,HI2,HG,by show _=_;rw[ZoH,HLEN.out];rfl,HB1⟩
    case measure=>rw[E2.out];have:=HJ.out;simp[intOf];omega
   ·obtain rfl:j=0:=Za
    have HE:Hid (out=Zp 10000 m):=by show _=_;rw[HI.out,ZO];simp
    have HP:Hid (PNum wr (.slice po no co) m):=by
     have:=HO.out.nums
     rw[HE.out] at this
     exact⟨this,HO.out.pform⟩
    clear hgo
    go_wp2_with fail
    refine(ZeB HP.out (Zoz HL6.out Zd)).mono ?_
    rintro e w5 ⟨rfl,hb5⟩
    have HB5:=Zpe (HB.out.trans (hb5.mono HB.out.size))
    obtain⟨s,hs⟩:=Zpg (str (Lib.decDigits m))
    rw[hs]
    have HS:=Zpe hs
    clear hb5 hs
    go_wp2
    go_ret2
    exact⟨_,_,rfl,.inr ⟨Za,by rw[<- HS.out];rfl,rfl⟩,HB5.out⟩
theorem ZkO (a b:Int) (ha0 : -9223372036854775808<=a) (ha1:a<=9223372036854775807) (hb0 : -9223372036854775808<=b) (hb1:b<=9223372036854775807) (w:World) :
  Calls Tryz.prog 144 #[.int .i64 a,.int .i64 b] w (ZL (Zid a b) w):=by
 by_cases g1:a<0
 ·skip
  have HB1:Hid (Below w.heap.size w (w.alloc (Zpc Zpa Zpa))):=(Zoq _ w).alloc Zpf _
  have c0:(w.alloc (Zpc Zpa Zpa)).cell? ⟨w.heap.size,0,none⟩=some (.string Zpa):=ZK _ _ _ 0 rfl
  have c1:(w.alloc (Zpc Zpa Zpa)).cell? ⟨w.heap.size,1,none⟩=some (.string Zpa):=ZK _ _ _ 1 rfl
  go_enter Tryz.func144,Tryz.ntmps144
  go_wp2
  refine Zor (v:=.tuple #[Zpb Zpa Zpa,.int .i64 11]) (by simp[results,Tryz.f144,go_sem,c0,c1]) rfl ⟨_,_,_,rfl,?_,HB1.out⟩
  exact .inl ⟨.inl g1,rfl,rfl,rfl⟩
 by_cases g2:b<0
 ·skip
  have HB1:Hid (Below w.heap.size w (w.alloc (Zpc Zpa Zpa))):=(Zoq _ w).alloc Zpf _
  have c0:(w.alloc (Zpc Zpa Zpa)).cell? ⟨w.heap.size,0,none⟩=some (.string Zpa):=ZK _ _ _ 0 rfl
  have c1:(w.alloc (Zpc Zpa Zpa)).cell? ⟨w.heap.size,1,none⟩=some (.string Zpa):=ZK _ _ _ 1 rfl
  go_enter Tryz.func144,Tryz.ntmps144
  go_wp2
  refine Zor (v:=.tuple #[Zpb Zpa Zpa,.int .i64 11]) (by simp[results,Tryz.f144,go_sem,c0,c1]) rfl ⟨_,_,_,rfl,?_,HB1.out⟩
  exact .inl ⟨.inr g2,rfl,rfl,rfl⟩
 by_cases g3:b=0
 ·subst g3
  have HB1:Hid (Below w.heap.size w (w.alloc (Zpc Zpa Zpa))):=(Zoq _ w).alloc Zpf _
  have c0:(w.alloc (Zpc Zpa Zpa)).cell? ⟨w.heap.size,0,none⟩=some (.string Zpa):=ZK _ _ _ 0 rfl
  have c1:(w.alloc (Zpc Zpa Zpa)).cell? ⟨w.heap.size,1,none⟩=some (.string Zpa):=ZK _ _ _ 1 rfl
  go_enter Tryz.func144,Tryz.ntmps144
  go_wp2
  refine Zor (v:=.tuple #[Zpb Zpa Zpa,.int .i64 10]) (by simp[results,Tryz.f144,go_sem,c0,c1]) rfl ⟨_,_,_,rfl,?_,HB1.out⟩
  exact .inr (.inl ⟨Za,rfl,rfl,rfl,rfl⟩)
 have g4:(b==0)=false:=by rw[beq_eq_false_iff_ne];exact g3
 have HA:=Zpe (Zke a ha0 ha1)
 have HBB:=Zpe (Zke b hb0 hb1)
 have HG:Hid (0<=a/\0<=b/\a<=9223372036854775807/\b<=9223372036854775807):=⟨Za,Za,ha1,hb1⟩
 go_enter Tryz.func144,Tryz.ntmps144
 go_wp2_with fail
 obtain⟨w1,hw1⟩:=Zpg (w.alloc (Zpc Zpa Zpa))
 rw[hw1]
 have HX1:Hid (Zv w.heap.size [Zpc Zpa Zpa] w1):=by rw[<- hw1];exact Zv.one w _
 have HB1:Zo8 w w1:=by rw[<- hw1];exact(Zoq _ w).alloc Zpf _
 clear hw1
 refine(HA.out _).mono ?_
 rintro e w2 ⟨s,r1,rfl,hR1,hb2⟩
 obtain⟨hs,rfl⟩:s=str (Lib.decDigits a.toNat)/\r1=0:=by
  rcases hR1 with ⟨h,_⟩ | ⟨_,h1,h2⟩
  ·omega
  ·exact⟨h1,h2⟩
 have HX2:=Zpe (HX1.out.below hb2 HX1.out.lt)
 have HB2:=Zpe (HB1.out.trans (hb2.mono HB1.out.size))
 have HS:=Zpe hs
 clear hb2 hR1 hs
 go_wp2_with fail
 refine(HBB.out _).mono ?_
 rintro e w3 ⟨t,r2,rfl,hR2,hb3⟩
 obtain⟨ht,rfl⟩:t=str (Lib.decDigits b.toNat)/\r2=0:=by
  rcases hR2 with ⟨h,_⟩ | ⟨_,h1,h2⟩
  ·omega
  ·exact⟨h1,h2⟩
 have HX3:=Zpe (HX2.out.below hb3 HX2.out.lt)
 have HB3:=Zpe (HB2.out.trans (hb3.mono HB2.out.size))
 have HT:=Zpe ht
 clear hb3 hR2 ht
 have hss:s.size<=1000000:=by rw[HS.out,Zaz];have:=ZdA ha1;omega
 have hts:t.size<=1000000:=by rw[HT.out,Zaz];have:=ZdA hb1;omega
 have HM:=Zpe (Zl7 s t w3 hss hts)
 clear hss hts
 go_wp2_with fail
 refine HM.out.mono ?_
 rintro e w6 ⟨x,y,n,rfl,hR,hb6⟩
 have HR:=Zpe (Zgx HG.out.1 HG.out.2.1 HG.out.2.2.1 HG.out.2.2.2 HS.out HT.out hR)
 have HX6:=Zpe (HX3.out.below hb6 HX3.out.lt)
 have HB6:=Zpe (HB3.out.trans (hb6.mono HB3.out.size))
 clear hR hb6
 have r0:=HX6.out.cell 0 0 (b:=w.heap.size) rfl rfl rfl
 have r1:=HX6.out.cell 0 1 (b:=w.heap.size) rfl rfl rfl
 have f0:=HX6.out.free 0 0 (b:=w.heap.size) rfl rfl
 have f1:=HX6.out.free 0 1 (b:=w.heap.size) rfl rfl
 go_wp2
 have q:=Zu (HX6.out.block 0 (b:=w.heap.size) rfl rfl) (.string x) (.string y)
 have HBQ:=Zpe (Zs HB6.out (b:=w.heap.size) Za (.string x) (.string y))
 obtain⟨w9,hw9⟩:=Zpg ((w6.setCell ⟨w.heap.size,0,none⟩ (.string x)).setCell ⟨w.heap.size,1,none⟩ (.string y))
 rw[hw9] at q HBQ
 obtain⟨q0,q1⟩:=q
 rw[hw9]
 clear r0 r1 f0 f1 hw9
 go_wp2
 refine Zor (v:=.tuple #[Zpb x y,.int .i64 n]) (by simp[results,Tryz.f144,go_sem,q0,q1]) rfl ⟨_,_,_,rfl,?_,HBQ.out⟩
 exact HR.out
abbrev smO (n:Int):Obj:=.cells #[.int .i64 n] 98
structure SmK (b:Nat) (n:Int) (w0:World) (bs:List (Nat×Obj)) (w:World):Prop where
 env:EnvS (NotM b) w0 bs w
 sm:w.heap[b]?=some (smO n)
section
variable {b:Nat} {n k:Int} {w0 w w':World} {bs:List (Nat×Obj)}
theorem Zh9 (h:w.heap[b]?=some (smO n)):b<w.heap.size:=(Zo9 h)
theorem SmK.start (h:w.heap[b]?=some (smO n)):SmK b n w [] w:=⟨EnvS.start w fun c hc e=>by have:=Zh9 h;omega,h⟩
theorem SmK.base (h:SmK b n w0 bs w):Keeps (NotM b) w0 w:=h.env.base
theorem SmK.step (h:SmK b n w0 bs w) (hb:Below w.heap.size w w'):SmK b n w0 bs w':=⟨h.env.step hb,(hb.block b (Zh9 h.sm)).trans h.sm⟩
theorem SmK.drew (h:SmK b n w0 bs w):SmK b n w0 bs w.drew:=h.step (Zoq _ w).drew
theorem SmK.call (h:SmK b n w0 bs w) (hk:Keeps (NotM b) w w'/\w'.heap[b]?=some (smO k)):SmK b k w0 bs w':=⟨h.env.keep hk.1,hk.2⟩
theorem SmK.push (h:SmK b n w0 bs w) (o:Obj) {g:Nat} (hg:g=w.heap.size):SmK b n w0 ((g,o)::bs) (w.alloc o):=⟨h.env.push o hg,(((Zoq _ w).alloc Zpf o).block b (Zh9 h.sm)).trans h.sm⟩
theorem SmK.cell (h:SmK b n w0 bs w) (i j:Nat) {g:Nat} {cs:Array Value} {T:TypeId} {v:Value} (hi:bs[i]?=some (g,.cells cs T (0,0))) (hv:cs[j]?=some v):w.cell? ⟨g,j,none⟩=some v:=h.env.cell i j hi hv
theorem SmK.free (h:SmK b n w0 bs w) (i j:Nat) {g:Nat} {cs:Array Value} {T:TypeId} (hi:bs[i]?=some (g,.cells cs T (0,0))):w.frozen? ⟨g,j,none⟩=false:=h.env.free i j hi
theorem SmK.fill {g:Nat} {x y:Value} {T:TypeId} (h:SmK b n w0 ((g,.cells #[x,y] T (0,0))::bs) w) (u v:Value):SmK b n w0 ((g,.cells #[u,v] T (0,0))::bs) ((w.setCell ⟨g,0,none⟩ u).setCell ⟨g,1,none⟩ v):=
 ⟨h.env.fill u v,by
  have hne:b≠g:=fun e=>h.env.up g (h.env.le 0 rfl) e.symm
  exact(Zos _ _ _ _ hne).trans ((Zos _ _ _ _ hne).trans h.sm)⟩
theorem SmK.only (h:SmK b n w0 bs w) (is:List Nat) (bs':List (Nat×Obj)) (hb:bs'=is.filterMap (fun i=>bs[i]?)) (hn:is.Nodup):SmK b n w0 bs' w:=⟨h.env.only is bs' hb hn,h.sm⟩
theorem SmK.tail {p:Nat×Obj} (h:SmK b n w0 (p::bs) w):SmK b n w0 bs w:=
 ⟨⟨h.env.base,h.env.up,fun i q hq=>h.env.cells (i+1) q (by simpa using hq),fun i j p q hp hq e=>by have:=h.env.apart (i+1) (j+1) p q (by simpa using hp) (by simpa using hq) e;omega⟩,h.sm⟩
theorem SmK.c0 (h:SmK b n w0 bs w):w.cell? ⟨b,0,none⟩=some (.int .i64 n):=Zn h.sm 0 rfl
theorem SmK.f0 (h:SmK b n w0 bs w):w.frozen? ⟨b,0,none⟩=false:=Zo h.sm 0
theorem SmK.put (h:SmK b n w0 bs w) (k:Int):SmK b k w0 bs (w.setCell ⟨b,0,none⟩ (.int .i64 k)):=
 ⟨h.env.keep ((Keeps.refl _ w).setCell Zc _),Zov h.sm _⟩
theorem SmK.done (h:SmK b n w0 bs w):Keeps (NotM b) w0 w/\w.heap[b]?=some (smO n):=⟨h.env.base,h.sm⟩
end
def SmV (b:Nat) (v:Value) (n:Int) (w:World) (e:Ending) (w':World):Prop:=e=.returned v/\Keeps (NotM b) w w'/\w'.heap[b]?=some (smO n)
theorem ZgW (s t:ByteArray) {b:Nat} {n:Int} (e:Int) {w:World} (h:w.heap[b]?=some (smO n)) :
  Calls Tryz.prog 84 #[.pointer (some ⟨b,0,none⟩),pV s t,.int .i64 e] w (SmV b (if n=0/\e=0 then pV s t else pV ⟨#[48]⟩ ⟨#[49]⟩) (if n=0 then e else n) w):=by
 have HE0:Hid (SmK b n w [(w.heap.size+1,pObj Zpa Zpa),(w.heap.size,pObj s t)] ((w.alloc (pObj s t)).alloc (pObj Zpa Zpa))):=((SmK.start h).push _ rfl).push _ Zc
 clear h
 have b0:=HE0.out.c0
 have g0:=HE0.out.f0
 by_cases hn:n=0
 ·subst hn
  have HE1:=Zpe (HE0.out.put e)
  have c0:=HE1.out.c0
  have h00:((0:Int) !=0)=false:=rfl
  by_cases he:e=0
  ·subst he
   have e2:(if (0:Int)=0/\(0:Int)=0 then pV s t else pV ⟨#[48]⟩ ⟨#[49]⟩)=pV s t:=if_pos ⟨rfl,rfl⟩
   rw[e2,if_pos rfl]
   clear e2
   have e0:=HE1.out.cell 1 0 (v:=.string s) rfl rfl
   have e1:=HE1.out.cell 1 1 (v:=.string t) rfl rfl
   have k0:=HE1.out.cell 0 0 (v:=.string Zpa) rfl rfl
   have k1:=HE1.out.cell 0 1 (v:=.string Zpa) rfl rfl
   have l0:=HE1.out.free 0 0 rfl
   have l1:=HE1.out.free 0 1 rfl
   go_enter Tryz.func84,Tryz.ntmps84
   go_wp2
   have HE2:=Zpe (HE1.out.fill (.string s) (.string t))
   have q0:=HE2.out.cell 0 0 (v:=.string s) rfl rfl
   have q1:=HE2.out.cell 0 1 (v:=.string t) rfl rfl
   exact Zor (v:=pV s t) (by simp[results,Tryz.f84,go_sem,q0,q1]) rfl ⟨rfl,HE2.out.done⟩
  ·have e2:(if (0:Int)=0/\e=0 then pV s t else pV ⟨#[48]⟩ ⟨#[49]⟩)=pV ⟨#[48]⟩ ⟨#[49]⟩:=if_neg fun h=>he h.2
   rw[e2,if_pos rfl]
   have h1:(e !=0)=true:=by rw[bne_iff_ne];exact he
   clear e2 he
   have B0:=HE1
   go_enter Tryz.func84,Tryz.ntmps84
   go_wp2_with fail
   refine(Zcw _).mono ?_
   rintro e' w3 ⟨rfl,hb⟩
   have HE3:=Zpe (B0.out.step hb)
   have k0:=HE3.out.cell 0 0 (v:=.string Zpa) rfl rfl
   have k1:=HE3.out.cell 0 1 (v:=.string Zpa) rfl rfl
   have l0:=HE3.out.free 0 0 rfl
   have l1:=HE3.out.free 0 1 rfl
   clear hb
   go_wp2
   have HE4:=Zpe (HE3.out.fill (.string ⟨#[48]⟩) (.string ⟨#[49]⟩))
   have q0:=HE4.out.cell 0 0 (v:=.string ⟨#[48]⟩) rfl rfl
   have q1:=HE4.out.cell 0 1 (v:=.string ⟨#[49]⟩) rfl rfl
   exact Zor (v:=pV ⟨#[48]⟩ ⟨#[49]⟩) (by simp[results,Tryz.f84,go_sem,q0,q1]) rfl ⟨rfl,HE4.out.done⟩
 ·have e2:(if n=0/\e=0 then pV s t else pV ⟨#[48]⟩ ⟨#[49]⟩)=pV ⟨#[48]⟩ ⟨#[49]⟩:=if_neg fun h=>hn h.1
  rw[e2,if_neg hn]
  have h1:(n !=0)=true:=by rw[bne_iff_ne];exact hn
  have h2:(n==0)=false:=by rw[beq_eq_false_iff_ne];exact hn
  clear e2 hn
  have B0:=HE0
  go_enter Tryz.func84,Tryz.ntmps84
  go_wp2_with fail
  refine(Zcw _).mono ?_
  rintro e' w3 ⟨rfl,hb⟩
  have HE3:=Zpe (B0.out.step hb)
  have k0:=HE3.out.cell 0 0 (v:=.string Zpa) rfl rfl
  have k1:=HE3.out.cell 0 1 (v:=.string Zpa) rfl rfl
  have l0:=HE3.out.free 0 0 rfl
  have l1:=HE3.out.free 0 1 rfl
  clear hb
  go_wp2
  have HE4:=Zpe (HE3.out.fill (.string ⟨#[48]⟩) (.string ⟨#[49]⟩))
  have q0:=HE4.out.cell 0 0 (v:=.string ⟨#[48]⟩) rfl rfl
  have q1:=HE4.out.cell 0 1 (v:=.string ⟨#[49]⟩) rfl rfl
  exact Zor (v:=pV ⟨#[48]⟩ ⟨#[49]⟩) (by simp[results,Tryz.f84,go_sem,q0,q1]) rfl ⟨rfl,HE4.out.done⟩
theorem Ze7 (s t:ByteArray) {b:Nat} {w:World} (h:w.heap[b]?=some (smO 0)) :
  Calls Tryz.prog 84 #[.pointer (some ⟨b,0,none⟩),pV s t,.int .i64 0] w (SmV b (pV s t) 0 w):=ZgW s t 0 h
def zq (n:Int) (q:Rat):Rat:=if n=0 then q else 0
theorem Zne {n:Int} (h:n≠0) (q:Rat):zq n q=0:=if_neg h
theorem Znh {n:Int} {q:Rat} (h:∃ x y,IsP q x y):∃ x y,IsP (zq n q) x y:=by
 by_cases hn:n=0
 ·subst hn;exact h
 ·rw[Zne hn];exact⟨_,_,Zad⟩
theorem Znj (n:Int) (q:Rat):zq n (zq n q)=zq n q:=by unfold zq;split<;>rfl
theorem ZnU (n:Int) (a b:Rat):zq n (a+b)=zq n a+zq n b:=by unfold zq;split<;>grind
theorem Zon {n:Int} {q:Rat} (h:0<=q):0<=zq n q:=by unfold zq;split<;>grind
def SmP (b:Nat) (n:Int) (q:Rat) (w:World) (e:Ending) (w':World):Prop:=∃ x y,IsP q x y/\SmV b (pV x y) n w e w'
theorem Zic {q:Rat} {s t:ByteArray} (hq:IsP q s t) {b:Nat} {n:Int} {w:World} (h:w.heap[b]?=some (smO n)) :
  Calls Tryz.prog 84 #[.pointer (some ⟨b,0,none⟩),pV s t,.int .i64 0] w (SmP b n (zq n q) w):=by
 refine(ZgW s t 0 h).mono ?_
 rintro e w' ⟨rfl,h1,h2⟩
 by_cases hn:n=0
 ·subst hn
  exact⟨s,t,hq,rfl,h1,h2⟩
 ·rw[if_neg hn] at h2
  rw[if_neg (fun h=>hn h.1),Zne hn]
  exact⟨_,_,Zad,rfl,h1,h2⟩
theorem ZcT (n low high:Int) (w:World):Calls Tryz.prog 79 #[.int .i64 n,.int .i64 low,.int .i64 high] w (Z3 w (decide (low<=n) && decide (n<=high))):=by
 by_cases h1:low<=n
 all_goals by_cases h2:n<=high
 all_goals
  go_enter Tryz.func79,Tryz.ntmps79
  go_wp2
  go_ret
  exact⟨by first | (rw[decide_eq_false (show ¬ low<=n by omega)];rfl) | simp[h1,h2],Zoq _ _⟩
theorem ZfQ (k:Nat) (s t:ByteArray) (hs:s.size<=1000000) (ht:t.size<=1000000) (w:World) :
  Calls Tryz.prog 87 #[pV s t,.int .i64 k] w (Z3 w (Zw k (s,t))):=by
 have HAL:=Zpe ((Zoq w.heap.size w).alloc Zpf (pObj s t))
 by_cases h1:(s.size:Int)<=k
 ·by_cases h2:(t.size:Int)<=k
  ·have HR:Hid (Zw k (s,t)=okP s t):=by
    show _=_
    unfold Zw
    rw[decide_eq_true (p:=(s,t).1.size<=k) (by show s.size<=k;omega),decide_eq_true (p:=(s,t).2.size<=k) (by show t.size<=k;omega)]
    simp
   rw[HR.out]
   go_enter Tryz.func87,Tryz.ntmps87
   go_wp2_with fail
   refine(ZbF s t _ hs ht).mono ?_
   rintro e w2 ⟨rfl,hb⟩
   have HB2:=Zpe (HAL.out.trans (hb.mono HAL.out.size))
   clear hb
   cases h3:okP s t
   all_goals
    first | rw[ZaM h3] | rw[Zbg h3]
    have H3:=Zpe h3
    clear h3
    go_wp2
    go_ret
    exact⟨by rw[H3.out];rfl,HB2.out⟩
  ·have HR:Hid (Zw k (s,t)=false):=by
    show _=_
    unfold Zw
    rw[decide_eq_false (p:=(s,t).2.size<=k) (by show ¬ t.size<=k;omega)]
    simp
   go_enter Tryz.func87,Tryz.ntmps87
   go_wp2
   go_ret
   exact⟨by rw[HR.out];rfl,HAL.out⟩
 ·have HR:Hid (Zw k (s,t)=false):=by
   show _=_
   unfold Zw
   rw[decide_eq_false (p:=(s,t).1.size<=k) (by show ¬ s.size<=k;omega)]
   simp
  go_enter Tryz.func87,Tryz.ntmps87
  go_wp2
  go_ret
  exact⟨by rw[HR.out];rfl,HAL.out⟩
theorem Zk8 {n:Int} (h0:0<=n) (h1:n<=48) {x y:ByteArray} (hx:IsP ((n:Int):Rat) x y) (w:World) :
  Calls Tryz.prog 89 #[.int .i64 n] w (ZV (pV x y) w):=by
 have HC:Hid (∀ W,Calls Tryz.prog 144 #[.int .i64 n,.int .i64 1] W (ZV (.tuple #[pV x y,.int .i64 0]) W)):=fun W=>by
  refine(ZkO n 1 Za Za Zd Zd W).mono ?_
  rintro e w' ⟨u,v,k,rfl,h,hb⟩
  rcases h with ⟨h,_⟩ | ⟨_,h,_⟩ | ⟨_,_,h⟩
  ·omega
  ·cases h
  ·have e1:mkRat (n.toNat:Nat) (1:Int).toNat=((n:Int):Rat):=by
    obtain⟨k,rfl⟩:∃ k:Nat,n=k:=⟨n.toNat,Za⟩
    have h:∀ k:Nat,k<=48->mkRat ((k:Int).toNat:Nat) (1:Int).toNat=(((k:Nat):Int):Rat):=by decide +kernel
    exact h k Za
   obtain⟨rfl,rfl,rfl⟩:=Zcf h hx e1
   exact⟨rfl,hb⟩
 have HE0:Hid (Env w.heap.size w [(w.heap.size,pObj Zpa Zpa)] [] (w.alloc (pObj Zpa Zpa))):=(Env.start w).push _ rfl
 clear hx h0 h1
 go_enter Tryz.func89,Tryz.ntmps89
 go_wp2_with fail
 refine(HC.out _).mono ?_
 rintro e w1 ⟨rfl,hb⟩
 have HE1:=Zpe (((HE0.out.step hb).push (pObj x y) rfl).only [1,0] _ rfl Zd)
 clear hb HE0
 have r0:=HE1.out.cell 0 0 rfl rfl
 have r1:=HE1.out.cell 0 1 rfl rfl
 have f0:=HE1.out.free 0 0 rfl
 have f1:=HE1.out.free 0 1 rfl
 have c0:=HE1.out.cell 1 0 (v:=.string x) rfl rfl
 have c1:=HE1.out.cell 1 1 (v:=.string y) rfl rfl
 go_wp2
 have HE9:=Zpe (HE1.out.fill (.string x) (.string y))
 have q0:=HE9.out.cell 0 0 (v:=.string x) rfl rfl
 have q1:=HE9.out.cell 0 1 (v:=.string y) rfl rfl
 exact Zor (v:=pV x y) (by simp[results,Tryz.f89,go_sem,q0,q1]) rfl ⟨rfl,HE9.out.base⟩
theorem Zb0.open {t:TaskP} {b:Nat} {sv hv rv:Value} {w:World} (h:Zb0 b (TaskIn t sv hv rv) w) (ok:TaskOk t) :
  ∃ sb so sc hb ho hc rb ro rk cv rq rp rc,sv=.slice (some ⟨sb,so,none⟩) t.sites.length sc/\hv=.slice (some ⟨hb,ho,none⟩) t.hours.length hc/\rv=.slice (some ⟨rb,ro,none⟩) t.rates.length rk/\
   (t.sites.length<=sc/\sc<=9223372036854775807)/\(t.hours.length<=hc/\hc<=9223372036854775807)/\(t.rates.length<=rk/\rk<=9223372036854775807)/\
   ∀ w',Keeps (NotM b) w w'->TaskAt t sb so hb ho rb ro cv rq rp rc w':=by
 obtain⟨w1,h1,h2,h3⟩:=h
 obtain⟨sb,so,sc,hb,ho,hc,rb,ro,rk,cv,rq,rp,rc,e1,e2,e3,k1,k2,k3,k4⟩:=h1.open ok
 exact⟨sb,so,sc,hb,ho,hc,rb,ro,rk,cv,rq,rp,rc,e1,e2,e3,k1,k2,k3,fun w' hk=>k4 w' (h2.trans ((hk.mono fun c _ hc=>(by show c≠b;omega):Keeps (fun c=>c<w1.heap.size) w w').toBelow h2.size))⟩
theorem Zew {t:TaskP} {p:List (List Int)} {b:Nat} {sv hv rv pv:Value} {pb po pc:Nat} {gq gp gc:Nat->Nat} {w:World} (hE:Zb0 b (TaskIn t sv hv rv) w) (hP:PlanW p t.sites.length b pv pb po pc gq gp gc w) {E:Int} (hs:w.heap[b]?=some (smO E)) (ok:TaskOk t) (inn:Zbu t p) {i:Nat} (hi:i<t.sites.length) :
  Calls Tryz.prog 73 #[.pointer (some ⟨b,0,none⟩),.agg #[sv,hv,rv],pv,.int .i64 i] w (SmP b E (zq E (covR t p i)) w):=by
 obtain⟨sb,so,sc,hb,ho,hc,rb,ro,rk,cv,rq,rp,rc,rfl,rfl,rfl,k1,k2,k3,hA⟩:=hE.open ok
 obtain rfl:=hP.val
 obtain⟨N,hN⟩:=Zpg t.sites.length
 obtain⟨T,hT⟩:=Zpg p.length
 have hTR:t.rates.length=T:=by rw[ok.rates,<- inn.1,hT]
 have hTH:t.hours.length=T:=by rw[<- inn.1,hT]
 have HC:Hid (∀ u,u<T->∀ V,Keeps (NotM b) w V->(V.cell? ⟨rb,ro+u,none⟩=some (.slice (some ⟨rq u,rp u,none⟩) N (rc u))/\V.cell? ⟨rq u,rp u+i*2,none⟩=some (.string (eR t u i).1)/\V.cell? ⟨rq u,rp u+i*2+1,none⟩=some (.string (eR t u i).2))/\
   (V.cell? ⟨pb,po+u,none⟩=some (.slice (some ⟨gq u,gp u,none⟩) N (gc u))/\V.cell? ⟨gq u,gp u+i,none⟩=some (.int .i64 (pN p u i)))):=fun u hu V hV=>by
  obtain⟨a1,_,_,a2⟩:=(hA V hV).rate u (by rw[hTR];exact hu)
  obtain⟨b1,_,_,b2⟩:=(hP.keep hV).at' u (by rw[hT];exact hu)
  rw[hN] at a1 a2 b1 b2
  rw[hN] at hi
  exact⟨⟨a1,a2 i hi⟩,b1,b2 i hi⟩
 have HF:Hid (∀ k,k<T->(∃ x y,IsP (ZaW t p i (k+1)) x y)/\(∃ x y,IsP (rR t k i*((pN p k i:Int):Rat)) x y)/\(∃ x y,IsP ((pN p k i:Int):Rat) x y)/\IsP (rR t k i) (eR t k i).1 (eR t k i).2/\0<=pN p k i/\pN p k i<=48):=fun k hk=>by
  have hn:=inn.2.2 k i (by rw[hT];exact hk) hi
  exact⟨(ZcW ok inn hi (by rw[hT];exact hk)).1,(Zfq ok inn (by rw[hT];exact hk) hi).1,(Zd3 hn.1 hn.2).1,(Zd6 ok (by rw[hTR];exact hk) hi).1,hn.1,hn.2⟩
 have HT:Hid (p.length=T):=hT
 have zz:zq E 0=0:=by unfold zq;split<;>rfl
 have hT8:T<=8:=by rw[<- hTH];exact ok.teams.2
 have hpc:T<=pc/\pc<=9223372036854775807:=by rw[<- hT];exact hP.cap
 have hrk:T<=rk/\rk<=9223372036854775807:=by rw[<- hTR];exact k3
 have hN24:N<=24:=by rw[<- hN];exact ok.sites.2
 have HS:=Zpe hs
 rw[hN] at hi
 rw[hN,hTH,hTR,hT]
 clear hE hP ok inn hA k1 k2 k3 hN hT hTR hTH hs
 obtain⟨G,hG⟩:=Zpg w.heap.size
 have HE0:Hid (SmK b E w [(G+1,pObj Zpa Zpa),(G,efO (.slice (some ⟨sb,so,none⟩) N sc) (.slice (some ⟨hb,ho,none⟩) T hc) (.slice (some ⟨rb,ro,none⟩) T rk))] ((w.alloc (efO (.slice (some ⟨sb,so,none⟩) N sc) (.slice (some ⟨hb,ho,none⟩) T hc) (.slice (some ⟨rb,ro,none⟩) T rk))).alloc (pObj Zpa Zpa))):=
  ((SmK.start HS.out).push _ hG.symm).push _ (by simp[hG])
 go_enter Tryz.func73,Tryz.ntmps73
 go_wp2_with fail
 refine(Zcw _).mono ?_
 rintro e w1 ⟨rfl,hb1⟩
 obtain⟨g,hg⟩:=Zpg w1.heap.size
 have HE1:=Zpe ((HE0.out.step hb1).push (pObj ⟨#[48]⟩ ⟨#[49]⟩) hg.symm)
 obtain⟨w2,hw2⟩:=Zpg (w1.alloc (pObj ⟨#[48]⟩ ⟨#[49]⟩))
 rw[hw2] at HE1
 clear hb1 HE0
 go_wp2_with fail
 try rw[hg]
 try rw[hw2]
 try rw[hG]
 clear hg hw2 hG
 go_loopw [10] (fun v wr=>∃ (k:Nat) (a:Rat) (x y:ByteArray),v=.int .i64 k/\k<=T/\Hid (IsP a x y)/\Hid (a=zq E (ZaW t p i k))/\Hid (SmK b E w [(g,pObj x y),(G+1,pObj Zpa Zpa),(G,efO (.slice (some ⟨sb,so,none⟩) N sc) (.slice (some ⟨hb,ho,none⟩) T hc) (.slice (some ⟨rb,ro,none⟩) T rk))] wr)) (fun v _=>T-(intOf v).toNat)
 case atStart=>exact⟨0,zq E 0,_,_,rfl,ZoD _,by rw[zz];exact Zad,rfl,HE1⟩
 case round=>
  obtain⟨k,a,x,y,rfl,hk,HIA,HEQ,HE⟩:=hrel
  clear HE1
  by_cases hlt:k<T
  ·have HK:=Zpe (HC.out k hlt)
   have hF:=HF.out k hlt
   have HNX:Hid (zq E (ZaW t p i (k+1))=a+zq E (rR t k i*((pN p k i:Int):Rat))):=by rw[HEQ.out,<- ZnU];rfl
   obtain⟨q1,hq1⟩:=Zpg (rq k)
   obtain⟨o1,ho1⟩:=Zpg (rp k)
   obtain⟨c1,hc1⟩:=Zpg (rc k)
   obtain⟨q2,hq2⟩:=Zpg (gq k)
   obtain⟨o2,ho2⟩:=Zpg (gp k)
   obtain⟨c2,hc2⟩:=Zpg (gc k)
   obtain⟨n,hn⟩:=Zpg (pN p k i)
   obtain⟨⟨s1,t1⟩,hs1⟩:∃ z,eR t k i=z:=⟨_,rfl⟩
   rw[hq1,ho1,hc1,hq2,ho2,hc2,hn,hs1] at HK
   rw[hn,hs1] at hF
   rw[hn] at HNX
   dsimp only at HK hF
   obtain⟨⟨x9,y9,hx9⟩,⟨x8,y8,hx8⟩,⟨xr,yr,hxr⟩,hrr,hn0,hn1⟩:=hF
   obtain⟨u9,v9,hx9⟩:=Znh (n:=E) ⟨x9,y9,hx9⟩
   have HX9:=Zpe hx9
   have HX8:=Zpe hx8
   have HXR:=Zpe hxr
   have HRR:=Zpe hrr
   clear hx9 hx8 hxr hrr hq1 ho1 hc1 hq2 ho2 hc2 hn hs1
   have i0':(0:Int)<=(k:Int):=Za
   have i1':(k:Int)<(T:Int):=Za
   have j0':(0:Int)<=(i:Int):=Za
   have j1':(i:Int)<(N:Int):=Za
   go_wp2_with fail
   refine ZP [(1,0),(1,1),(1,2),(1,3),(1,4),(1,5),(1,6),(1,7),(1,8),(1,9),(1,10),(1,11),(1,12),(1,13),(1,14),(1,15),(1,16),(1,17),(0,18),(0,19),(1,20),(1,21),(0,22),(0,23),(1,24),(1,25),(0,26),(0,27)] (SmK b E w [(g,pObj x y),(G+1,pObj Zpa Zpa),(G,efO (.slice (some ⟨sb,so,none⟩) N sc) (.slice (some ⟨hb,ho,none⟩) T hc) (.slice (some ⟨rb,ro,none⟩) T rk))]) (fun i=>i==27)
    Zb Zb (fun j hj=>by have h:28<=j:=hj;simp;omega) Zi HE.out.drew ?_
   obtain⟨w4,hw4⟩:=Zpg wr.drew
   have HE4:=Zpe HE.out.drew
   rw[hw4] at HE4 ⊢
   clear hw4 HE
   iterate 18
    refine Zx _ rfl rfl (fun w' hS=>by have c0:=hS.cell 0 0 (v:=.string x) rfl rfl;have c1:=hS.cell 0 1 (v:=.string y) rfl rfl;have d0:=hS.cell 2 2 (v:=.slice (some ⟨rb,ro,none⟩) T rk) rfl rfl;obtain⟨⟨e0,e1,e2⟩,e3,e4⟩:=HK.out _ hS.base;exact Ze) ?_
    simp only[Act.put,Zl]
   refine Zy 89 _ rfl rfl Zf ?_
   have HEC:=HE4
   refine(Zk8 hn0 hn1 HXR.out _).mono ?_
   rintro e w5 ⟨rfl,hb⟩
   have HE5:=Zpe (HEC.out.step hb)
   refine .inl ⟨_,rfl,HE5.out,?_⟩
   clear hb HEC
   simp only[Act.put,Zl]
   refine Zy 86 _ rfl rfl Zf ?_
   have HEC:=HE5
   refine(Zfy HRR.out HXR.out HX8.out rfl _).mono ?_
   rintro e w6 ⟨rfl,hb⟩
   have HE6:=Zpe (HEC.out.step hb)
   refine .inl ⟨_,rfl,HE6.out,?_⟩
   clear hb HEC
   simp only[Act.put,Zl]
   iterate 2
    refine Zx _ rfl rfl (fun w' hS=>Ze) ?_
    simp only[Act.put,Zl]
   refine Zy 84 _ rfl rfl Zf ?_
   have HEC:=HE6
   refine(Zic HX8.out HEC.out.sm).mono ?_
   rintro e w7 ⟨x7,y7,hx7,rfl,hb⟩
   have HE7:=Zpe (HEC.out.call hb)
   refine .inl ⟨_,rfl,HE7.out,?_⟩
   clear hb HEC
   simp only[Act.put,Zl]
   have HX7:=Zpe hx7
   clear hx7
   refine Zy 88 _ rfl rfl Zf ?_
   have HEC:=HE7
   refine(Zhe HIA.out HX7.out HX9.out HNX.out.symm _).mono ?_
   rintro e w8 ⟨rfl,hb⟩
   have HE8:=Zpe (HEC.out.step hb)
   refine .inl ⟨_,rfl,HE8.out,?_⟩
   clear hb HEC
   simp only[Act.put,Zl]
   iterate 2
    refine Zx _ rfl rfl (fun w' hS=>Ze) ?_
    simp only[Act.put,Zl]
   refine Zy 84 _ rfl rfl Zf ?_
   have HEC:=HE8
   refine(Zic HX9.out HEC.out.sm).mono ?_
   rintro e w9 ⟨x6,y6,hx6,rfl,hb⟩
   have HE9:=Zpe (HEC.out.call hb)
   refine .inl ⟨_,rfl,HE9.out,?_⟩
   clear hb HEC
   simp only[Act.put,Zl]
   have HX6:Hid (IsP (zq E (ZaW t p i (k+1))) x6 y6):=by rw[<- Znj];exact hx6
   clear hx6
   have r0:=HE9.out.cell 0 0 rfl rfl
   have r1:=HE9.out.cell 0 1 rfl rfl
   have f0:=HE9.out.free 0 0 rfl
   have f1:=HE9.out.free 0 1 rfl
   refine ZB rfl rfl fun K hK=>?_
   go_simp
   have HE10:=Zpe (HE9.out.fill (.string x6) (.string y6))
   refine hK _ _ (.inl rfl) ?_
   clear hK K r0 r1 f0 f1 HE4 HE5 HE6 HE7 HE8 HE9
   refine ZD ?_
   go_wp2
   go_roundw
   case rel=>exact⟨k+1,_,x6,y6,by go_num,Za,HX6,rfl,HE10⟩
   case measure=>exact Zj
  ·have hkm:k=T:=Za
   have HAA:Hid (IsP (zq E (covR t p i)) x y):=by
    have h:=HIA.out
    rw[HEQ.out,hkm] at h
    unfold covR
    rw[HT.out]
    exact h
   have HE1:=Zpe (HE.out.only [1,0] _ rfl Zd)
   clear hkm
   have c0:=HE1.out.cell 1 0 (v:=.string x) rfl rfl
   have c1:=HE1.out.cell 1 1 (v:=.string y) rfl rfl
   have r0:=HE1.out.cell 0 0 rfl rfl
   have r1:=HE1.out.cell 0 1 rfl rfl
   have f0:=HE1.out.free 0 0 rfl
   have f1:=HE1.out.free 0 1 rfl
   go_wp2
   have HE9:=Zpe (HE1.out.fill (.string x) (.string y))
   have q0:=HE9.out.cell 0 0 (v:=.string x) rfl rfl
   have q1:=HE9.out.cell 0 1 (v:=.string y) rfl rfl
   exact Zor (v:=Zpb x y) (by simp[results,Tryz.f73,go_sem,q0,q1]) rfl ⟨x,y,HAA.out,rfl,HE9.out.done⟩
end Go.Proofs.YtmpaflidennnoaaGreatDoor
