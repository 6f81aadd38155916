/- The parts DOps, RInt, RInt2, REBase, RECover, RCurveL, Slope. -/
import Derived.Test.YtmpaflidennnoaaGreatDoorH14
set_option maxRecDepth 100000
set_option maxHeartbeats 4000000
set_option linter.unusedVariables false
set_option linter.unusedSimpArgs false
namespace Go.Proofs.YtmpaflidennnoaaGreatDoor
open Go.RowKit Go.Shelf
attribute [local go_sem ↓] Go.wp_at_zero Go.wp_at_succ
theorem ZcC (w:World):Calls Tryz.prog 53 #[] w (Z1 (pV ⟨#[48]⟩ ⟨#[49]⟩) w):=by
 go_enter Tryz.func53,Tryz.ntmps53
 go_wp2
 have HB1:Hid (Below w.heap.size w (w.alloc (pObj ⟨#[48]⟩ ⟨#[49]⟩))):=(ZoL _ w).alloc ZpA _
 have c0:=ZK w #[.string ⟨#[48]⟩,.string ⟨#[49]⟩] 41 0 rfl
 have c1:=ZK w #[.string ⟨#[48]⟩,.string ⟨#[49]⟩] 41 1 rfl
 refine ZoM (v:=pV ⟨#[48]⟩ ⟨#[49]⟩) (by simp[results,Tryz.f53,go_sem,c0,c1]) rfl ⟨rfl,HB1.out⟩
theorem Zko {q r p:Rat} {s t u v x y:ByteArray} (ha:IsP q s t) (hb:IsP r u v) (hx:IsP p x y) (hq:q+r=p) (w:World) :
  Calls Tryz.prog 88 #[pV s t,pV u v] w (Z1 (.tuple #[pV x y,.int .i64 0]) w):=by
 refine(ZiF s t u v w ha.le.1 ha.le.2 hb.le.1 hb.le.2).mono ?_
 rintro e w' ⟨x',y',n,rfl,h,hbb⟩
 rcases h with ⟨h,_⟩ | ⟨_,h⟩
 ·rw[ha.oks hb] at h;cases h
 ·rw[ha.rat,hb.rat] at h
  obtain⟨rfl,rfl,rfl⟩:=Zcn h hx hq
  exact⟨rfl,hbb⟩
theorem Zho {q r p:Rat} {s t u v x y:ByteArray} (ha:IsP q s t) (hb:IsP r u v) (hx:IsP p x y) (hq:q*r=p) (w:World) :
  Calls Tryz.prog 86 #[pV s t,pV u v] w (Z1 (.tuple #[pV x y,.int .i64 0]) w):=by
 refine(ZmW s t u v w ha.le.1 ha.le.2 hb.le.1 hb.le.2).mono ?_
 rintro e w' ⟨x',y',n,rfl,h,hbb⟩
 rcases h with ⟨h,_⟩ | ⟨_,h⟩
 ·rw[ha.oks hb] at h;cases h
 ·rw[ha.rat,hb.rat] at h
  obtain⟨rfl,rfl,rfl⟩:=Zcn h hx hq
  exact⟨rfl,hbb⟩
theorem Zhg {q r p:Rat} {s t u v x y:ByteArray} (ha:IsP q s t) (hb:IsP r u v) (hx:IsP p x y) (hq:q-r=p) (w:World) :
  Calls Tryz.prog 105 #[pV s t,pV u v] w (Z1 (.tuple #[pV x y,.int .i64 0]) w):=by
 refine(Zng s t u v w ha.le.1 ha.le.2 hb.le.1 hb.le.2).mono ?_
 rintro e w' ⟨x',y',n,rfl,h,hbb⟩
 rcases h with ⟨h,_⟩ | ⟨_,h⟩
 ·rw[ha.oks hb] at h;cases h
 ·rw[ha.rat,hb.rat] at h
  rcases h with ⟨h,_⟩ | ⟨_,h⟩
  ·have:=hx.nn;grind
  ·obtain⟨rfl,rfl,rfl⟩:=Zcn h hx hq
   exact⟨rfl,hbb⟩
theorem Zn7 {q r p:Rat} {s t u v x y:ByteArray} (ha:IsP q s t) (hb:IsP r u v) (hx:IsP p x y) (h0:0<r) (hq:q/r=p) (w:World) :
  Calls Tryz.prog 145 #[pV s t,pV u v] w (Z1 (.tuple #[pV x y,.int .i64 0]) w):=by
 refine(Zm7 s t u v w ha.le.1 ha.le.2 hb.le.1 hb.le.2).mono ?_
 rintro e w' ⟨x',y',n,rfl,h,hbb⟩
 rcases h with ⟨h,_⟩ | ⟨_,h⟩
 ·rw[ha.oks hb] at h;cases h
 ·rw[ha.rat,hb.rat] at h
  rcases h with ⟨h,_⟩ | ⟨_,h⟩
  ·grind
  ·obtain⟨rfl,rfl,rfl⟩:=Zcn h hx hq
   exact⟨rfl,hbb⟩
theorem ZbY {q r:Rat} {n:Int} {s t u v:ByteArray} (ha:IsP q s t) (hb:IsP r u v) (hn:sgnR q r=n) (w:World) :
  Calls Tryz.prog 56 #[pV s t,pV u v] w (Z1 (.int .i64 n) w):=by
 refine(ZiS s t u v w ha.le.1 ha.le.2 hb.le.1 hb.le.2).mono ?_
 rintro e w' ⟨m,rfl,h,hbb⟩
 rcases h with ⟨h,_⟩ | ⟨_,h⟩
 ·rw[ha.oks hb] at h;cases h
 ·rw[ha.rat,hb.rat,hn] at h
  subst h
  exact⟨rfl,hbb⟩
theorem Zde (s t:ByteArray) (n:Int) (w:World):Calls Tryz.prog 164 #[pV s t,.int .i64 n] w (Z1 (pV s t) w):=by
 go_enter Tryz.func164,Tryz.ntmps164
 go_wp2
 have HB1:Hid (Below w.heap.size w ((w.alloc (pObj s t)).alloc (pObj s t))):=((ZoL _ w).alloc ZpA _).alloc Zc _
 have c0:=ZK (w.alloc (pObj s t)) #[.string s,.string t] 41 (b:=w.heap.size+1) 0 Zc
 have c1:=ZK (w.alloc (pObj s t)) #[.string s,.string t] 41 (b:=w.heap.size+1) 1 Zc
 refine ZoM (v:=pV s t) (by simp[results,Tryz.f164,go_sem,c0,c1]) rfl ⟨rfl,?_⟩
 first | exact HB1.out | (have h:=HB1.out;simpa using h)
theorem Zkp (n low high:Int) (w:World):Calls Tryz.prog 161 #[.int .i64 n,.int .i64 low,.int .i64 high] w (Z5 w (decide (low<=n) && decide (n<=high))):=by
 by_cases h1:low<=n
 ·by_cases h2:n<=high
  ·go_enter Tryz.func161,Tryz.ntmps161
   go_wp2
   go_ret
   exact⟨by simp[h1,h2],ZoL _ _⟩
  ·go_enter Tryz.func161,Tryz.ntmps161
   go_wp2
   go_ret
   exact⟨by simp[h1,h2],ZoL _ _⟩
 ·go_enter Tryz.func161,Tryz.ntmps161
  go_wp2
  go_ret
  exact⟨by rw[decide_eq_false (show ¬ low<=n by omega)];rfl,ZoL _ _⟩
theorem ZgS (s t:ByteArray) (hs:s.size<=1000000) (ht:t.size<=1000000) (w:World):Calls Tryz.prog 162 #[pV s t] w (Z5 w (Zw 18 (s,t))):=by
 obtain⟨r,hr⟩:=ZpB (Zw 18 (s,t))
 have hal:=(ZoL w.heap.size w).alloc ZpA (pObj s t)
 have HAL:=Zpz hal
 by_cases h1:(s.size:Int)<=18
 ·by_cases h2:(t.size:Int)<=18
  ·cases h3:okP s t
   ·have HR:Hid (Zw 18 (s,t)=false):=by unfold Zw;show _=_;simp[h3]
    have HE:=Zpz (ZaM h3)
    clear h3 hr hal
    go_enter Tryz.func162,Tryz.ntmps162
    go_wp2_with fail
    refine(ZbN s t _ hs ht).mono ?_
    rintro e w2 ⟨rfl,hb⟩
    rw[HE.out]
    have HB:=Zpz (HAL.out.trans (hb.mono HAL.out.size))
    clear hb
    go_wp2
    go_ret
    exact⟨by rw[HR.out];rfl,HB.out⟩
   ·have HR:Hid (Zw 18 (s,t)=true):=by unfold Zw;show _=_;simp[h3];omega
    have HE:=Zpz (Zbj h3)
    clear h3 hr hal
    go_enter Tryz.func162,Tryz.ntmps162
    go_wp2_with fail
    refine(ZbN s t _ hs ht).mono ?_
    rintro e w2 ⟨rfl,hb⟩
    rw[HE.out]
    have HB:=Zpz (HAL.out.trans (hb.mono HAL.out.size))
    clear hb
    go_wp2
    go_ret
    exact⟨by rw[HR.out];rfl,HB.out⟩
  ·have HR:Hid (Zw 18 (s,t)=false):=by
    show _=_
    unfold Zw
    rw[decide_eq_false (p:=(s,t).2.size<=18) (by show ¬ t.size<=18;omega)]
    simp
   clear hr hal
   go_enter Tryz.func162,Tryz.ntmps162
   go_wp2
   go_ret
   exact⟨by rw[HR.out];rfl,HAL.out⟩
 ·have HR:Hid (Zw 18 (s,t)=false):=by
   show _=_
   unfold Zw
   rw[decide_eq_false (p:=(s,t).1.size<=18) (by show ¬ s.size<=18;omega)]
   simp
  clear hr hal
  go_enter Tryz.func162,Tryz.ntmps162
  go_wp2
  go_ret
  exact⟨by rw[HR.out];rfl,HAL.out⟩
theorem Zl0 (s t:ByteArray) (hs:s.size<=1000000) (ht:t.size<=1000000) (w:World):Calls Tryz.prog 138 #[pV s t] w (Z5 w (Zw 300 (s,t))):=by
 obtain⟨r,hr⟩:=ZpB (Zw 300 (s,t))
 have hal:=(ZoL w.heap.size w).alloc ZpA (pObj s t)
 have HAL:=Zpz hal
 by_cases h1:(s.size:Int)<=300
 ·by_cases h2:(t.size:Int)<=300
  ·cases h3:okP s t
   ·have HR:Hid (Zw 300 (s,t)=false):=by unfold Zw;show _=_;simp[h3]
    have HE:=Zpz (ZaM h3)
    clear h3 hr hal
    go_enter Tryz.func138,Tryz.ntmps138
    go_wp2_with fail
    refine(ZbN s t _ hs ht).mono ?_
    rintro e w2 ⟨rfl,hb⟩
    rw[HE.out]
    have HB:=Zpz (HAL.out.trans (hb.mono HAL.out.size))
    clear hb
    go_wp2
    go_ret
    exact⟨by rw[HR.out];rfl,HB.out⟩
   ·have HR:Hid (Zw 300 (s,t)=true):=by unfold Zw;show _=_;simp[h3];omega
    have HE:=Zpz (Zbj h3)
    clear h3 hr hal
    go_enter Tryz.func138,Tryz.ntmps138
    go_wp2_with fail
    refine(ZbN s t _ hs ht).mono ?_
    rintro e w2 ⟨rfl,hb⟩
    rw[HE.out]
    have HB:=Zpz (HAL.out.trans (hb.mono HAL.out.size))
    clear hb
    go_wp2
    go_ret
    exact⟨by rw[HR.out];rfl,HB.out⟩
  ·have HR:Hid (Zw 300 (s,t)=false):=by
    show _=_
    unfold Zw
    rw[decide_eq_false (p:=(s,t).2.size<=300) (by show ¬ t.size<=300;omega)]
    simp
   clear hr hal
   go_enter Tryz.func138,Tryz.ntmps138
   go_wp2
   go_ret
   exact⟨by rw[HR.out];rfl,HAL.out⟩
 ·have HR:Hid (Zw 300 (s,t)=false):=by
   show _=_
   unfold Zw
   rw[decide_eq_false (p:=(s,t).1.size<=300) (by show ¬ s.size<=300;omega)]
   simp
  clear hr hal
  go_enter Tryz.func138,Tryz.ntmps138
  go_wp2
  go_ret
  exact⟨by rw[HR.out];rfl,HAL.out⟩
theorem ZmN (s t:ByteArray) (w:World) (hs:s.size<=1000000) (ht:t.size<=1000000) :
  Calls Tryz.prog 191 #[.string s,.string t] w (ZL (Made s t) w):=by
 cases h1:ZU s.data.toList
 ·have H1:=Zpz h1
  obtain⟨b2,hb2⟩:=ZpB (ZU t.data.toList)
  have H2:=Zpz hb2
  clear h1 hb2
  go_enter Tryz.func191,Tryz.ntmps191
  go_wp2_with fail
  obtain⟨w1,hw1⟩:=ZpB (w.alloc (Zpx Zpv Zpv))
  rw[hw1]
  have HX1:Hid (Zv w.heap.size [Zpx Zpv Zpv] w1):=by rw[<- hw1];exact Zv.one w _
  have HB1:Zpt w w1:=by rw[<- hw1];exact(ZoL _ w).alloc ZpA _
  clear hw1
  refine(Zau s _ hs).mono ?_
  rintro e w2 ⟨rfl,rfl⟩
  rw[H1.out]
  go_wp2_with fail
  refine(Zau t _ ht).mono ?_
  rintro e w3 ⟨rfl,rfl⟩
  rw[H2.out]
  have r0:=HX1.out.cell 0 0 (b:=w.heap.size) rfl rfl rfl
  have r1:=HX1.out.cell 0 1 (b:=w.heap.size) rfl rfl rfl
  have f0:=HX1.out.free 0 0 (b:=w.heap.size) rfl rfl
  have f1:=HX1.out.free 0 1 (b:=w.heap.size) rfl rfl
  go_wp2
  have q:=Zu (HX1.out.block 0 (b:=w.heap.size) rfl rfl) (.string Zpv) (.string Zpv)
  have HBQ:=Zpz (Zs HB1.out (b:=w.heap.size) Za (.string Zpv) (.string Zpv))
  obtain⟨w9,hw9⟩:=ZpB ((w1.setCell ⟨w.heap.size,0,none⟩ (.string Zpv)).setCell ⟨w.heap.size,1,none⟩ (.string Zpv))
  rw[hw9] at q HBQ
  obtain⟨q0,q1⟩:=q
  rw[hw9]
  clear r0 r1 f0 f1 hw9
  go_wp2
  refine ZoM (v:=.tuple #[Zpw Zpv Zpv,.int .i64 2]) (by simp[results,Tryz.f191,go_sem,q0,q1]) rfl ⟨_,_,_,rfl,?_,HBQ.out⟩
  exact .inl ⟨by rw[H1.out];rfl,rfl,rfl,rfl⟩
 ·have H1:=Zpz h1
  clear h1
  cases h2:ZU t.data.toList
  ·have H2:=Zpz h2
   clear h2
   go_enter Tryz.func191,Tryz.ntmps191
   go_wp2_with fail
   obtain⟨w1,hw1⟩:=ZpB (w.alloc (Zpx Zpv Zpv))
   rw[hw1]
   have HX1:Hid (Zv w.heap.size [Zpx Zpv Zpv] w1):=by rw[<- hw1];exact Zv.one w _
   have HB1:Zpt w w1:=by rw[<- hw1];exact(ZoL _ w).alloc ZpA _
   clear hw1
   refine(Zau s _ hs).mono ?_
   rintro e w2 ⟨rfl,rfl⟩
   rw[H1.out]
   go_wp2_with fail
   refine(Zau t _ ht).mono ?_
   rintro e w3 ⟨rfl,rfl⟩
   rw[H2.out]
   have r0:=HX1.out.cell 0 0 (b:=w.heap.size) rfl rfl rfl
   have r1:=HX1.out.cell 0 1 (b:=w.heap.size) rfl rfl rfl
   have f0:=HX1.out.free 0 0 (b:=w.heap.size) rfl rfl
   have f1:=HX1.out.free 0 1 (b:=w.heap.size) rfl rfl
   go_wp2
   have q:=Zu (HX1.out.block 0 (b:=w.heap.size) rfl rfl) (.string Zpv) (.string Zpv)
   have HBQ:=Zpz (Zs HB1.out (b:=w.heap.size) Za (.string Zpv) (.string Zpv))
   obtain⟨w9,hw9⟩:=ZpB ((w1.setCell ⟨w.heap.size,0,none⟩ (.string Zpv)).setCell ⟨w.heap.size,1,none⟩ (.string Zpv))
   rw[hw9] at q HBQ
   obtain⟨q0,q1⟩:=q
   rw[hw9]
   clear r0 r1 f0 f1 hw9
   go_wp2
   refine ZoM (v:=.tuple #[Zpw Zpv Zpv,.int .i64 2]) (by simp[results,Tryz.f191,go_sem,q0,q1]) rfl ⟨_,_,_,rfl,?_,HBQ.out⟩
   exact .inl ⟨by rw[H2.out,Bool.and_false],rfl,rfl,rfl⟩
  ·have HZ:=Zpz (Zc2 h2)
   have H2:=Zpz h2
   clear h2
   have dl:t.toList=t.data.toList:=Zo8 ..
   by_cases h0:Zq t.data.toList=0
   ·have hz:(t.toList==[48])=true:=by
     rw[dl,HZ.out.2 h0];rfl
    have H0:=Zpz h0
    clear h0 dl
    go_enter Tryz.func191,Tryz.ntmps191
    go_wp2_with fail
    obtain⟨w1,hw1⟩:=ZpB (w.alloc (Zpx Zpv Zpv))
    rw[hw1]
    have HX1:Hid (Zv w.heap.size [Zpx Zpv Zpv] w1):=by rw[<- hw1];exact Zv.one w _
    have HB1:Zpt w w1:=by rw[<- hw1];exact(ZoL _ w).alloc ZpA _
    clear hw1
    refine(Zau s _ hs).mono ?_
    rintro e w2 ⟨rfl,rfl⟩
    rw[H1.out]
    go_wp2_with fail
    refine(Zau t _ ht).mono ?_
    rintro e w3 ⟨rfl,rfl⟩
    rw[H2.out]
    have r0:=HX1.out.cell 0 0 (b:=w.heap.size) rfl rfl rfl
    have r1:=HX1.out.cell 0 1 (b:=w.heap.size) rfl rfl rfl
    have f0:=HX1.out.free 0 0 (b:=w.heap.size) rfl rfl
    have f1:=HX1.out.free 0 1 (b:=w.heap.size) rfl rfl
    go_wp2
    have q:=Zu (HX1.out.block 0 (b:=w.heap.size) rfl rfl) (.string Zpv) (.string Zpv)
    have HBQ:=Zpz (Zs HB1.out (b:=w.heap.size) Za (.string Zpv) (.string Zpv))
    obtain⟨w9,hw9⟩:=ZpB ((w1.setCell ⟨w.heap.size,0,none⟩ (.string Zpv)).setCell ⟨w.heap.size,1,none⟩ (.string Zpv))
    rw[hw9] at q HBQ
    obtain⟨q0,q1⟩:=q
    rw[hw9]
    clear r0 r1 f0 f1 hw9
    go_wp2
    refine ZoM (v:=.tuple #[Zpw Zpv Zpv,.int .i64 10]) (by simp[results,Tryz.f191,go_sem,q0,q1]) rfl ⟨_,_,_,rfl,?_,HBQ.out⟩
    exact .inr (.inl ⟨by rw[H1.out,H2.out];rfl,H0.out,rfl,rfl,rfl⟩)
   ·have hz:(t.toList==[48])=false:=by
     rw[beq_eq_false_iff_ne,dl]
     intro hc
     refine h0 (HZ.out.1 ?_)
     rw[<- Za1 t,hc];rfl
    have H0:=Zpz h0
    obtain⟨ds,ls⟩:=rnok H1.out
    obtain⟨dt,lt⟩:=rnok H2.out
    have HDS:=Zpz ds
    have HDT:=Zpz dt
    have HL:=Zpz (Zpq ls lt)
    clear h0 dl ds ls dt lt
    go_enter Tryz.func191,Tryz.ntmps191
    go_wp2_with fail
    obtain⟨w1,hw1⟩:=ZpB (w.alloc (Zpx Zpv Zpv))
    rw[hw1]
    have HX1:Hid (Zv w.heap.size [Zpx Zpv Zpv] w1):=by rw[<- hw1];exact Zv.one w _
    have HB1:Zpt w w1:=by rw[<- hw1];exact(ZoL _ w).alloc ZpA _
    clear hw1
    refine(Zau s _ hs).mono ?_
    rintro e w2 ⟨rfl,rfl⟩
    rw[H1.out]
    go_wp2_with fail
    refine(Zau t _ ht).mono ?_
    rintro e w3 ⟨rfl,rfl⟩
    rw[H2.out]
    go_wp2_with fail
    refine(ZV s hs HDS.out _).mono ?_
    rintro e w4 ⟨vn,rfl,hN,hb4⟩
    obtain⟨pn,ln,cn,rfl⟩:=hN.form
    have HN4:=Zpz hN
    have HX4:=Zpz (HX1.out.below hb4 HX1.out.lt)
    have HB4:=Zpz (HB1.out.trans (hb4.mono HB1.out.size))
    clear hN hb4
    go_wp2_with fail
    refine(ZV t ht HDT.out _).mono ?_
    rintro e w5 ⟨vd,rfl,hD,hb5⟩
    obtain⟨pd,ld,cd,rfl⟩:=hD.form
    have HD5:=Zpz hD
    have HN5:=Zpz (HN4.out.after hb5 ZpA)
    have HX5:=Zpz (HX4.out.below hb5 HX4.out.lt)
    have HB5:=Zpz (HB4.out.trans (hb5.mono HB4.out.size))
    clear hD hb5
    go_wp2_with fail
    refine(ZdV HN5.out HD5.out (ZoU HL.out.1 Zd) (ZoU HL.out.2 Zd) (Nat.pos_of_ne_zero H0.out)).mono ?_
    rintro e w6 ⟨x,y,n,rfl,hR,hb6⟩
    have HR:=Zpz hR
    have HX6:=Zpz (HX5.out.below hb6 HX5.out.lt)
    have HB6:=Zpz (HB5.out.trans (hb6.mono HB5.out.size))
    clear hR hb6
    have r0:=HX6.out.cell 0 0 (b:=w.heap.size) rfl rfl rfl
    have r1:=HX6.out.cell 0 1 (b:=w.heap.size) rfl rfl rfl
    have f0:=HX6.out.free 0 0 (b:=w.heap.size) rfl rfl
    have f1:=HX6.out.free 0 1 (b:=w.heap.size) rfl rfl
    go_wp2
    have q:=Zu (HX6.out.block 0 (b:=w.heap.size) rfl rfl) (.string x) (.string y)
    have HBQ:=Zpz (Zs HB6.out (b:=w.heap.size) Za (.string x) (.string y))
    obtain⟨w9,hw9⟩:=ZpB ((w6.setCell ⟨w.heap.size,0,none⟩ (.string x)).setCell ⟨w.heap.size,1,none⟩ (.string y))
    rw[hw9] at q HBQ
    obtain⟨q0,q1⟩:=q
    rw[hw9]
    clear r0 r1 f0 f1 hw9
    go_wp2
    refine ZoM (v:=.tuple #[Zpw x y,.int .i64 n]) (by simp[results,Tryz.f191,go_sem,q0,q1]) rfl ⟨_,_,_,rfl,?_,HBQ.out⟩
    exact .inr (.inr ⟨by rw[H1.out,H2.out];rfl,Nat.pos_of_ne_zero H0.out,HR.out⟩)
theorem Zj8 (n:Int) (h0 : -9223372036854775808<=n) (h1:n<=9223372036854775807) (w:World) :
  Calls Tryz.prog 190 #[.int .i64 n] w (Zmw n w):=by
 obtain⟨i0,hi,hz0,hz1,hz2⟩:=info_parts ZcW
 by_cases hn:n<0
 ·go_enter Tryz.func190,Tryz.ntmps190
  go_wp2
  go_ret2
  exact⟨_,_,rfl,.inl ⟨hn,rfl,rfl⟩,ZoL _ _⟩
 ·obtain⟨m,rfl⟩:∃ m:Nat,n=m:=⟨n.toNat,Za⟩
  have hl6:(Zp 10000 m).length<=6:=Zac Za Za
  have HL6:=Zpz hl6
  clear h0 hl6
  go_enter Tryz.func190,Tryz.ntmps190
  go_wp2
  go_loopw [0,4] (fun vn vo wr=>∃ (j k:Nat) (out:List Nat),vn=.int .i64 j/\j<=9223372036854775807/\k<=6/\Hid (Zp 10000 m=out++Zp 10000 j)/\Hid (Grow .i64 3 wr w.heap.size vo out)/\Hid (out.length=k)/\Zpt w wr) (fun vn _ _=>(intOf vn).toNat)
  case atStart=>exact⟨m,0,[],rfl,Za,Za,by show _=_;simp,Grow.nil,rfl,ZoL _ _⟩
  case round=>
   obtain⟨j,k,out,rfl,hj,hk6,HI,HO,HLEN,HB⟩:=hrel
   obtain⟨po,no,co,rfl⟩:∃ p n c,u4=.slice p n c:=by obtain⟨q,c,h⟩:=HO.out.form;exact⟨_,_,_,h⟩
   by_cases hgo:0<j
   ·have hgo':(0:Int)<j:=Za
    have hm1:k+1<=maxLen:=by unfold maxLen;omega
    have hm2:(k+1)*8<=140737488355328:=Za
    have HI2:Hid (Zp 10000 m=(out++[j % 10000])++Zp 10000 (j/10000)):=by
     show _=_
     rw[HI.out,Za2 Za hgo];simp
    have HK7:Hid (k+1<=6):=by
     have h2:=congrArg List.length HI2.out
     have h3:=HL6.out
     have h4:=HLEN.out
     simp at h2
     show _<=_
     omega
    have E1:Hid ((j:Int) % 10000=((j % 10000:Nat):Int)):=by show _=_;omega
    have E2:Hid ((j:Int)/10000=((j/10000:Nat):Int)):=by show _=_;omega
    have HJ:Hid (j/10000<j/\j/10000<=9223372036854775807):=⟨Za,Za⟩
    clear hgo
    have hown:wr.ownsRow w.heap.size 3 1 (.slice po no co) k ((out).map fun x=>Value.int .i64 (x:Nat)):=by
     have:=HO.out;unfold Grow at this;rwa [HLEN.out] at this
    have hsz:=HB.out.size
    have hownA:=hown.alloc (.cells #[.int .i64 ((j:Int) % 10000)] 3)
    have hm3:w.heap.size<=(wr.alloc (.cells #[.int .i64 ((j:Int) % 10000)] 3)).heap.size:=by simp;omega
    go_wp2_with (at_builtin;go_loud (refine Zpg _ rfl _ _ 23 rfl w.heap.size 3 i0 (.int .i64 0) 1 8 Tryz.underlying23 hi hz0 hz1 hz2 rfl Zd _ k _ rfl hownA ⟨wr.heap.size,0,none⟩ 1 1 [.int .i64 ((j:Int) % 10000)] rfl rfl (cell_one_new _ _ _) (by simp[Value.oneCell']) hm1 hm2 hm3 ?_);intro v' w1 hown1 hgrow1 _)
    have HG:Hid (Grow .i64 3 w1 w.heap.size v' (out++[j % 10000])):=Grow.snoc HLEN.out E1.out hown1
    have HB1:Zpt w w1:=(HB.out.alloc hsz _).grown hgrow1 hm3 (fun z hz=>(ZoZ hownA z hz).1)
    clear hown hownA hown1 hgrow1
    go_roundw
    case rel=>exact⟨j/10000,k+1,_,by rw[E2.out],HJ.out.2,HK7.out,HI2,HG,by show _=_;rw[Zo2,HLEN.out];rfl,HB1⟩
    case measure=>rw[E2.out];have:=HJ.out;simp[intOf];omega
   ·obtain rfl:j=0:=Za
    have HE:Hid (out=Zp 10000 m):=by show _=_;rw[HI.out,ZO];simp
    have HP:Hid (PNum wr (.slice po no co) m):=by
     have:=HO.out.nums
     rw[HE.out] at this
     exact⟨this,HO.out.pform⟩
    clear hgo
    go_wp2_with fail
    refine(ZeG HP.out (ZoU HL6.out Zd)).mono ?_
    rintro e w5 ⟨rfl,hb5⟩
    have HB5:=Zpz (HB.out.trans (hb5.mono HB.out.size))
    obtain⟨s,hs⟩:=ZpB (str (Lib.decDigits m))
    rw[hs]
    have HS:=Zpz hs
    clear hb5 hs
    go_wp2
    go_ret2
    exact⟨_,_,rfl,.inr ⟨Za,by rw[<- HS.out];rfl,rfl⟩,HB5.out⟩
theorem Zlm (a b:Int) (ha0 : -9223372036854775808<=a) (ha1:a<=9223372036854775807) (hb0 : -9223372036854775808<=b) (hb1:b<=9223372036854775807) (w:World) :
  Calls Tryz.prog 144 #[.int .i64 a,.int .i64 b] w (ZL (ZiH a b) w):=by
 by_cases g1:a<0
 ·skip
  have HB1:Hid (Below w.heap.size w (w.alloc (Zpx Zpv Zpv))):=(ZoL _ w).alloc ZpA _
  have c0:(w.alloc (Zpx Zpv Zpv)).cell? ⟨w.heap.size,0,none⟩=some (.string Zpv):=ZK _ _ _ 0 rfl
  have c1:(w.alloc (Zpx Zpv Zpv)).cell? ⟨w.heap.size,1,none⟩=some (.string Zpv):=ZK _ _ _ 1 rfl
  go_enter Tryz.func144,Tryz.ntmps144
  go_wp2
  refine ZoM (v:=.tuple #[Zpw Zpv Zpv,.int .i64 11]) (by simp[results,Tryz.f144,go_sem,c0,c1]) rfl ⟨_,_,_,rfl,?_,HB1.out⟩
  exact .inl ⟨.inl g1,rfl,rfl,rfl⟩
 by_cases g2:b<0
 ·skip
  have HB1:Hid (Below w.heap.size w (w.alloc (Zpx Zpv Zpv))):=(ZoL _ w).alloc ZpA _
  have c0:(w.alloc (Zpx Zpv Zpv)).cell? ⟨w.heap.size,0,none⟩=some (.string Zpv):=ZK _ _ _ 0 rfl
  have c1:(w.alloc (Zpx Zpv Zpv)).cell? ⟨w.heap.size,1,none⟩=some (.string Zpv):=ZK _ _ _ 1 rfl
  go_enter Tryz.func144,Tryz.ntmps144
  go_wp2
  refine ZoM (v:=.tuple #[Zpw Zpv Zpv,.int .i64 11]) (by simp[results,Tryz.f144,go_sem,c0,c1]) rfl ⟨_,_,_,rfl,?_,HB1.out⟩
  exact .inl ⟨.inr g2,rfl,rfl,rfl⟩
 by_cases g3:b=0
 ·subst g3
  have HB1:Hid (Below w.heap.size w (w.alloc (Zpx Zpv Zpv))):=(ZoL _ w).alloc ZpA _
  have c0:(w.alloc (Zpx Zpv Zpv)).cell? ⟨w.heap.size,0,none⟩=some (.string Zpv):=ZK _ _ _ 0 rfl
  have c1:(w.alloc (Zpx Zpv Zpv)).cell? ⟨w.heap.size,1,none⟩=some (.string Zpv):=ZK _ _ _ 1 rfl
  go_enter Tryz.func144,Tryz.ntmps144
  go_wp2
  refine ZoM (v:=.tuple #[Zpw Zpv Zpv,.int .i64 10]) (by simp[results,Tryz.f144,go_sem,c0,c1]) rfl ⟨_,_,_,rfl,?_,HB1.out⟩
  exact .inr (.inl ⟨Za,rfl,rfl,rfl,rfl⟩)
 have g4:(b==0)=false:=by rw[beq_eq_false_iff_ne];exact g3
 have HA:=Zpz (Zj8 a ha0 ha1)
 have HBB:=Zpz (Zj8 b hb0 hb1)
 have HG:Hid (0<=a/\0<=b/\a<=9223372036854775807/\b<=9223372036854775807):=⟨Za,Za,ha1,hb1⟩
 go_enter Tryz.func144,Tryz.ntmps144
 go_wp2_with fail
 obtain⟨w1,hw1⟩:=ZpB (w.alloc (Zpx Zpv Zpv))
 rw[hw1]
 have HX1:Hid (Zv w.heap.size [Zpx Zpv Zpv] w1):=by rw[<- hw1];exact Zv.one w _
 have HB1:Zpt w w1:=by rw[<- hw1];exact(ZoL _ w).alloc ZpA _
 clear hw1
 refine(HA.out _).mono ?_
 rintro e w2 ⟨s,r1,rfl,hR1,hb2⟩
 obtain⟨hs,rfl⟩:s=str (Lib.decDigits a.toNat)/\r1=0:=by
  rcases hR1 with ⟨h,_⟩ | ⟨_,h1,h2⟩
  ·omega
  ·exact⟨h1,h2⟩
 have HX2:=Zpz (HX1.out.below hb2 HX1.out.lt)
 have HB2:=Zpz (HB1.out.trans (hb2.mono HB1.out.size))
 have HS:=Zpz hs
 clear hb2 hR1 hs
 go_wp2_with fail
 refine(HBB.out _).mono ?_
 rintro e w3 ⟨t,r2,rfl,hR2,hb3⟩
 obtain⟨ht,rfl⟩:t=str (Lib.decDigits b.toNat)/\r2=0:=by
  rcases hR2 with ⟨h,_⟩ | ⟨_,h1,h2⟩
  ·omega
  ·exact⟨h1,h2⟩
 have HX3:=Zpz (HX2.out.below hb3 HX2.out.lt)
 have HB3:=Zpz (HB2.out.trans (hb3.mono HB2.out.size))
 have HT:=Zpz ht
 clear hb3 hR2 ht
 have hss:s.size<=1000000:=by rw[HS.out,Zay];have:=ZdB ha1;omega
 have hts:t.size<=1000000:=by rw[HT.out,Zay];have:=ZdB hb1;omega
 have HM:=Zpz (ZmN s t w3 hss hts)
 clear hss hts
 go_wp2_with fail
 refine HM.out.mono ?_
 rintro e w6 ⟨x,y,n,rfl,hR,hb6⟩
 have HR:=Zpz (ZgX HG.out.1 HG.out.2.1 HG.out.2.2.1 HG.out.2.2.2 HS.out HT.out hR)
 have HX6:=Zpz (HX3.out.below hb6 HX3.out.lt)
 have HB6:=Zpz (HB3.out.trans (hb6.mono HB3.out.size))
 clear hR hb6
 have r0:=HX6.out.cell 0 0 (b:=w.heap.size) rfl rfl rfl
 have r1:=HX6.out.cell 0 1 (b:=w.heap.size) rfl rfl rfl
 have f0:=HX6.out.free 0 0 (b:=w.heap.size) rfl rfl
 have f1:=HX6.out.free 0 1 (b:=w.heap.size) rfl rfl
 go_wp2
 have q:=Zu (HX6.out.block 0 (b:=w.heap.size) rfl rfl) (.string x) (.string y)
 have HBQ:=Zpz (Zs HB6.out (b:=w.heap.size) Za (.string x) (.string y))
 obtain⟨w9,hw9⟩:=ZpB ((w6.setCell ⟨w.heap.size,0,none⟩ (.string x)).setCell ⟨w.heap.size,1,none⟩ (.string y))
 rw[hw9] at q HBQ
 obtain⟨q0,q1⟩:=q
 rw[hw9]
 clear r0 r1 f0 f1 hw9
 go_wp2
 refine ZoM (v:=.tuple #[Zpw x y,.int .i64 n]) (by simp[results,Tryz.f144,go_sem,q0,q1]) rfl ⟨_,_,_,rfl,?_,HBQ.out⟩
 exact HR.out
abbrev smO (n:Int):Obj:=.cells #[.int .i64 n] 98
structure SmK (b:Nat) (n:Int) (w0:World) (bs:List (Nat×Obj)) (w:World):Prop where
 env:EnvS (NotM b) w0 bs w
 sm:w.heap[b]?=some (smO n)
section
variable {b:Nat} {n k:Int} {w0 w w':World} {bs:List (Nat×Obj)}
theorem Zii (h:w.heap[b]?=some (smO n)):b<w.heap.size:=(Zpu h)
theorem SmK.start (h:w.heap[b]?=some (smO n)):SmK b n w [] w:=⟨EnvS.start w fun c hc e=>by have:=Zii h;omega,h⟩
theorem SmK.base (h:SmK b n w0 bs w):Keeps (NotM b) w0 w:=h.env.base
theorem SmK.step (h:SmK b n w0 bs w) (hb:Below w.heap.size w w'):SmK b n w0 bs w':=⟨h.env.step hb,(hb.block b (Zii h.sm)).trans h.sm⟩
theorem SmK.drew (h:SmK b n w0 bs w):SmK b n w0 bs w.drew:=h.step (ZoL _ w).drew
theorem SmK.call (h:SmK b n w0 bs w) (hk:Keeps (NotM b) w w'/\w'.heap[b]?=some (smO k)):SmK b k w0 bs w':=⟨h.env.keep hk.1,hk.2⟩
theorem SmK.push (h:SmK b n w0 bs w) (o:Obj) {g:Nat} (hg:g=w.heap.size):SmK b n w0 ((g,o)::bs) (w.alloc o):=⟨h.env.push o hg,(((ZoL _ w).alloc ZpA o).block b (Zii h.sm)).trans h.sm⟩
theorem SmK.cell (h:SmK b n w0 bs w) (i j:Nat) {g:Nat} {cs:Array Value} {T:TypeId} {v:Value} (hi:bs[i]?=some (g,.cells cs T (0,0))) (hv:cs[j]?=some v):w.cell? ⟨g,j,none⟩=some v:=h.env.cell i j hi hv
theorem SmK.free (h:SmK b n w0 bs w) (i j:Nat) {g:Nat} {cs:Array Value} {T:TypeId} (hi:bs[i]?=some (g,.cells cs T (0,0))):w.frozen? ⟨g,j,none⟩=false:=h.env.free i j hi
theorem SmK.fill {g:Nat} {x y:Value} {T:TypeId} (h:SmK b n w0 ((g,.cells #[x,y] T (0,0))::bs) w) (u v:Value):SmK b n w0 ((g,.cells #[u,v] T (0,0))::bs) ((w.setCell ⟨g,0,none⟩ u).setCell ⟨g,1,none⟩ v):=
 ⟨h.env.fill u v,by
  have hne:b≠g:=fun e=>h.env.up g (h.env.le 0 rfl) e.symm
  exact(ZoN _ _ _ _ hne).trans ((ZoN _ _ _ _ hne).trans h.sm)⟩
theorem SmK.only (h:SmK b n w0 bs w) (is:List Nat) (bs':List (Nat×Obj)) (hb:bs'=is.filterMap (fun i=>bs[i]?)) (hn:is.Nodup):SmK b n w0 bs' w:=⟨h.env.only is bs' hb hn,h.sm⟩
theorem SmK.tail {p:Nat×Obj} (h:SmK b n w0 (p::bs) w):SmK b n w0 bs w:=
 ⟨⟨h.env.base,h.env.up,fun i q hq=>h.env.cells (i+1) q (by simpa using hq),fun i j p q hp hq e=>by have:=h.env.apart (i+1) (j+1) p q (by simpa using hp) (by simpa using hq) e;omega⟩,h.sm⟩
theorem SmK.c0 (h:SmK b n w0 bs w):w.cell? ⟨b,0,none⟩=some (.int .i64 n):=Zn h.sm 0 rfl
theorem SmK.f0 (h:SmK b n w0 bs w):w.frozen? ⟨b,0,none⟩=false:=Zo h.sm 0
theorem SmK.put (h:SmK b n w0 bs w) (k:Int):SmK b k w0 bs (w.setCell ⟨b,0,none⟩ (.int .i64 k)):=
 ⟨h.env.keep ((Keeps.refl _ w).setCell Zc _),ZoQ h.sm _⟩
theorem SmK.done (h:SmK b n w0 bs w):Keeps (NotM b) w0 w/\w.heap[b]?=some (smO n):=⟨h.env.base,h.sm⟩
end
def SmV (b:Nat) (v:Value) (n:Int) (w:World) (e:Ending) (w':World):Prop:=e=.returned v/\Keeps (NotM b) w w'/\w'.heap[b]?=some (smO n)
theorem Zkv (s t:ByteArray) {b:Nat} {n:Int} (e:Int) {w:World} (h:w.heap[b]?=some (smO n)) :
  Calls Tryz.prog 84 #[.pointer (some ⟨b,0,none⟩),pV s t,.int .i64 e] w (SmV b (if n=0/\e=0 then pV s t else pV ⟨#[48]⟩ ⟨#[49]⟩) (if n=0 then e else n) w):=by
 have HE0:Hid (SmK b n w [(w.heap.size+1,pObj Zpv Zpv),(w.heap.size,pObj s t)] ((w.alloc (pObj s t)).alloc (pObj Zpv Zpv))):=((SmK.start h).push _ rfl).push _ Zc
 clear h
 have b0:=HE0.out.c0
 have g0:=HE0.out.f0
 by_cases hn:n=0
 ·subst hn
  have HE1:=Zpz (HE0.out.put e)
  have c0:=HE1.out.c0
  have h00:((0:Int) !=0)=false:=rfl
  by_cases he:e=0
  ·subst he
   have e2:(if (0:Int)=0/\(0:Int)=0 then pV s t else pV ⟨#[48]⟩ ⟨#[49]⟩)=pV s t:=if_pos ⟨rfl,rfl⟩
   rw[e2,if_pos rfl]
   clear e2
   have e0:=HE1.out.cell 1 0 (v:=.string s) rfl rfl
   have e1:=HE1.out.cell 1 1 (v:=.string t) rfl rfl
   have k0:=HE1.out.cell 0 0 (v:=.string Zpv) rfl rfl
   have k1:=HE1.out.cell 0 1 (v:=.string Zpv) rfl rfl
   have l0:=HE1.out.free 0 0 rfl
   have l1:=HE1.out.free 0 1 rfl
   go_enter Tryz.func84,Tryz.ntmps84
   go_wp2
   have HE2:=Zpz (HE1.out.fill (.string s) (.string t))
   have q0:=HE2.out.cell 0 0 (v:=.string s) rfl rfl
   have q1:=HE2.out.cell 0 1 (v:=.string t) rfl rfl
   exact ZoM (v:=pV s t) (by simp[results,Tryz.f84,go_sem,q0,q1]) rfl ⟨rfl,HE2.out.done⟩
  ·have e2:(if (0:Int)=0/\e=0 then pV s t else pV ⟨#[48]⟩ ⟨#[49]⟩)=pV ⟨#[48]⟩ ⟨#[49]⟩:=if_neg fun h=>he h.2
   rw[e2,if_pos rfl]
   have h1:(e !=0)=true:=by rw[bne_iff_ne];exact he
   clear e2 he
   have B0:=HE1
   go_enter Tryz.func84,Tryz.ntmps84
   go_wp2_with fail
   refine(ZcC _).mono ?_
   rintro e' w3 ⟨rfl,hb⟩
   have HE3:=Zpz (B0.out.step hb)
   have k0:=HE3.out.cell 0 0 (v:=.string Zpv) rfl rfl
   have k1:=HE3.out.cell 0 1 (v:=.string Zpv) rfl rfl
   have l0:=HE3.out.free 0 0 rfl
   have l1:=HE3.out.free 0 1 rfl
   clear hb
   go_wp2
   have HE4:=Zpz (HE3.out.fill (.string ⟨#[48]⟩) (.string ⟨#[49]⟩))
   have q0:=HE4.out.cell 0 0 (v:=.string ⟨#[48]⟩) rfl rfl
   have q1:=HE4.out.cell 0 1 (v:=.string ⟨#[49]⟩) rfl rfl
   exact ZoM (v:=pV ⟨#[48]⟩ ⟨#[49]⟩) (by simp[results,Tryz.f84,go_sem,q0,q1]) rfl ⟨rfl,HE4.out.done⟩
 ·have e2:(if n=0/\e=0 then pV s t else pV ⟨#[48]⟩ ⟨#[49]⟩)=pV ⟨#[48]⟩ ⟨#[49]⟩:=if_neg fun h=>hn h.1
  rw[e2,if_neg hn]
  have h1:(n !=0)=true:=by rw[bne_iff_ne];exact hn
  have h2:(n==0)=false:=by rw[beq_eq_false_iff_ne];exact hn
  clear e2 hn
  have B0:=HE0
  go_enter Tryz.func84,Tryz.ntmps84
  go_wp2_with fail
  refine(ZcC _).mono ?_
  rintro e' w3 ⟨rfl,hb⟩
  have HE3:=Zpz (B0.out.step hb)
  have k0:=HE3.out.cell 0 0 (v:=.string Zpv) rfl rfl
  have k1:=HE3.out.cell 0 1 (v:=.string Zpv) rfl rfl
  have l0:=HE3.out.free 0 0 rfl
  have l1:=HE3.out.free 0 1 rfl
  clear hb
  go_wp2
  have HE4:=Zpz (HE3.out.fill (.string ⟨#[48]⟩) (.string ⟨#[49]⟩))
  have q0:=HE4.out.cell 0 0 (v:=.string ⟨#[48]⟩) rfl rfl
  have q1:=HE4.out.cell 0 1 (v:=.string ⟨#[49]⟩) rfl rfl
  exact ZoM (v:=pV ⟨#[48]⟩ ⟨#[49]⟩) (by simp[results,Tryz.f84,go_sem,q0,q1]) rfl ⟨rfl,HE4.out.done⟩
def zq (n:Int) (q:Rat):Rat:=if n=0 then q else 0
theorem ZnC {n:Int} (h:n≠0) (q:Rat):zq n q=0:=if_neg h
theorem Znv {n:Int} {q:Rat} (h:∃ x y,IsP q x y):∃ x y,IsP (zq n q) x y:=by
 by_cases hn:n=0
 ·subst hn;exact h
 ·rw[ZnC hn];exact⟨_,_,Zaf⟩
theorem Znt (n:Int) (q:Rat):zq n (zq n q)=zq n q:=by unfold zq;split<;>rfl
theorem Zog (n:Int) (a b:Rat):zq n (a+b)=zq n a+zq n b:=by unfold zq;split<;>grind
theorem Zor {n:Int} {q:Rat} (h:0<=q):0<=zq n q:=by unfold zq;split<;>grind
def SmP (b:Nat) (n:Int) (q:Rat) (w:World) (e:Ending) (w':World):Prop:=∃ x y,IsP q x y/\SmV b (pV x y) n w e w'
theorem Zie {q:Rat} {s t:ByteArray} (hq:IsP q s t) {b:Nat} {n:Int} {w:World} (h:w.heap[b]?=some (smO n)) :
  Calls Tryz.prog 84 #[.pointer (some ⟨b,0,none⟩),pV s t,.int .i64 0] w (SmP b n (zq n q) w):=by
 refine(Zkv s t 0 h).mono ?_
 rintro e w' ⟨rfl,h1,h2⟩
 by_cases hn:n=0
 ·subst hn
  exact⟨s,t,hq,rfl,h1,h2⟩
 ·rw[if_neg hn] at h2
  rw[if_neg (fun h=>hn h.1),ZnC hn]
  exact⟨_,_,Zaf,rfl,h1,h2⟩
theorem ZdH (n low high:Int) (w:World):Calls Tryz.prog 79 #[.int .i64 n,.int .i64 low,.int .i64 high] w (Z5 w (decide (low<=n) && decide (n<=high))):=by
 by_cases h1:low<=n
 all_goals by_cases h2:n<=high
 all_goals
  go_enter Tryz.func79,Tryz.ntmps79
  go_wp2
  go_ret
  exact⟨by first | (rw[decide_eq_false (show ¬ low<=n by omega)];rfl) | simp[h1,h2],ZoL _ _⟩
theorem ZfT (k:Nat) (s t:ByteArray) (hs:s.size<=1000000) (ht:t.size<=1000000) (w:World) :
  Calls Tryz.prog 87 #[pV s t,.int .i64 k] w (Z5 w (Zw k (s,t))):=by
 have HAL:=Zpz ((ZoL w.heap.size w).alloc ZpA (pObj s t))
 by_cases h1:(s.size:Int)<=k
 ·by_cases h2:(t.size:Int)<=k
  ·have HR:Hid (Zw k (s,t)=okP s t):=by
    show _=_
    unfold Zw
    rw[decide_eq_true (p:=(s,t).1.size<=k) (by show s.size<=k;omega),decide_eq_true (p:=(s,t).2.size<=k) (by show t.size<=k;omega)]
    simp
   rw[HR.out]
   go_enter Tryz.func87,Tryz.ntmps87
   go_wp2_with fail
   refine(ZbN s t _ hs ht).mono ?_
   rintro e w2 ⟨rfl,hb⟩
   have HB2:=Zpz (HAL.out.trans (hb.mono HAL.out.size))
   clear hb
   cases h3:okP s t
   all_goals
    first | rw[ZaM h3] | rw[Zbj h3]
    have H3:=Zpz h3
    clear h3
    go_wp2
    go_ret
    exact⟨by rw[H3.out];rfl,HB2.out⟩
  ·have HR:Hid (Zw k (s,t)=false):=by
    show _=_
    unfold Zw
    rw[decide_eq_false (p:=(s,t).2.size<=k) (by show ¬ t.size<=k;omega)]
    simp
   go_enter Tryz.func87,Tryz.ntmps87
   go_wp2
   go_ret
   exact⟨by rw[HR.out];rfl,HAL.out⟩
 ·have HR:Hid (Zw k (s,t)=false):=by
   show _=_
   unfold Zw
   rw[decide_eq_false (p:=(s,t).1.size<=k) (by show ¬ s.size<=k;omega)]
   simp
  go_enter Tryz.func87,Tryz.ntmps87
  go_wp2
  go_ret
  exact⟨by rw[HR.out];rfl,HAL.out⟩
theorem Zlh {n:Int} (h0:0<=n) (h1:n<=48) {x y:ByteArray} (hx:IsP ((n:Int):Rat) x y) (w:World) :
  Calls Tryz.prog 89 #[.int .i64 n] w (Z1 (pV x y) w):=by
 have HC:Hid (∀ W,Calls Tryz.prog 144 #[.int .i64 n,.int .i64 1] W (Z1 (.tuple #[pV x y,.int .i64 0]) W)):=fun W=>by
  refine(Zlm n 1 Za Za Zd Zd W).mono ?_
  rintro e w' ⟨u,v,k,rfl,h,hb⟩
  rcases h with ⟨h,_⟩ | ⟨_,h,_⟩ | ⟨_,_,h⟩
  ·omega
  ·cases h
  ·have e1:mkRat (n.toNat:Nat) (1:Int).toNat=((n:Int):Rat):=by
    obtain⟨k,rfl⟩:∃ k:Nat,n=k:=⟨n.toNat,Za⟩
    have h:∀ k:Nat,k<=48->mkRat ((k:Int).toNat:Nat) (1:Int).toNat=(((k:Nat):Int):Rat):=by decide +kernel
    exact h k Za
   obtain⟨rfl,rfl,rfl⟩:=Zcn h hx e1
   exact⟨rfl,hb⟩
 have HE0:Hid (Env w.heap.size w [(w.heap.size,pObj Zpv Zpv)] [] (w.alloc (pObj Zpv Zpv))):=(Env.start w).push _ rfl
 clear hx h0 h1
 go_enter Tryz.func89,Tryz.ntmps89
 go_wp2_with fail
 refine(HC.out _).mono ?_
 rintro e w1 ⟨rfl,hb⟩
 have HE1:=Zpz (((HE0.out.step hb).push (pObj x y) rfl).only [1,0] _ rfl Zd)
 clear hb HE0
 have r0:=HE1.out.cell 0 0 rfl rfl
 have r1:=HE1.out.cell 0 1 rfl rfl
 have f0:=HE1.out.free 0 0 rfl
 have f1:=HE1.out.free 0 1 rfl
 have c0:=HE1.out.cell 1 0 (v:=.string x) rfl rfl
 have c1:=HE1.out.cell 1 1 (v:=.string y) rfl rfl
 go_wp2
 have HE9:=Zpz (HE1.out.fill (.string x) (.string y))
 have q0:=HE9.out.cell 0 0 (v:=.string x) rfl rfl
 have q1:=HE9.out.cell 0 1 (v:=.string y) rfl rfl
 exact ZoM (v:=pV x y) (by simp[results,Tryz.f89,go_sem,q0,q1]) rfl ⟨rfl,HE9.out.base⟩
theorem Zbq.open {t:TaskP} {b:Nat} {sv hv rv:Value} {w:World} (h:Zbq b (TaskIn t sv hv rv) w) (ok:TaskOk t) :
  ∃ sb so sc hb ho hc rb ro rk cv rq rp rc,sv=.slice (some ⟨sb,so,none⟩) t.sites.length sc/\hv=.slice (some ⟨hb,ho,none⟩) t.hours.length hc/\rv=.slice (some ⟨rb,ro,none⟩) t.rates.length rk/\
   (t.sites.length<=sc/\sc<=9223372036854775807)/\(t.hours.length<=hc/\hc<=9223372036854775807)/\(t.rates.length<=rk/\rk<=9223372036854775807)/\
   ∀ w',Keeps (NotM b) w w'->TaskAt t sb so hb ho rb ro cv rq rp rc w':=by
 obtain⟨w1,h1,h2,h3⟩:=h
 obtain⟨sb,so,sc,hb,ho,hc,rb,ro,rk,cv,rq,rp,rc,e1,e2,e3,k1,k2,k3,k4⟩:=h1.open ok
 exact⟨sb,so,sc,hb,ho,hc,rb,ro,rk,cv,rq,rp,rc,e1,e2,e3,k1,k2,k3,fun w' hk=>k4 w' (h2.trans ((hk.mono fun c _ hc=>(by show c≠b;omega):Keeps (fun c=>c<w1.heap.size) w w').toBelow h2.size))⟩
theorem Zlv {t:TaskP} {p:List (List Int)} {b:Nat} {sv hv rv pv:Value} {pb po pc:Nat} {gq gp gc:Nat->Nat} {w:World} (hE:Zbq b (TaskIn t sv hv rv) w) (hP:PlanW p t.sites.length b pv pb po pc gq gp gc w) {E:Int} (hs:w.heap[b]?=some (smO E)) (ok:TaskOk t) (inn:Zbz t p) {i:Nat} (hi:i<t.sites.length) :
  Calls Tryz.prog 73 #[.pointer (some ⟨b,0,none⟩),.agg #[sv,hv,rv],pv,.int .i64 i] w (SmP b E (zq E (covR t p i)) w):=by
 obtain⟨sb,so,sc,hb,ho,hc,rb,ro,rk,cv,rq,rp,rc,rfl,rfl,rfl,k1,k2,k3,hA⟩:=hE.open ok
 obtain rfl:=hP.val
 obtain⟨N,hN⟩:=ZpB t.sites.length
 obtain⟨T,hT⟩:=ZpB p.length
 have hTR:t.rates.length=T:=by rw[ok.rates,<- inn.1,hT]
 have hTH:t.hours.length=T:=by rw[<- inn.1,hT]
 have HC:Hid (∀ u,u<T->∀ V,Keeps (NotM b) w V->(V.cell? ⟨rb,ro+u,none⟩=some (.slice (some ⟨rq u,rp u,none⟩) N (rc u))/\V.cell? ⟨rq u,rp u+i*2,none⟩=some (.string (eR t u i).1)/\V.cell? ⟨rq u,rp u+i*2+1,none⟩=some (.string (eR t u i).2))/\
   (V.cell? ⟨pb,po+u,none⟩=some (.slice (some ⟨gq u,gp u,none⟩) N (gc u))/\V.cell? ⟨gq u,gp u+i,none⟩=some (.int .i64 (pN p u i)))):=fun u hu V hV=>by
  obtain⟨a1,_,_,a2⟩:=(hA V hV).rate u (by rw[hTR];exact hu)
  obtain⟨b1,_,_,b2⟩:=(hP.keep hV).at' u (by rw[hT];exact hu)
  rw[hN] at a1 a2 b1 b2
  rw[hN] at hi
  exact⟨⟨a1,a2 i hi⟩,b1,b2 i hi⟩
 have HF:Hid (∀ k,k<T->(∃ x y,IsP (ZaL t p i (k+1)) x y)/\(∃ x y,IsP (rR t k i*((pN p k i:Int):Rat)) x y)/\(∃ x y,IsP ((pN p k i:Int):Rat) x y)/\IsP (rR t k i) (eR t k i).1 (eR t k i).2/\0<=pN p k i/\pN p k i<=48):=fun k hk=>by
  have hn:=inn.2.2 k i (by rw[hT];exact hk) hi
  exact⟨(Zc1 ok inn hi (by rw[hT];exact hk)).1,(ZfB ok inn (by rw[hT];exact hk) hi).1,(Zd6 hn.1 hn.2).1,(Zd3 ok (by rw[hTR];exact hk) hi).1,hn.1,hn.2⟩
 have HT:Hid (p.length=T):=hT
 have zz:zq E 0=0:=by unfold zq;split<;>rfl
 have hT8:T<=8:=by rw[<- hTH];exact ok.teams.2
 have hpc:T<=pc/\pc<=9223372036854775807:=by rw[<- hT];exact hP.cap
 have hrk:T<=rk/\rk<=9223372036854775807:=by rw[<- hTR];exact k3
 have hN24:N<=24:=by rw[<- hN];exact ok.sites.2
 have HS:=Zpz hs
 rw[hN] at hi
 rw[hN,hTH,hTR,hT]
 clear hE hP ok inn hA k1 k2 k3 hN hT hTR hTH hs
 obtain⟨G,hG⟩:=ZpB w.heap.size
 have HE0:Hid (SmK b E w [(G+1,pObj Zpv Zpv),(G,efO (.slice (some ⟨sb,so,none⟩) N sc) (.slice (some ⟨hb,ho,none⟩) T hc) (.slice (some ⟨rb,ro,none⟩) T rk))] ((w.alloc (efO (.slice (some ⟨sb,so,none⟩) N sc) (.slice (some ⟨hb,ho,none⟩) T hc) (.slice (some ⟨rb,ro,none⟩) T rk))).alloc (pObj Zpv Zpv))):=
  ((SmK.start HS.out).push _ hG.symm).push _ (by simp[hG])
 go_enter Tryz.func73,Tryz.ntmps73
 go_wp2_with fail
 refine(ZcC _).mono ?_
 rintro e w1 ⟨rfl,hb1⟩
 obtain⟨g,hg⟩:=ZpB w1.heap.size
 have HE1:=Zpz ((HE0.out.step hb1).push (pObj ⟨#[48]⟩ ⟨#[49]⟩) hg.symm)
 obtain⟨w2,hw2⟩:=ZpB (w1.alloc (pObj ⟨#[48]⟩ ⟨#[49]⟩))
 rw[hw2] at HE1
 clear hb1 HE0
 go_wp2_with fail
 try rw[hg]
 try rw[hw2]
 try rw[hG]
 clear hg hw2 hG
 go_loopw [10] (fun v wr=>∃ (k:Nat) (a:Rat) (x y:ByteArray),v=.int .i64 k/\k<=T/\Hid (IsP a x y)/\Hid (a=zq E (ZaL t p i k))/\Hid (SmK b E w [(g,pObj x y),(G+1,pObj Zpv Zpv),(G,efO (.slice (some ⟨sb,so,none⟩) N sc) (.slice (some ⟨hb,ho,none⟩) T hc) (.slice (some ⟨rb,ro,none⟩) T rk))] wr)) (fun v _=>T-(intOf v).toNat)
 case atStart=>exact⟨0,zq E 0,_,_,rfl,ZoY _,by rw[zz];exact Zaf,rfl,HE1⟩
 case round=>
  obtain⟨k,a,x,y,rfl,hk,HIA,HEQ,HE⟩:=hrel
  clear HE1
  by_cases hlt:k<T
  ·have HK:=Zpz (HC.out k hlt)
   have hF:=HF.out k hlt
   have HNX:Hid (zq E (ZaL t p i (k+1))=a+zq E (rR t k i*((pN p k i:Int):Rat))):=by rw[HEQ.out,<- Zog];rfl
   obtain⟨q1,hq1⟩:=ZpB (rq k)
   obtain⟨o1,ho1⟩:=ZpB (rp k)
   obtain⟨c1,hc1⟩:=ZpB (rc k)
   obtain⟨q2,hq2⟩:=ZpB (gq k)
   obtain⟨o2,ho2⟩:=ZpB (gp k)
   obtain⟨c2,hc2⟩:=ZpB (gc k)
   obtain⟨n,hn⟩:=ZpB (pN p k i)
   obtain⟨⟨s1,t1⟩,hs1⟩:∃ z,eR t k i=z:=⟨_,rfl⟩
   rw[hq1,ho1,hc1,hq2,ho2,hc2,hn,hs1] at HK
   rw[hn,hs1] at hF
   rw[hn] at HNX
   dsimp only at HK hF
   obtain⟨⟨x9,y9,hx9⟩,⟨x8,y8,hx8⟩,⟨xr,yr,hxr⟩,hrr,hn0,hn1⟩:=hF
   obtain⟨u9,v9,hx9⟩:=Znv (n:=E) ⟨x9,y9,hx9⟩
   have HX9:=Zpz hx9
   have HX8:=Zpz hx8
   have HXR:=Zpz hxr
   have HRR:=Zpz hrr
   clear hx9 hx8 hxr hrr hq1 ho1 hc1 hq2 ho2 hc2 hn hs1
   have i0':(0:Int)<=(k:Int):=Za
   have i1':(k:Int)<(T:Int):=Za
   have j0':(0:Int)<=(i:Int):=Za
   have j1':(i:Int)<(N:Int):=Za
   go_wp2_with fail
   refine ZP [(1,0),(1,1),(1,2),(1,3),(1,4),(1,5),(1,6),(1,7),(1,8),(1,9),(1,10),(1,11),(1,12),(1,13),(1,14),(1,15),(1,16),(1,17),(0,18),(0,19),(1,20),(1,21),(0,22),(0,23),(1,24),(1,25),(0,26),(0,27)] (SmK b E w [(g,pObj x y),(G+1,pObj Zpv Zpv),(G,efO (.slice (some ⟨sb,so,none⟩) N sc) (.slice (some ⟨hb,ho,none⟩) T hc) (.slice (some ⟨rb,ro,none⟩) T rk))]) (fun i=>i==27)
    Zb Zb (fun j hj=>by have h:28<=j:=hj;simp;omega) Zi HE.out.drew ?_
   obtain⟨w4,hw4⟩:=ZpB wr.drew
   have HE4:=Zpz HE.out.drew
   rw[hw4] at HE4 ⊢
   clear hw4 HE
   iterate 18
    refine Zx _ rfl rfl (fun w' hS=>by have c0:=hS.cell 0 0 (v:=.string x) rfl rfl;have c1:=hS.cell 0 1 (v:=.string y) rfl rfl;have d0:=hS.cell 2 2 (v:=.slice (some ⟨rb,ro,none⟩) T rk) rfl rfl;obtain⟨⟨e0,e1,e2⟩,e3,e4⟩:=HK.out _ hS.base;exact Ze) ?_
    simp only[Act.put,Zl]
   refine Zz 89 _ rfl rfl Zf ?_
   have HEC:=HE4
   refine(Zlh hn0 hn1 HXR.out _).mono ?_
   rintro e w5 ⟨rfl,hb⟩
   have HE5:=Zpz (HEC.out.step hb)
   refine .inl ⟨_,rfl,HE5.out,?_⟩
   clear hb HEC
   simp only[Act.put,Zl]
   refine Zz 86 _ rfl rfl Zf ?_
   have HEC:=HE5
   refine(Zho HRR.out HXR.out HX8.out rfl _).mono ?_
   rintro e w6 ⟨rfl,hb⟩
   have HE6:=Zpz (HEC.out.step hb)
   refine .inl ⟨_,rfl,HE6.out,?_⟩
   clear hb HEC
   simp only[Act.put,Zl]
   iterate 2
    refine Zx _ rfl rfl (fun w' hS=>Ze) ?_
    simp only[Act.put,Zl]
   refine Zz 84 _ rfl rfl Zf ?_
   have HEC:=HE6
   refine(Zie HX8.out HEC.out.sm).mono ?_
   rintro e w7 ⟨x7,y7,hx7,rfl,hb⟩
   have HE7:=Zpz (HEC.out.call hb)
   refine .inl ⟨_,rfl,HE7.out,?_⟩
   clear hb HEC
   simp only[Act.put,Zl]
   have HX7:=Zpz hx7
   clear hx7
   refine Zz 88 _ rfl rfl Zf ?_
   have HEC:=HE7
   refine(Zko HIA.out HX7.out HX9.out HNX.out.symm _).mono ?_
   rintro e w8 ⟨rfl,hb⟩
   have HE8:=Zpz (HEC.out.step hb)
   refine .inl ⟨_,rfl,HE8.out,?_⟩
   clear hb HEC
   simp only[Act.put,Zl]
   iterate 2
    refine Zx _ rfl rfl (fun w' hS=>Ze) ?_
    simp only[Act.put,Zl]
   refine Zz 84 _ rfl rfl Zf ?_
   have HEC:=HE8
   refine(Zie HX9.out HEC.out.sm).mono ?_
   rintro e w9 ⟨x6,y6,hx6,rfl,hb⟩
   have HE9:=Zpz (HEC.out.call hb)
   refine .inl ⟨_,rfl,HE9.out,?_⟩
   clear hb HEC
   simp only[Act.put,Zl]
   have HX6:Hid (IsP (zq E (ZaL t p i (k+1))) x6 y6):=by rw[<- Znt];exact hx6
   clear hx6
   have r0:=HE9.out.cell 0 0 rfl rfl
   have r1:=HE9.out.cell 0 1 rfl rfl
   have f0:=HE9.out.free 0 0 rfl
   have f1:=HE9.out.free 0 1 rfl
   refine ZB rfl rfl fun K hK=>?_
   go_simp
   have HE10:=Zpz (HE9.out.fill (.string x6) (.string y6))
   refine hK _ _ (.inl rfl) ?_
   clear hK K r0 r1 f0 f1 HE4 HE5 HE6 HE7 HE8 HE9
   refine ZF ?_
   go_wp2
   go_roundw
   case rel=>exact⟨k+1,_,x6,y6,by go_num,Za,HX6,rfl,HE10⟩
   case measure=>exact Zj
  ·have hkm:k=T:=Za
   have HAA:Hid (IsP (zq E (covR t p i)) x y):=by
    have h:=HIA.out
    rw[HEQ.out,hkm] at h
    unfold covR
    rw[HT.out]
    exact h
   have HE1:=Zpz (HE.out.only [1,0] _ rfl Zd)
   clear hkm
   have c0:=HE1.out.cell 1 0 (v:=.string x) rfl rfl
   have c1:=HE1.out.cell 1 1 (v:=.string y) rfl rfl
   have r0:=HE1.out.cell 0 0 rfl rfl
   have r1:=HE1.out.cell 0 1 rfl rfl
   have f0:=HE1.out.free 0 0 rfl
   have f1:=HE1.out.free 0 1 rfl
   go_wp2
   have HE9:=Zpz (HE1.out.fill (.string x) (.string y))
   have q0:=HE9.out.cell 0 0 (v:=.string x) rfl rfl
   have q1:=HE9.out.cell 0 1 (v:=.string y) rfl rfl
   exact ZoM (v:=Zpw x y) (by simp[results,Tryz.f73,go_sem,q0,q1]) rfl ⟨x,y,HAA.out,rfl,HE9.out.done⟩
structure UptoC (bs:List BB) (k:Nat):Prop where
 small:∀ i,i<k->Zw 18 (bAt bs i).1=true/\Zw 18 (bAt bs i).2=true
 top:∀ i,i<k->hR bs i<=1
 up:∀ i,i+1<k->cR bs i<cR bs (i+1)/\hR bs i<=hR bs (i+1)
 conc:∀ i,i+2<k->slp (cR bs) (hR bs) (i+1)<=slp (cR bs) (hR bs) i
theorem UptoC.zero (bs:List BB):UptoC bs 0:=⟨fun _ h=>Za,fun _ h=>Za,fun _ h=>Za,fun _ h=>Za⟩
theorem UptoC.step {bs:List BB} {k:Nat} (h:UptoC bs k) (h1:Zw 18 (bAt bs k).1=true/\Zw 18 (bAt bs k).2=true) (h2:hR bs k<=1)
  (h3:∀ i,k=i+1->cR bs i<cR bs (i+1)/\hR bs i<=hR bs (i+1)) (h4:∀ i,k=i+2->slp (cR bs) (hR bs) (i+1)<=slp (cR bs) (hR bs) i):UptoC bs (k+1) where
 small:=fun i hi=>by
  rcases ZoR i k with h' | h'
  ·exact h.small i h'
  ·obtain rfl:i=k:=Za
   exact h1
 top:=fun i hi=>by
  rcases ZoR i k with h' | h'
  ·exact h.top i h'
  ·obtain rfl:i=k:=Za
   exact h2
 up:=fun i hi=>by
  rcases ZoR (i+1) k with h' | h'
  ·exact h.up i h'
  ·exact h3 i Za
 conc:=fun i hi=>by
  rcases ZoR (i+2) k with h' | h'
  ·exact h.conc i h'
  ·exact h4 i Za
theorem UptoC.curve {bs:List BB} (h:UptoC bs bs.length) (h1:2<=bs.length/\bs.length<=64) (h2:bAt bs 0=Zcf):CurveP bs:=⟨h1,h2,h.small,h.top,h.up,h.conc⟩
theorem UptoC.isC {bs:List BB} {k:Nat} (h:UptoC bs k) {i:Nat} (hi:i<k):IsP (cR bs i) (bAt bs i).1.1 (bAt bs i).1.2/\Sz 18 (cR bs i):=by
 obtain⟨h1,h2,h3⟩:=Zaj.1 (h.small i hi).1
 have:=Zav h3
 exact⟨this,this.sz h1 h2⟩
theorem UptoC.isH {bs:List BB} {k:Nat} (h:UptoC bs k) {i:Nat} (hi:i<k):IsP (hR bs i) (bAt bs i).2.1 (bAt bs i).2.2/\Sz 18 (hR bs i):=by
 obtain⟨h1,h2,h3⟩:=Zaj.1 (h.small i hi).2
 have:=Zav h3
 exact⟨this,this.sz h1 h2⟩
theorem Zd0 {s:ByteArray} {l:List UInt8} (h:s.toList=l):s=str l:=by
 rw[Zo8] at h
 rw[<- Za1 s,h]
theorem ZcT {p:PP} (h:Zw 18 p=true):IsP (ratP p.1 p.2) p.1 p.2/\Sz 18 (ratP p.1 p.2):=by
 obtain⟨h1,h2,h3⟩:=Zaj.1 h
 have:=Zav h3
 exact⟨this,this.sz h1 h2⟩
theorem Zi0 {a b c d:Rat} {s0 t0 u0 v0 s1 t1 u1 v1:ByteArray} (hc:IsP c s0 t0) (ha:IsP a u0 v0) (hd:IsP d s1 t1) (hb:IsP b u1 v1) (zc:Sz 18 c) (za:Sz 18 a) (zd:Sz 18 d) (zb:Sz 18 b) (h1:c<d) (h2:a<=b) :
  (∃ x y,IsP (b-a) x y)/\(∃ x y,IsP (d-c) x y)/\(∃ x y,IsP ((b-a)/(d-c)) x y)/\0<d-c:=by
 have d0:0<d-c:=Zk
 have n0:0<=b-a:=Zk
 have dz:=Sz.sub hd.nn hc.nn (Rat.le_of_lt h1) zd zc
 have nz:=Sz.sub hb.nn ha.nn h2 zb za
 exact⟨Zaa n0 nz Zd Zd,Zaa (Rat.le_of_lt d0) dz Zd Zd,Zaa (ZeP n0 (Rat.le_of_lt d0)) (Sz.div n0 d0 nz dz) Zd Zd,d0⟩
theorem Zjl {bs:List BB} {k:Nat} (hk:k<bs.length) (h:Zw 18 (bAt bs k).1=false\/Zw 18 (bAt bs k).2=false):¬ CurveP bs:=fun hc=>by
 have:=hc.small k hk
 rcases h with h | h
 ·rw[h] at this;cases this.1
 ·rw[h] at this;cases this.2
theorem Zoj {bs:List BB} {k:Nat} (hk:k<bs.length) (h:¬ hR bs k<=1):¬ CurveP bs:=fun hc=>h (hc.top k hk)
theorem Znw {bs:List BB} {i:Nat} (hk:i+1<bs.length) (h:¬ (cR bs i<cR bs (i+1)/\hR bs i<=hR bs (i+1))):¬ CurveP bs:=fun hc=>h (hc.up i hk)
theorem ZnI {bs:List BB} {i:Nat} (hk:i+2<bs.length) (h:¬ slp (cR bs) (hR bs) (i+1)<=slp (cR bs) (hR bs) i):¬ CurveP bs:=fun hc=>h (hc.conc i hk)
abbrev S6 (g U:Nat) (s0 t0 s1 t1 x y:ByteArray) (w':World):Prop:=w'.cell? ⟨g,0,none⟩=some (.string s0)/\w'.cell? ⟨g,1,none⟩=some (.string t0)/\
 w'.cell? ⟨g+1,0,none⟩=some (.string s1)/\w'.cell? ⟨g+1,1,none⟩=some (.string t1)/\w'.cell? ⟨U,0,none⟩=some (.string x)/\w'.cell? ⟨U,1,none⟩=some (.string y)
theorem Ze8 {a b c d:Rat} {s0 t0 u0 v0 s1 t1 u1 v1 x1 y1 x2 y2 x y:ByteArray} (hc:IsP c s0 t0) (ha:IsP a u0 v0) (hd:IsP d s1 t1) (hb:IsP b u1 v1) (h1:IsP (b-a) x1 y1) (h2:IsP (d-c) x2 y2) (h3:IsP ((b-a)/(d-c)) x y) (hp:0<d-c)
  (w:World):Calls Tryz.prog 140 #[.agg #[.string s0,.string t0,.string u0,.string v0],.agg #[.string s1,.string t1,.string u1,.string v1]] w (Z1 (pV x y) w):=by
 have HC:=Zpz hc
 have HA:=Zpz ha
 have HD:=Zpz hd
 have HBB:=Zpz hb
 have H1:=Zpz h1
 have H2:=Zpz h2
 have H3:=Zpz h3
 have HP:=Zpz hp
 clear hc ha hd hb h1 h2 h3 hp
 go_enter Tryz.func140,Tryz.ntmps140
 go_wp2_with fail
 obtain⟨w0,hw0⟩:=ZpB (((w.alloc (bO s0 t0 u0 v0)).alloc (bO s1 t1 u1 v1)).alloc (pObj Zpv Zpv))
 rw[hw0]
 have HX0:Hid (Zv w.heap.size [bO s0 t0 u0 v0,bO s1 t1 u1 v1,pObj Zpv Zpv] w0):=by rw[<- hw0];exact Zv.three w _ _ _
 have HB0:Zpt w w0:=by rw[<- hw0];exact(((ZoL _ w).alloc ZpA _).alloc Zc _).alloc (by simp<;>omega) _
 clear hw0
 refine(Zhg HBB.out HA.out H1.out rfl _).mono ?_
 rintro e w1 ⟨rfl,hb⟩
 have HX1:=Zpz (HX0.out.below hb HX0.out.lt)
 have HB1:Zpt w w1:=HB0.out.trans (hb.mono HB0.out.size)
 clear hb
 go_wp2_with fail
 refine(Zde x1 y1 0 _).mono ?_
 rintro e w2 ⟨rfl,hb⟩
 have HX2:=Zpz (HX1.out.below hb HX1.out.lt)
 have HB2:Zpt w w2:=HB1.out.trans (hb.mono HB1.out.size)
 clear hb
 go_wp2_with fail
 obtain⟨U,hU⟩:=ZpB w2.heap.size
 obtain⟨W,hW⟩:=ZpB (w2.alloc (pObj x1 y1))
 have hal:Below w2.heap.size w2 W:=by rw[<- hW];exact(ZoL _ w2).alloc ZpA _
 have HX3:Hid (Zv w.heap.size [bO s0 t0 u0 v0,bO s1 t1 u1 v1,pObj Zpv Zpv] W):=HX2.out.below hal HX2.out.lt
 have HBW:Zpt w W:=HB2.out.trans (hal.mono HB2.out.size)
 have hu:W.heap[U]?=some (pObj x1 y1):=by rw[<- hW,<- hU];exact ZoO w2 _
 have hUl:w.heap.size+3<=U:=by rw[<- hU];exact HX2.out.lt
 have hul:=(Zpu hu)
 have hS:∀ w',Below W.heap.size W w'->S6 w.heap.size U s0 t0 s1 t1 x1 y1 w':=fun w' h=>by
  have hx:=HX3.out.below h HX3.out.lt
  have hu2:w'.heap[U]?=some (pObj x1 y1):=(h.block U hul).trans hu
  exact⟨hx.cell 0 0 (b:=w.heap.size) rfl rfl rfl,hx.cell 0 1 (b:=w.heap.size) rfl rfl rfl,hx.cell 1 0 (b:=w.heap.size+1) rfl rfl rfl,hx.cell 1 1 (b:=w.heap.size+1) rfl rfl rfl,Zn hu2 0 rfl,Zn hu2 1 rfl⟩
 have HS:=Zpz hS
 have HS2:Hid (∀ w',Below W.heap.size W w'->∀ x y,S6 w.heap.size U s0 t0 s1 t1 x1 y1 ((w'.setCell ⟨w.heap.size+1+1,0,none⟩ (.string x)).setCell ⟨w.heap.size+1+1,1,none⟩ (.string y))):=fun w' h x y=>by
  obtain⟨a0,a1,b0,b1,c0,c1⟩:=hS w' h
  refine⟨?_,?_,?_,?_,?_,?_⟩<;>(rw[World.cell?_setCell_other _ _ _ _ (by simp<;>omega),World.cell?_setCell_other _ _ _ _ (by simp<;>omega)];assumption)
 have HRB:Hid (W.heap[w.heap.size+1+1]?=some (pObj Zpv Zpv)/\w.heap.size+1+1<W.heap.size):=⟨HX3.out.block 2 rfl rfl,by have h:=HX3.out.lt;simp at h;omega⟩
 have HRL:Hid (w.heap.size<=w.heap.size+1+1):=by show _<=_;omega
 have HW0:Hid (Below W.heap.size W W.drew):=(ZoL _ W).drew
 rw[hW,hU]
 clear hW hU hal hu hUl hul hS HX0 HX1 HX2 HB0 HB1 HB2
 refine Zag [(true,0),(true,1),(true,2),(true,3),(true,4),(false,5),(true,6),(true,7),(false,8),(false,9),(true,10),(true,11),(false,12),(false,13)] (S6 w.heap.size U s0 t0 s1 t1 x1 y1) (fun _=>false)
  Zb Zb (fun _ _=>rfl) Zi (HS.out _ HW0.out) ?_
 iterate 5
  refine Zr _ rfl rfl (fun w' hS=>by obtain⟨a0,a1,b0,b1,c0,c1⟩:=hS;exact Zf) ?_
  simp only[Act.put,Zm]
 refine Zt rfl rfl fun K hK=>?_
 go_simp
 go_at_call 105
 refine(Zhg HD.out HC.out H2.out rfl _).mono ?_
 rintro e w3 ⟨rfl,hb⟩
 have HW3:Zpt W w3:=HW0.out.trans (hb.mono HW0.out.size)
 have hS9:=HS.out w3 HW3.out
 refine hK _ _ (.inr hS9) ?_
 clear hK K hb hS9
 iterate 2
  refine Zr _ rfl rfl (fun w' hS=>Zf) ?_
  simp only[Act.put,Zm]
 refine Zt rfl rfl fun K hK=>?_
 go_simp
 go_at_call 164
 refine(Zde x2 y2 0 _).mono ?_
 rintro e w4 ⟨rfl,hb⟩
 have HW4:Zpt W w4:=HW3.out.trans (hb.mono HW3.out.size)
 have hS9:=HS.out w4 HW4.out
 refine hK _ _ (.inr hS9) ?_
 clear hK K hb hS9
 refine Zt rfl rfl fun K hK=>?_
 go_simp
 go_at_call 145
 refine(Zn7 H1.out H2.out H3.out HP.out rfl _).mono ?_
 rintro e w5 ⟨rfl,hb⟩
 have HW5:Zpt W w5:=HW4.out.trans (hb.mono HW4.out.size)
 have hS9:=HS.out w5 HW5.out
 refine hK _ _ (.inr hS9) ?_
 clear hK K hb hS9
 iterate 2
  refine Zr _ rfl rfl (fun w' hS=>Zf) ?_
  simp only[Act.put,Zm]
 refine Zt rfl rfl fun K hK=>?_
 go_simp
 go_at_call 164
 refine(Zde x y 0 _).mono ?_
 rintro e w6 ⟨rfl,hb⟩
 have HW6:Zpt W w6:=HW5.out.trans (hb.mono HW5.out.size)
 have hS9:=HS.out w6 HW6.out
 refine hK _ _ (.inr hS9) ?_
 clear hK K hb hS9
 have hbk:w6.heap[w.heap.size+1+1]?=some (pObj Zpv Zpv):=(HW6.out.block _ HRB.out.2).trans HRB.out.1
 have r0:=Zn hbk 0 rfl
 have r1:=Zn hbk 1 rfl
 have f0:=Zo hbk 0
 have f1:=Zo hbk 1
 refine Zt rfl rfl fun K hK=>?_
 go_simp
 have q:=Zu hbk (.string x) (.string y)
 have HBQ:Hid (Below w.heap.size w ((w6.setCell ⟨w.heap.size+1+1,0,none⟩ (.string x)).setCell ⟨w.heap.size+1+1,1,none⟩ (.string y))):=Zs (HBW.out.trans (HW6.out.mono HBW.out.size)) (b:=w.heap.size+1+1) HRL.out (.string x) (.string y)
 have hS9:=HS2.out w6 HW6.out x y
 refine hK _ _ (.inr hS9) ?_
 clear hK K hS9
 refine ZI ?_
 obtain⟨w9,hw9⟩:=ZpB ((w6.setCell ⟨w.heap.size+1+1,0,none⟩ (.string x)).setCell ⟨w.heap.size+1+1,1,none⟩ (.string y))
 rw[hw9] at q HBQ ⊢
 obtain⟨q0,q1⟩:=q
 clear r0 r1 f0 f1 hw9 hbk
 go_wp2
 refine ZoM (v:=pV x y) (by simp[results,Tryz.f140,go_sem,q0,q1]) rfl ⟨rfl,HBQ.out⟩
end Go.Proofs.YtmpaflidennnoaaGreatDoor
