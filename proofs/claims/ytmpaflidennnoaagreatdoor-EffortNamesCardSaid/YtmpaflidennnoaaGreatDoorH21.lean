/- The parts DSlope, ChanceTo, EffS, EffB, EffP, Env, EnvS of a proof, put together by program (merge7.py). -/
import Derived.Test.YtmpaflidennnoaaGreatDoorH16
import Derived.Test.YtmpaflidennnoaaGreatDoorH20
import Derived.Test.YtmpaflidennnoaaGreatDoorH11
import Derived.Test.YtmpaflidennnoaaGreatDoorH01
set_option maxRecDepth 100000
set_option maxHeartbeats 8000000
set_option linter.unusedVariables false
set_option linter.unusedSimpArgs false
namespace Go.Proofs.YtmpaflidennnoaaGreatDoor
open Go.RowKit Go.Shelf
attribute [local go_sem ↓] Go.wp_at_zero Go.wp_at_succ
def Zk4 (c:Rat) (x y:ByteArray) (n:Int):Prop:=n=0∧IsP c x y
theorem Zkb {w:World} {a b c d:Rat} {s0 t0 u0 v0 s1 t1 u1 v1 x1 y1 x2 y2 x y:ByteArray} (A1 B1:Nat) (hA:w.heap[A1]?=some (bO s0 t0 u0 v0)) (hB:w.heap[B1]?=some (bO s1 t1 u1 v1))
  (hc:IsP c s0 t0) (ha:IsP a u0 v0) (hd:IsP d s1 t1) (hb:IsP b u1 v1) (h1:IsP (b-a) x1 y1) (h2:IsP (d-c) x2 y2) (h3:IsP ((b-a)/(d-c)) x y) (hp:0<d-c) (hT:Tabs w) :
  Calls Tryz.prog 184 #[.pointer (some ⟨A1,0,none⟩),.pointer (some ⟨B1,0,none⟩)] w (Zkn (Zk4 ((b-a)/(d-c))) w):=by
 have hb0:Below w.heap.size w (w.alloc (pObj ⟨#[]⟩ ⟨#[]⟩)):=(Below.refl _ w).alloc (Nat.le_refl _) _
 have HB0:=Lib.hid hb0
 have HR:=Lib.hid (Zjp hc ha hd hb h1 h2 h3 hp _ (hT.below hb0 (Nat.le_refl _)))
 have HH3:=Lib.hid h3
 have la:=(Array.getElem?_eq_some_iff.1 hA).1
 have lb:=(Array.getElem?_eq_some_iff.1 hB).1
 have a0:(w.alloc (pObj ⟨#[]⟩ ⟨#[]⟩)).cell? ⟨A1,0,none⟩=some (.string s0):=(ZH _ _ _ la).trans (Za hA 0 rfl)
 have a1:(w.alloc (pObj ⟨#[]⟩ ⟨#[]⟩)).cell? ⟨A1,1,none⟩=some (.string t0):=(ZH _ _ _ la).trans (Za hA 1 rfl)
 have a2:(w.alloc (pObj ⟨#[]⟩ ⟨#[]⟩)).cell? ⟨A1,2,none⟩=some (.string u0):=(ZH _ _ _ la).trans (Za hA 2 rfl)
 have a3:(w.alloc (pObj ⟨#[]⟩ ⟨#[]⟩)).cell? ⟨A1,3,none⟩=some (.string v0):=(ZH _ _ _ la).trans (Za hA 3 rfl)
 have b0:(w.alloc (pObj ⟨#[]⟩ ⟨#[]⟩)).cell? ⟨B1,0,none⟩=some (.string s1):=(ZH _ _ _ lb).trans (Za hB 0 rfl)
 have b1:(w.alloc (pObj ⟨#[]⟩ ⟨#[]⟩)).cell? ⟨B1,1,none⟩=some (.string t1):=(ZH _ _ _ lb).trans (Za hB 1 rfl)
 have b2:(w.alloc (pObj ⟨#[]⟩ ⟨#[]⟩)).cell? ⟨B1,2,none⟩=some (.string u1):=(ZH _ _ _ lb).trans (Za hB 2 rfl)
 have b3:(w.alloc (pObj ⟨#[]⟩ ⟨#[]⟩)).cell? ⟨B1,3,none⟩=some (.string v1):=(ZH _ _ _ lb).trans (Za hB 3 rfl)
 have HP:Hid ((w.alloc (pObj ⟨#[]⟩ ⟨#[]⟩)).heap[w.heap.size]?=some (pObj ⟨#[]⟩ ⟨#[]⟩)):=World.alloc_heap_new w _
 clear hb0 hA hB la lb hc ha hd hb h1 h2 h3 hp hT
 go_enter Tryz.func184,Tryz.ntmps184
 go_wp2_with fail
 refine HR.out.mono ?_
 rintro e w2 ⟨rfl,hb⟩
 have h2:w2.heap[w.heap.size]?=some (pObj ⟨#[]⟩ ⟨#[]⟩):=(hb.block _ (by simp)).trans HP.out
 have HB2:Hid (Below w.heap.size w w2):=HB0.out.trans (hb.mono HB0.out.size)
 have H2:=Lib.hid h2
 clear a0 a1 a2 a3 b0 b1 b2 b3 hb HR HP
 have c0:w2.cell? ⟨w.heap.size,0,none⟩=some (.string ⟨#[]⟩):=Za h2 0 rfl
 have c1:w2.cell? ⟨w.heap.size,1,none⟩=some (.string ⟨#[]⟩):=Za h2 1 rfl
 have f0:w2.frozen? ⟨w.heap.size,0,none⟩=false:=Zb h2 0
 have f1:w2.frozen? ⟨w.heap.size,1,none⟩=false:=Zb h2 1
 clear h2
 go_wp2
 obtain⟨q0,q1⟩:=Zh H2.out (.string x) (.string y)
 exact bodyPost_ret (v:=.agg #[.string x,.string y]) (by simp[results,Tryz.f184,go_sem,q0,q1]) rfl ⟨x,y,0,.inl ⟨rfl,rfl⟩,⟨rfl,HH3.out⟩,Zf HB2.out (Nat.le_refl _) (.string x) (.string y)⟩
theorem Zj4 {v:Value} {bs:List BB} {w:World} {s t:ByteArray} (hv:BL w v bs) (hz:LimB bs) (hs:s.size≤1000000) (ht:t.size≤1000000) (hD:DetV w) (hT:Tabs w) :
  Calls Tryz.prog 137 #[v,.agg #[.string s,.string t]] w (Zx (Zdu bs s t) w):=by
 obtain⟨n,hn⟩:∃ n,bs.length=n:=⟨_,rfl⟩
 obtain⟨p,c,rfl⟩:∃ p c,v=.slice p n c:=by obtain⟨p,c,h,_⟩:=id hv;exact⟨_,_,by rw[← hn];exact h⟩
 clear hn
 obtain⟨w3,hw3⟩:∃ z,(w.alloc (pObj s t)).alloc (pObj ⟨#[]⟩ ⟨#[]⟩)=z:=⟨_,rfl⟩
 have hs3:w3.heap.size=w.heap.size+2:=by rw[← hw3];simp
 have HX:Hid (Zk w.heap.size [pObj s t,pObj ⟨#[]⟩ ⟨#[]⟩] w3):=by rw[← hw3];exact Zk.two w _ _
 have HB3:Hid (Below w.heap.size w w3):=by rw[← hw3];exact((Below.refl _ w).alloc (Nat.le_refl _) _).alloc (by simp) _
 have hb4:Below w3.heap.size w3 (w3.alloc (.cells #[.string s,.string t] 41)):=(Below.refl _ w3).alloc (Nat.le_refl _) _
 have HB4:Hid (Below w.heap.size w (w3.alloc (.cells #[.string s,.string t] 41))):=HB3.out.trans (hb4.mono HB3.out.size)
 have hlim:LimP [(s,t)]:=fun p hp=>by
  rw[List.mem_singleton] at hp
  subst hp
  exact⟨hs,ht⟩
 have HR:=Lib.hid (Zf2 (hv.after HB4.out (Nat.le_refl _)) hz (Zhk w3 s t) hlim (hD.below HB4.out (Nat.le_refl _)) (hT.below HB4.out (Nat.le_refl _)))
 rw[hs3] at HR
 have HX4:=Lib.hid (HX.out.below hb4 (by rw[hs3];exact Nat.le_refl _))
 have HV:=Lib.hid hv
 have HT:=Lib.hid hT
 have HD:=Lib.hid hD
 have d0:w3.cell? ⟨w.heap.size,0,none⟩=some (.string s):=HX.out.cell 0 0 rfl rfl rfl
 have d1:w3.cell? ⟨w.heap.size,1,none⟩=some (.string t):=HX.out.cell 0 1 rfl rfl rfl
 have hs3':=hs3
 rw[← hw3] at d0 d1 HR HX4 HB4 hs3'
 clear hv hz hD hT hb4 hw3 hs hs3 HB3 HX hlim ht
 go_enter Tryz.func137,Tryz.ntmps137
 go_wp2_with fail
 refine HR.out.mono ?_
 rintro e w5 ⟨hE,hb⟩
 have HX5:=Lib.hid (HX4.out.below hb (by simp))
 have HB5:=Lib.hid (HB4.out.trans (hb.mono HB4.out.size))
 clear d0 d1 hb HR HX4 HB4 hs3'
 have hl5:=HX5.out.lt
 rcases hE with ⟨hr,rfl⟩ | ⟨hr,rfl⟩
 ·have HRP:=Lib.hid (ZbI.1 hr)
  have hsm:=Za9 (ZbI.1 hr).2
  have HSM:=Lib.hid hsm
  have d0:w5.cell? ⟨w.heap.size,0,none⟩=some (.string s):=HX5.out.cell 0 0 rfl rfl rfl
  have d1:w5.cell? ⟨w.heap.size,1,none⟩=some (.string t):=HX5.out.cell 0 1 rfl rfl rfl
  have HPC:=Lib.hid (Zhp (HV.out.after HB5.out (Nat.le_refl _)) HRP.out.1 hsm.1)
  clear hr hsm
  go_wp2_with fail
  refine HPC.out.mono ?_
  rintro e w6 ⟨i,j,inn,he,hA,hb⟩
  have HB6:=Lib.hid (HB5.out.trans (hb.mono HB5.out.size))
  have HX6:=Lib.hid (HX5.out.below hb (by simpa using hl5))
  obtain⟨q0,hq0⟩:∃ q,bAt bs i=q:=⟨_,rfl⟩
  obtain⟨q1,hq1⟩:∃ q,bAt bs j=q:=⟨_,rfl⟩
  have HQ0:=Lib.hid hq0
  have HQ1:=Lib.hid hq1
  rw[hq0,hq1] at he
  obtain⟨⟨s0,t0⟩,u0,v0⟩:=q0
  obtain⟨⟨s1,t1⟩,u1,v1⟩:=q1
  subst he
  clear d0 d1 hb HPC hq0 hq1 HX5 HB5 hl5
  obtain⟨A,hAs⟩:∃ A,w6.heap.size=A:=⟨_,rfl⟩
  obtain⟨w7,hw7⟩:∃ z,(w6.alloc (bO s0 t0 u0 v0)).alloc (bO s1 t1 u1 v1)=z:=⟨_,rfl⟩
  have hal:Below w6.heap.size w6 w7:=by rw[← hw7];exact((Below.refl _ w6).alloc (Nat.le_refl _) _).alloc (by simp) _
  have HB7:Hid (Below w.heap.size w w7):=HB6.out.trans (hal.mono HB6.out.size)
  have HX7:=Lib.hid (HX6.out.below hal HX6.out.lt)
  have HY7:Hid (Zk A [bO s0 t0 u0 v0,bO s1 t1 u1 v1] w7):=by rw[← hw7,← hAs];exact Zk.two w6 _ _
  have c0:w7.cell? ⟨w.heap.size+1,0,none⟩=some (.string ⟨#[]⟩):=HX7.out.cell 1 0 rfl rfl rfl
  have c1:w7.cell? ⟨w.heap.size+1,1,none⟩=some (.string ⟨#[]⟩):=HX7.out.cell 1 1 rfl rfl rfl
  have f0:w7.frozen? ⟨w.heap.size+1,0,none⟩=false:=HX7.out.free 1 0 rfl rfl
  have f1:w7.frozen? ⟨w.heap.size+1,1,none⟩=false:=HX7.out.free 1 1 rfl rfl
  rcases hA with ⟨hp,⟨hi,rfl,rfl⟩ | ⟨hi,rfl,rfl⟩⟩
  ·have hC:=HRP.out.1
   obtain⟨⟨x1,y1,j1⟩,⟨x2,y2,j2⟩,⟨x,y,j3⟩,j4⟩:=Zln hC hi
   have hC0:=(hC.isC (i:=i) (by omega)).1
   have hH0:=(hC.isH (i:=i) (by omega)).1
   have hC1:=(hC.isC (i:=i+1) hi).1
   have hH1:=(hC.isH (i:=i+1) hi).1
   rw[HQ0.out] at hC0 hH0
   rw[HQ1.out] at hC1 hH1
   have HA:Hid (Zdu bs s t x y 0):=by
    refine .inr ⟨HRP.out,rfl,_,⟨i,hp,rfl⟩,?_⟩
    unfold slo
    rw[if_pos hi]
    exact j3
   have HTR:Hid (Calls Tryz.prog 183 #[.func (.func 184) #[] #[.pointer (some ⟨A,0,none⟩),.pointer (some ⟨A+1,0,none⟩)]] w7 (Zx (Zk4 ((hR bs (i+1)-hR bs i)/(cR bs (i+1)-cR bs i))) w7)):=
    Zgm (enters_of Tryz.func184 (by kernel_rfl) rfl) fun W hW=>by
     have hx:=HY7.out.below hW HY7.out.lt
     have hbw:=HB7.out.trans (hW.mono HB7.out.size)
     exact Zkb A (A+1) (hx.block 0 rfl rfl) (hx.block 1 rfl rfl) hC0 hH0 hC1 hH1 j1 j2 j3 j4 (HT.out.below hbw (Nat.le_refl _))
   have HJ3:Hid (IsP ((hR bs (i+1)-hR bs i)/(cR bs (i+1)-cR bs i)) x y):=j3
   clear j1 j2 j3 j4 hC hC0 hH0 hC1 hH1 hp hi hal
   go_wp2_with fail
   refine HTR.out.mono ?_
   rintro e w8 ⟨x',y',m,rfl,⟨rfl,hA⟩,hb⟩
   obtain⟨rfl,rfl⟩:=Z5 hA HJ3.out rfl
   have HX8:=Lib.hid (HX7.out.below hb HX7.out.lt)
   have HB8:=Lib.hid (HB7.out.trans (hb.mono HB7.out.size))
   clear c0 c1 f0 f1 hb hA HTR hw7 hAs
   have c0:w8.cell? ⟨w.heap.size+1,0,none⟩=some (.string ⟨#[]⟩):=HX8.out.cell 1 0 rfl rfl rfl
   have c1:w8.cell? ⟨w.heap.size+1,1,none⟩=some (.string ⟨#[]⟩):=HX8.out.cell 1 1 rfl rfl rfl
   have f0:w8.frozen? ⟨w.heap.size+1,0,none⟩=false:=HX8.out.free 1 0 rfl rfl
   have f1:w8.frozen? ⟨w.heap.size+1,1,none⟩=false:=HX8.out.free 1 1 rfl rfl
   go_wp2
   obtain⟨q0,q1⟩:=Zh (HX8.out.block 1 (b:=w.heap.size+1) rfl rfl) (.string x') (.string y')
   exact bodyPost_ret (v:=.tuple #[.agg #[.string x',.string y'],.int .i64 0]) (by simp[results,Tryz.f137,go_sem,q0,q1]) rfl ⟨x',y',0,rfl,HA.out,Zf HB8.out (by show _≤_;omega) (.string x') (.string y')⟩
  ·have HA:Hid (Zdu bs s t ⟨#[48]⟩ ⟨#[49]⟩ 0):=by
    refine .inr ⟨HRP.out,rfl,_,⟨j,hp,rfl⟩,?_⟩
    unfold slo
    rw[if_neg (by omega)]
    exact ZP
   have z0:=(HD.out.below HB7.out (Nat.le_refl _)).z0
   have z1:=(HD.out.below HB7.out (Nat.le_refl _)).z1
   clear hp hi hal
   go_wp2
   obtain⟨q0,q1⟩:=Zh (HX7.out.block 1 (b:=w.heap.size+1) rfl rfl) (.string ⟨#[48]⟩) (.string ⟨#[49]⟩)
   exact bodyPost_ret (v:=.tuple #[.agg #[.string ⟨#[48]⟩,.string ⟨#[49]⟩],.int .i64 0]) (by simp[results,Tryz.f137,go_sem,q0,q1]) rfl ⟨⟨#[48]⟩,⟨#[49]⟩,0,rfl,HA.out,Zf HB7.out (by show _≤_;omega) (.string ⟨#[48]⟩) (.string ⟨#[49]⟩)⟩
 ·have HA:Hid (Zdu bs s t ⟨#[]⟩ ⟨#[]⟩ 2):=.inl ⟨fun h=>hr (ZbI.2 h),rfl,rfl,rfl⟩
  have c0:w5.cell? ⟨w.heap.size+1,0,none⟩=some (.string ⟨#[]⟩):=HX5.out.cell 1 0 rfl rfl rfl
  have c1:w5.cell? ⟨w.heap.size+1,1,none⟩=some (.string ⟨#[]⟩):=HX5.out.cell 1 1 rfl rfl rfl
  have f0:w5.frozen? ⟨w.heap.size+1,0,none⟩=false:=HX5.out.free 1 0 rfl rfl
  have f1:w5.frozen? ⟨w.heap.size+1,1,none⟩=false:=HX5.out.free 1 1 rfl rfl
  clear hr HV HT hl5
  go_wp2
  obtain⟨q0,q1⟩:=Zh (HX5.out.block 1 (b:=w.heap.size+1) rfl rfl) (.string ⟨#[]⟩) (.string ⟨#[]⟩)
  exact bodyPost_ret (v:=.tuple #[.agg #[.string ⟨#[]⟩,.string ⟨#[]⟩],.int .i64 2]) (by simp[results,Tryz.f137,go_sem,q0,q1]) rfl ⟨⟨#[]⟩,⟨#[]⟩,2,rfl,HA.out,Zf HB5.out (by show _≤_;omega) (.string ⟨#[]⟩) (.string ⟨#[]⟩)⟩
end Go.Proofs.YtmpaflidennnoaaGreatDoor
namespace Go.Proofs.YtmpaflidennnoaaGreatDoor
open Go.RowKit Go.Shelf
theorem Zd6 {q:Rat} {s t:ByteArray} {k:Nat} (h:IsP q s t) (hz:Sz k q) (h0:0<k):Zm k (s,t)=true:=by
 refine Zaj.2 ⟨?_,?_,h.ok⟩
 ·show s.size≤k
  rw[h.num,ZaG]
  exact ZK h0 hz.1
 ·show t.size≤k
  rw[h.den,ZaG]
  exact ZK h0 hz.2
theorem Zik {bs:List BB} {q r:Rat} {k:Nat} (h:CurveP bs) (hq0:0≤q) (hz:Sz k q) (hr:Zv bs.length (cR bs) (hR bs) q r):Sz (k+109) r:=by
 obtain⟨i,hk,rfl⟩:=hr
 by_cases hi:i+1<bs.length
 ·have:=(Zh2 h.conc' h.sizes.1 h.sizes.2 hq0 hz hi hk).2.2.2.2.2
  exact this.mono (by omega)
 ·have e:lin bs.length (cR bs) (hR bs) i q=hR bs i:=by
   unfold lin slo
   rw[if_neg hi]
   grind
  rw[e]
  exact(h.sizes.2 i hk.1).mono (by omega)
theorem Zla {bs:List BB} {q:Rat} {k:Nat} (h:CurveP bs) (hq0:0≤q) (hz:Sz k q) (hk:k≤300):∃ r x y,Zv bs.length (cR bs) (hR bs) q r∧IsP r x y∧Sz (k+109) r∧0≤r∧r≤1:=by
 obtain⟨r,hr⟩:=ZbN h q
 have hs:=Zik h hq0 hz hr
 have h0:=hr.nn h.conc' hq0
 obtain⟨x,y,hx⟩:=ZL h0 hs (by omega) (by omega)
 exact⟨r,x,y,hr,hx,hs,h0,hr.top h.conc'⟩
theorem Zli {v:Value} {bs:List BB} {w:World} {q r:Rat} {s t x y:ByteArray} (hv:BL w v bs) (hC:CurveP bs) (hz:LimB bs) (hq:IsP q s t) (hs:Sz 300 q) (hr:Zv bs.length (cR bs) (hR bs) q r) (hx:IsP r x y) (hD:DetV w) (hT:Tabs w) :
  Calls Tryz.prog 168 #[v,pV s t] w (Z7 (.tuple #[pV x y,.int .i64 0]) w):=by
 refine(ZiI hv hz hq.limit.1 hq.limit.2 hD hT).mono ?_
 rintro e w' ⟨u,u2,n,rfl,h,hb⟩
 rcases h with ⟨h,_⟩ | ⟨_,rfl,r',h1,h2⟩
 ·exact absurd ⟨hC,Zd6 hq hs (by decide)⟩ h
 ·rw[hq.rat] at h1
  obtain⟨e1,e2⟩:=Z5 h2 hx (h1.unique hr)
  subst e1 e2
  exact⟨rfl,hb⟩
theorem Zh4 {bs:List BB} {q:Rat} (h:CurveP bs):∃ r x y,Zbx bs.length (cR bs) (hR bs) q r∧IsP r x y∧Sz 72 r∧0≤r:=by
 obtain⟨c,i,hi,_⟩:=ZbN h q
 by_cases hk:i+1<bs.length
 ·obtain⟨a1,a2,a3,a4,a5,a6⟩:=Zd9 h.conc' h.sizes.1 h.sizes.2 hk
  obtain⟨x,y,hx⟩:=ZL a5 a6 (by decide) (by decide)
  refine⟨_,x,y,⟨i,hi,rfl⟩,?_,?_,?_⟩<;>(unfold slo;rw[if_pos hk];assumption)
 ·refine⟨_,⟨#[48]⟩,⟨#[49]⟩,⟨i,hi,rfl⟩,?_,?_,?_⟩<;>(unfold slo;rw[if_neg hk])
  ·exact ZP
  ·exact⟨by decide +kernel,by decide +kernel⟩
  ·exact Rat.le_refl
theorem Zl3 {v:Value} {bs:List BB} {w:World} {q r:Rat} {s t x y:ByteArray} (hv:BL w v bs) (hC:CurveP bs) (hz:LimB bs) (hq:IsP q s t) (hs:Sz 300 q) (hr:Zbx bs.length (cR bs) (hR bs) q r) (hx:IsP r x y) (hD:DetV w) (hT:Tabs w) :
  Calls Tryz.prog 137 #[v,pV s t] w (Z7 (.tuple #[pV x y,.int .i64 0]) w):=by
 refine(Zj4 hv hz hq.limit.1 hq.limit.2 hD hT).mono ?_
 rintro e w' ⟨u,u2,n,rfl,h,hb⟩
 rcases h with ⟨h,_⟩ | ⟨_,rfl,r',h1,h2⟩
 ·exact absurd ⟨hC,Zd6 hq hs (by decide)⟩ h
 ·rw[hq.rat] at h1
  obtain⟨e1,e2⟩:=Z5 h2 hx (h1.unique hr)
  subst e1 e2
  exact⟨rfl,hb⟩
theorem ZdF {n:Int} (h0:0≤n) (h1:n≤48):(∃ x y,IsP ((n:Int):Rat) x y)∧Sz 2 ((n:Int):Rat)∧0≤((n:Int):Rat):=by
 obtain⟨k,rfl⟩:∃ k:Nat,n=k:=⟨n.toNat,by omega⟩
 have e:(((k:Nat):Int):Rat)=mkRat (k:Nat) 1:=by
  have h:∀ k:Nat,k≤48→(((k:Nat):Int):Rat)=mkRat (k:Nat) 1:=by decide +kernel
  exact h k (by omega)
 have z:Sz 2 (mkRat (k:Nat) 1):=Sz.mk (by decide) (by omega) (by decide)
 have n0:0≤mkRat (k:Nat) 1:=Zcf _ _
 rw[e]
 exact⟨ZL n0 z (by decide) (by decide),z,n0⟩
theorem ZcF {t:TaskP} (h:TaskOk t) {u i:Nat} (hu:u<t.rates.length) (hi:i<t.sites.length):IsP (rR t u i) (eR t u i).1 (eR t u i).2∧Sz 9 (rR t u i):=by
 obtain⟨h1,h2,h3⟩:=Zaj.1 ((h.team u hu).2.2 i hi)
 have:=ZaA h3
 exact⟨this,this.sz h1 h2⟩
theorem Zco {t:TaskP} (h:TaskOk t) {i:Nat} (hi:i<t.sites.length):IsP (wR t i) (eS t i).weight.1 (eS t i).weight.2∧Sz 9 (wR t i):=by
 obtain⟨h1,h2,h3⟩:=Zaj.1 (h.site i hi).1
 have:=ZaA h3
 exact⟨this,this.sz h1 h2⟩
def ZaV (t:TaskP) (p:List (List Int)):Prop:=p.length=t.hours.length∧(∀ u (h:u<p.length),p[u].length=t.sites.length)∧∀ u i,u<p.length→i<t.sites.length→0≤pN p u i∧pN p u i≤48
theorem PlanOk.inn {t:TaskP} {p:List (List Int)} (h:PlanOk t p):ZaV t p:=⟨h.teams,h.row,fun u i hu hi=>(h.hour u i hu hi).1⟩
theorem Zhb {t:TaskP} {p:List (List Int)} (h:TaskOk t) (hp:ZaV t p) {u i:Nat} (hu:u<p.length) (hi:i<t.sites.length) :
  (∃ x y,IsP (rR t u i*((pN p u i:Int):Rat)) x y)∧Sz 11 (rR t u i*((pN p u i:Int):Rat))∧0≤rR t u i*((pN p u i:Int):Rat):=by
 have hr:=h.rates
 have hpl:=hp.1
 obtain⟨r1,r2⟩:=ZcF h (u:=u) (i:=i) (by omega) hi
 obtain⟨_,w2,w3⟩:=ZdF (hp.2.2 u i hu hi).1 (hp.2.2 u i hu hi).2
 have n0:=Rat.mul_nonneg r1.nn w3
 have z:=Sz.mul r1.nn w3 r2 w2
 exact⟨ZL n0 z (by decide) (by decide),z,n0⟩
theorem Zh5 {t:TaskP} {p:List (List Int)} (h:TaskOk t) (hp:ZaV t p) {i:Nat} (hi:i<t.sites.length):∀ k,k≤p.length→Sz (12*k+1) (Zar t p i k)∧0≤Zar t p i k
 | 0,_=>⟨(show Sz 1 (0:Rat) from ⟨by decide +kernel,by decide +kernel⟩),Rat.le_refl⟩
 | k+1,hk=>by
  obtain⟨z,n⟩:=Zh5 h hp hi k (by omega)
  obtain⟨_,z2,n2⟩:=Zhb h hp (u:=k) (by omega) hi
  exact⟨(Sz.add n n2 z z2).mono (by omega),by unfold Zar;grind⟩
theorem Zcw {t:TaskP} {p:List (List Int)} (h:TaskOk t) (hp:ZaV t p) {i:Nat} (hi:i<t.sites.length) {k:Nat} (hk:k≤p.length):(∃ x y,IsP (Zar t p i k) x y)∧Sz 97 (Zar t p i k)∧0≤Zar t p i k:=by
 obtain⟨z,n⟩:=Zh5 h hp hi k hk
 have h1:=h.teams.2
 have h2:=hp.1
 have z2:Sz 97 (Zar t p i k):=z.mono (by omega)
 exact⟨ZL n z2 (by decide) (by decide),z2,n⟩
theorem Zfi {t:TaskP} (h:TaskOk t) {i:Nat} (hi:i<t.sites.length) {q:Rat} {k:Nat} (hq:0≤q) (hz:Sz k q) (hk:k≤300):(∃ x y,IsP (chF (eS t i).curve q) x y)∧Sz (k+109) (chF (eS t i).curve q)∧0≤chF (eS t i).curve q∧chF (eS t i).curve q≤1:=by
 have hC:=(h.site i hi).2
 obtain⟨r,x,y,h1,h2,h3,h4,h5⟩:=Zla hC hq hz hk
 rw[Ze7 hC h1]
 exact⟨⟨x,y,h2⟩,h3,h4,h5⟩
def ZT (f:Nat→Rat) (n:Nat):Prop:=∀ k,k≤n→Fits (sumF f k)
def SumE (f:Nat→Rat) (n:Nat) (x y:ByteArray) (e:Int):Prop:=(ZT f n∧IsP (sumF f n) x y∧e=0)∨(¬ ZT f n∧x=⟨#[]⟩∧y=⟨#[]⟩∧e=4)
theorem SumE.det {f:Nat→Rat} {n:Nat} {x y u v:ByteArray} {e d:Int} (h:SumE f n x y e) (g:SumE f n u v d):x=u∧y=v∧e=d:=by
 rcases h with ⟨h1,h2,rfl⟩ | ⟨h1,rfl,rfl,rfl⟩
 ·rcases g with ⟨_,g2,rfl⟩ | ⟨g1,_⟩
  ·obtain⟨e1,e2⟩:=Z5 h2 g2 rfl
   exact⟨e1,e2,rfl⟩
  ·exact absurd h1 g1
 ·rcases g with ⟨g1,_⟩ | ⟨_,rfl,rfl,rfl⟩
  ·exact absurd g1 h1
  ·exact⟨rfl,rfl,rfl⟩
theorem ZkU:Fits (0:Rat):=ZP.fits
theorem ZT.zero (f:Nat→Rat):ZT f 0:=fun k hk=>by
 obtain rfl:k=0:=by omega
 exact ZkU
theorem ZT.step {f:Nat→Rat} {n:Nat} (h:ZT f n) (hf:Fits (sumF f n+f n)):ZT f (n+1):=fun k hk=>by
 rcases Nat.lt_or_ge n k with h1 | h1
 ·obtain rfl:k=n+1:=by omega
  exact hf
 ·exact h k h1
theorem ZT.not {f:Nat→Rat} {n m:Nat} (hf:¬ Fits (sumF f n+f n)) (hm:n<m):¬ ZT f m:=fun h=>hf (h (n+1) hm)
theorem Zjw {f:Nat→Rat} : ∀ {n:Nat},(∀ i,i<n→0≤f i)→0≤sumF f n
 | 0,_=>Rat.le_refl
 | n+1,h=>by
  have h1:=Zjw (f:=f) (n:=n) fun i hi=>h i (by omega)
  have h2:=h n (by omega)
  unfold sumF
  grind
structure Best (g:Nat→Rat) (n:Nat) (r:Option Nat) (m:Rat):Prop where
 no:r=none→m=0∧∀ k,k<n→g k≤0
 yes:∀ j,r=some j→j<n∧m=g j∧0<m∧(∀ k,k<n→g k≤g j)∧∀ k,k<j→g k<g j
theorem Best.zero (g:Nat→Rat):Best g 0 none 0:=⟨fun _=>⟨rfl,fun k h=>absurd h (Nat.not_lt_zero _)⟩,fun j h=>by cases h⟩
theorem Best.nn {g:Nat→Rat} {n:Nat} {r:Option Nat} {m:Rat} (h:Best g n r m):0≤m:=by
 cases r with
 | none=>rw[(h.no rfl).1];exact Rat.le_refl
 | some j=>exact Rat.le_of_lt (h.yes j rfl).2.2.1
theorem Best.le {g:Nat→Rat} {n:Nat} {r:Option Nat} {m:Rat} (h:Best g n r m) {k:Nat} (hk:k<n):g k≤m:=by
 cases r with
 | none=>
  rw[(h.no rfl).1]
  exact(h.no rfl).2 k hk
 | some j=>
  obtain⟨_,e,_,h2,_⟩:=h.yes j rfl
  rw[e]
  exact h2 k hk
theorem Best.up {g:Nat→Rat} {n:Nat} {r:Option Nat} {m:Rat} (h:Best g n r m) (hlt:m<g n):Best g (n+1) (some n) (g n):=by
 refine⟨fun h=>(by cases h),fun j hj=>?_⟩
 obtain rfl:=Option.some.inj hj
 have h0:=h.nn
 refine⟨Nat.lt_succ_self _,rfl,by grind,fun k hk=>?_,fun k hk=>?_⟩
 ·rcases Nat.lt_or_ge k n with h1 | h1
  ·have:=h.le h1
   grind
  ·obtain rfl:k=n:=by omega
   exact Rat.le_refl
 ·have:=h.le hk
  grind
theorem Best.keep {g:Nat→Rat} {n:Nat} {r:Option Nat} {m:Rat} (h:Best g n r m) (hle:g n≤m):Best g (n+1) r m:=by
 refine⟨fun hr=>?_,fun j hj=>?_⟩
 ·obtain⟨h1,h2⟩:=h.no hr
  refine⟨h1,fun k hk=>?_⟩
  rcases Nat.lt_or_ge k n with h3 | h3
  ·exact h2 k h3
  ·obtain rfl:k=n:=by omega
   rw[← h1]
   exact hle
 ·obtain⟨h1,h2,h3,h4,h5⟩:=h.yes j hj
  refine⟨by omega,h2,h3,fun k hk=>?_,h5⟩
  rcases Nat.lt_or_ge k n with h6 | h6
  ·exact h4 k h6
  ·obtain rfl:k=n:=by omega
   rw[← h2]
   exact hle
theorem Best.det {g:Nat→Rat} {n:Nat} {r s:Option Nat} {m l:Rat} (h:Best g n r m) (k:Best g n s l):r=s∧m=l:=by
 cases r with
 | none=>
  obtain⟨h1,h2⟩:=h.no rfl
  cases s with
  | none=>exact⟨rfl,by rw[h1,(k.no rfl).1]⟩
  | some j=>
   obtain⟨k1,k2,k3,_⟩:=k.yes j rfl
   have:=h2 j k1
   exfalso
   grind
 | some i=>
  obtain⟨h1,h2,h3,h4,h5⟩:=h.yes i rfl
  cases s with
  | none=>
   have:=(k.no rfl).2 i h1
   exfalso
   grind
  | some j=>
   obtain⟨k1,k2,k3,k4,k5⟩:=k.yes j rfl
   have e1:=h4 j k1
   have e2:=k4 i h1
   rcases Nat.lt_trichotomy i j with h6 | rfl | h6
   ·have:=k5 i h6
    exfalso
    grind
   ·exact⟨rfl,by rw[h2,k2]⟩
   ·have:=h5 j h6
    exfalso
    grind
theorem Best.congr {f g:Nat→Rat} {n:Nat} {r:Option Nat} {m:Rat} (h:Best f n r m) (e:∀ k,k<n→f k=g k):Best g n r m:=by
 refine⟨fun hr=>⟨(h.no hr).1,fun k hk=>by rw[← e k hk];exact(h.no hr).2 k hk⟩,fun j hj=>?_⟩
 obtain⟨h1,h2,h3,h4,h5⟩:=h.yes j hj
 exact⟨h1,by rw[← e j h1];exact h2,h3,fun k hk=>by rw[← e k hk,← e j h1];exact h4 k hk,fun k hk=>by rw[← e k (by omega),← e j h1];exact h5 k hk⟩
structure LeastQ (q:Nat→Rat) (ok:Nat→Prop) (n:Nat) (r:Option Rat):Prop where
 no:r=none→∀ u,u<n→¬ ok u
 yes:∀ c,r=some c→(∃ u,u<n∧ok u∧c=q u)∧∀ u,u<n→ok u→c≤q u
theorem LeastQ.zero (q:Nat→Rat) (ok:Nat→Prop):LeastQ q ok 0 none:=⟨fun _ u h=>absurd h (Nat.not_lt_zero _),fun c h=>by cases h⟩
theorem LeastQ.skip {q:Nat→Rat} {ok:Nat→Prop} {n:Nat} {r:Option Rat} (h:LeastQ q ok n r) (hn:¬ ok n):LeastQ q ok (n+1) r:=by
 refine⟨fun hr u hu=>?_,fun c hc=>?_⟩
 ·rcases Nat.lt_or_ge u n with h1 | h1
  ·exact h.no hr u h1
  ·obtain rfl:u=n:=by omega
   exact hn
 ·obtain⟨⟨u,h1,h2,h3⟩,h4⟩:=h.yes c hc
  refine⟨⟨u,by omega,h2,h3⟩,fun v hv hv2=>?_⟩
  rcases Nat.lt_or_ge v n with h5 | h5
  ·exact h4 v h5 hv2
  ·obtain rfl:v=n:=by omega
   exact absurd hv2 hn
theorem LeastQ.take {q:Nat→Rat} {ok:Nat→Prop} {n:Nat} {r:Option Rat} (h:LeastQ q ok n r) (hn:ok n) (hl:∀ c,r=some c→q n<c):LeastQ q ok (n+1) (some (q n)):=by
 refine⟨fun h=>(by cases h),fun c hc=>?_⟩
 obtain rfl:=Option.some.inj hc
 refine⟨⟨n,by omega,hn,rfl⟩,fun v hv hv2=>?_⟩
 rcases Nat.lt_or_ge v n with h5 | h5
 ·cases hr:r with
  | none=>exact absurd hv2 (h.no hr v h5)
  | some c=>
   have h1:=(h.yes c hr).2 v h5 hv2
   have h2:=hl c hr
   grind
 ·obtain rfl:v=n:=by omega
  exact Rat.le_refl
theorem LeastQ.keep {q:Nat→Rat} {ok:Nat→Prop} {n:Nat} {c:Rat} (h:LeastQ q ok n (some c)) (hl:c≤q n):LeastQ q ok (n+1) (some c):=by
 refine⟨fun h=>(by cases h),fun d hd=>?_⟩
 obtain rfl:=Option.some.inj hd
 obtain⟨⟨u,h1,h2,h3⟩,h4⟩:=h.yes c rfl
 refine⟨⟨u,by omega,h2,h3⟩,fun v hv hv2=>?_⟩
 rcases Nat.lt_or_ge v n with h5 | h5
 ·exact h4 v h5 hv2
 ·obtain rfl:v=n:=by omega
  exact hl
theorem LeastQ.det {q:Nat→Rat} {ok:Nat→Prop} {n:Nat} {r s:Option Rat} (h:LeastQ q ok n r) (g:LeastQ q ok n s):r=s:=by
 cases r with
 | none=>
  cases s with
  | none=>rfl
  | some c=>
   obtain⟨⟨u,h1,h2,_⟩,_⟩:=g.yes c rfl
   exact absurd h2 (h.no rfl u h1)
 | some c=>
  obtain⟨⟨u,h1,h2,h3⟩,h4⟩:=h.yes c rfl
  cases s with
  | none=>exact absurd h2 (g.no rfl u h1)
  | some d=>
   obtain⟨⟨v,g1,g2,g3⟩,g4⟩:=g.yes d rfl
   have e1:=h4 v g1 g2
   have e2:=g4 u h1 h2
   congr 1
   grind
def pick (P:Nat→Bool) (n:Nat):List Nat:=(List.range n).filter P
theorem Zea {P:Nat→Bool} {n:Nat} (h:P n=true):pick P (n+1)=pick P n++[n]:=by
 unfold pick
 rw[List.range_succ,List.filter_append]
 simp[h]
theorem ZdP {P:Nat→Bool} {n:Nat} (h:P n=false):pick P (n+1)=pick P n:=by
 unfold pick
 rw[List.range_succ,List.filter_append]
 simp[h]
theorem ZlW {P:Nat→Bool} {n j:Nat} : j ∈ pick P n↔j<n∧P j=true:=by simp[pick]
theorem Zft (P:Nat→Bool):∀ {n m:Nat},n≤m→∃ l,pick P m=pick P n++l
 | n,0,h=>by
  obtain rfl:n=0:=by omega
  exact⟨[],by simp⟩
 | n,m+1,h=>by
  rcases Nat.lt_or_ge m n with h1 | h1
  ·obtain rfl:n=m+1:=by omega
   exact⟨[],by simp⟩
  ·obtain⟨l,hl⟩:=Zft P h1
   cases hp:P m
   ·exact⟨l,by rw[ZdP hp,hl]⟩
   ·exact⟨l++[m],by rw[Zea hp,hl,List.append_assoc]⟩
theorem Zde {P:Nat→Bool} {n j:Nat} (hj:j<n) (hp:P j=true):(pick P j).length<(pick P n).length∧(pick P n).getD (pick P j).length 0=j:=by
 obtain⟨l,hl⟩:=Zft P (show j+1≤n from hj)
 rw[hl,Zea hp]
 simp[List.getD]
theorem Zh6 (P:Nat→Bool) (n:Nat):(pick P n).length≤n:=by
 have:=List.length_filter_le P (List.range n)
 simpa[pick] using this
theorem Zdz {P:Nat→Bool} {n k:Nat} (hk:k<(pick P n).length):(pick P n).getD k 0<n∧P ((pick P n).getD k 0)=true:=by
 have h:(pick P n).getD k 0=(pick P n)[k]:=by simp[List.getD,hk]
 rw[h]
 exact ZlW.1 (List.getElem_mem hk)
theorem Zhm {P:Nat→Bool} {n j k:Nat} (hk:k<(pick P n).length) (hjk:j<k):(pick P n).getD j 0<(pick P n).getD k 0:=by
 have hs:(pick P n).Pairwise (· < ·):=List.Pairwise.filter P List.pairwise_lt_range
 have e1:(pick P n).getD j 0=(pick P n)[j]:=by simp[List.getD,Nat.lt_trans hjk hk]
 have e2:(pick P n).getD k 0=(pick P n)[k]:=by simp[List.getD,hk]
 rw[e1,e2]
 exact List.pairwise_iff_getElem.1 hs j k (Nat.lt_trans hjk hk) hk hjk
theorem Best.ofPick {P:Nat→Bool} {g:Nat→Rat} {n:Nat} {r:Option Nat} {m:Rat} (h:Best (fun k=>g ((pick P n).getD k 0)) (pick P n).length r m) :
  Best (fun j=>if P j=true then g j else 0) n (r.map fun k=>(pick P n).getD k 0) m:=by
 have hall:∀ c,0≤c→(∀ k,k<(pick P n).length→g ((pick P n).getD k 0)≤c)→∀ j,j<n→(if P j=true then g j else 0)≤c:=fun c hc h2 j hj=>by
  split
  ·rename_i hp
   obtain⟨h3,h4⟩:=Zde hj hp
   have:=h2 _ h3
   rwa [h4] at this
  ·exact hc
 refine⟨fun hr=>?_,fun j hj=>?_⟩
 ·cases r with
  | none=>
   obtain⟨h1,h2⟩:=h.no rfl
   exact⟨h1,hall 0 Rat.le_refl h2⟩
  | some k=>cases hr
 ·cases r with
  | none=>cases hj
  | some k=>
   obtain rfl:(pick P n).getD k 0=j:=Option.some.inj hj
   obtain⟨h1,h2,h3,h4,h5⟩:=h.yes k rfl
   obtain⟨h6,h7⟩:=Zdz h1
   rw[if_pos h7]
   refine⟨h6,h2,h3,hall _ (by grind) h4,fun j hj=>?_⟩
   split
   ·rename_i hp
    obtain⟨h8,h9⟩:=Zde (Nat.lt_trans hj h6) hp
    have h10:(pick P j).length<k:=by
     rcases Nat.lt_or_ge (pick P j).length k with h | h
     ·exact h
     ·exfalso
      rcases Nat.lt_or_ge k (pick P j).length with h11 | h11
      ·have:=Zhm h8 h11
       omega
      ·have e:k=(pick P j).length:=by omega
       rw[e] at hj
       omega
    have:=h5 _ h10
    rwa [h9] at this
   ·grind
def bump (p:List (List Int)) (u i:Nat) (d:Int):List (List Int):=p.modify u fun l=>l.modify i fun x=>x+d
theorem ZV (p:List (List Int)) (u i:Nat) (d:Int):(bump p u i d).length=p.length:=by simp[bump]
theorem ZfI {p:List (List Int)} {u i:Nat} {d:Int} {v:Nat} (h:v<(bump p u i d).length):(bump p u i d)[v].length=(p[v]'(by simpa[bump] using h)).length:=by
 simp only[bump,List.getElem_modify]
 split<;>simp
theorem ZdG {p:List (List Int)} {u i:Nat} {d:Int} (hu:u<p.length) (hi:i<p[u].length):pN (bump p u i d) u i=pN p u i+d:=by
 simp[pN,bump,List.getD,hu,hi]
theorem Zbe {p:List (List Int)} {u i v j:Nat} {d:Int} (h:v≠u∨j≠i):pN (bump p u i d) v j=pN p v j:=by
 unfold pN bump
 rw[List.getD_eq_getElem?_getD,List.getD_eq_getElem?_getD,List.getElem?_modify]
 by_cases hv:u=v
 ·subst hv
  have hj:¬ i=j:=by rcases h with h | h<;>omega
  rw[List.getD_eq_getElem?_getD,List.getD_eq_getElem?_getD]
  cases hp:p[u]? with
  | none=>simp
  | some l=>simp[List.getElem?_modify,hj]
 ·simp[hv]
def Zaq (t:TaskP) (p:List (List Int)) (u:Nat):Int:=eH t u-ZA p u t.sites.length
noncomputable def Z3 (t:TaskP) (p:List (List Int)) (u i:Nat):Rat:=wR t i*(chF (eS t i).curve (covR t p i+rR t u i)-chF (eS t i).curve (covR t p i))
noncomputable def ZaN (t:TaskP) (p:List (List Int)) (j:Nat):Rat:=if 0<Zaq t p (j/t.sites.length) then Z3 t p (j/t.sites.length) (j % t.sites.length) else 0
inductive GreedyR (t:TaskP):List (List Int)→List (List Int)→Prop
 | done {p:List (List Int)} {m:Rat} (h:Best (ZaN t p) (t.hours.length*t.sites.length) none m):GreedyR t p p
 | step {p q:List (List Int)} {j:Nat} {m:Rat} (h:Best (ZaN t p) (t.hours.length*t.sites.length) (some j) m) (hq:GreedyR t (bump p (j/t.sites.length) (j % t.sites.length) 1) q):GreedyR t p q
theorem GreedyR.det {t:TaskP} {p q r:List (List Int)} (h:GreedyR t p q) (g:GreedyR t p r):q=r:=by
 induction h generalizing r with
 | done h=>
  cases g with
  | done _=>rfl
  | step g _=>cases (h.det g).1
 | step h _ ih=>
  cases g with
  | done g=>cases (h.det g).1
  | step g hq=>
   obtain rfl:=Option.some.inj (h.det g).1
   exact ih hq
def Zu (t:TaskP):List (List Int):=t.hours.map fun _=>List.replicate t.sites.length 0
noncomputable def valF (t:TaskP) (p:List (List Int)) (i:Nat):Rat:=wR t i*chF (eS t i).curve (covR t p i)
end Go.Proofs.YtmpaflidennnoaaGreatDoor
namespace Go.Proofs.YtmpaflidennnoaaGreatDoor
open Go.RowKit
structure SP where
 P:World→Prop
 fp:Nat→Prop
 st:∀ {w w':World},P w→Keeps fp w w'→P w'
structure Env (B:Nat) (w0:World) (bs:List (Nat×Obj)) (ps:List SP) (w:World):Prop where
 base:Below B w0 w
 own:B≤w.heap.size
 cells:∀ (i:Nat) (p:Nat×Obj),bs[i]?=some p→B≤p.1∧w.heap[p.1]?=some p.2
 apart:∀ (i j:Nat) (p q:Nat×Obj),bs[i]?=some p→bs[j]?=some q→p.1=q.1→i=j
 props:∀ (i:Nat) (q:SP),ps[i]?=some q→q.P w∧(∀ b,q.fp b→b<w.heap.size)∧(∀ (j:Nat) (p:Nat×Obj),bs[j]?=some p→¬ q.fp p.1)
section
variable {B:Nat} {w0 w w':World} {bs:List (Nat×Obj)} {ps:List SP}
theorem Env.start (w:World):Env w.heap.size w [] [] w:=⟨Below.refl _ w,Nat.le_refl _,fun i p h=>by simp at h,fun i j p q h=>by simp at h,fun i q h=>by simp at h⟩
theorem Env.after {C:Nat} (h:Env B w0 bs ps w) (hb:Below C w w') (hC:w.heap.size≤C):Env B w0 bs ps w' where
 base:=h.base.trans (hb.mono (Nat.le_trans h.own hC))
 own:=Nat.le_trans h.own hb.size
 cells:=fun i p hp=>by
  obtain⟨h1,h2⟩:=h.cells i p hp
  refine⟨h1,?_⟩
  rw[hb.block _ (Nat.lt_of_lt_of_le (Array.getElem?_eq_some_iff.1 h2).1 hC)]
  exact h2
 apart:=h.apart
 props:=fun i q hq=>by
  obtain⟨h1,h2,h3⟩:=h.props i q hq
  exact⟨q.st h1 ⟨hb.os,hb.tape,hb.output,hb.size,fun k hk _=>hb.block k (by omega)⟩,fun b hb2=>Nat.lt_of_lt_of_le (h2 b hb2) hb.size,h3⟩
theorem Env.step (h:Env B w0 bs ps w) (hb:Below w.heap.size w w'):Env B w0 bs ps w':=h.after hb (Nat.le_refl _)
theorem Env.drew (h:Env B w0 bs ps w):Env B w0 bs ps w.drew:=h.step (Below.refl _ w).drew
theorem Env.push (h:Env B w0 bs ps w) (o:Obj) {g:Nat} (hg:g=w.heap.size):Env B w0 ((g,o)::bs) ps (w.alloc o):=by
 subst hg
 have hb:Below w.heap.size w (w.alloc o):=(Below.refl _ w).alloc (Nat.le_refl _) o
 have h':=h.step hb
 have hlt:∀ (j:Nat) (p:Nat×Obj),bs[j]?=some p→p.1<w.heap.size:=fun j p hp=>(Array.getElem?_eq_some_iff.1 (h.cells j p hp).2).1
 refine⟨h'.base,h'.own,fun i p hp=>?_,fun i j p q hp hq e=>?_,fun i q hq=>?_⟩
 ·cases i with
  | zero=>
   obtain rfl:=Option.some.inj hp
   exact⟨h.own,World.alloc_heap_new w o⟩
  | succ i=>exact h'.cells i p (by simpa using hp)
 ·cases i with
  | zero=>
   cases j with
   | zero=>rfl
   | succ j=>
    obtain rfl:=Option.some.inj hp
    have:=hlt j q (by simpa using hq)
    simp only at e
    omega
  | succ i=>
   cases j with
   | zero=>
    obtain rfl:=Option.some.inj hq
    have:=hlt i p (by simpa using hp)
    simp only at e
    omega
   | succ j=>rw[h.apart i j p q (by simpa using hp) (by simpa using hq) e]
 ·obtain⟨h1,h2,h3⟩:=h'.props i q hq
  refine⟨h1,h2,fun j p hp hc=>?_⟩
  cases j with
  | zero=>
   obtain rfl:=Option.some.inj hp
   have:=(h.props i q hq).2.1 _ hc
   simp only at this
   omega
  | succ j=>exact h3 j p (by simpa using hp) hc
theorem Env.block (h:Env B w0 bs ps w) (i:Nat) {g:Nat} {o:Obj} (hi:bs[i]?=some (g,o)):w.heap[g]?=some o:=(h.cells i _ hi).2
theorem Env.lt (h:Env B w0 bs ps w) (i:Nat) {g:Nat} {o:Obj} (hi:bs[i]?=some (g,o)):g<w.heap.size:=(Array.getElem?_eq_some_iff.1 (h.block i hi)).1
theorem Env.le (h:Env B w0 bs ps w) (i:Nat) {g:Nat} {o:Obj} (hi:bs[i]?=some (g,o)):B≤g:=(h.cells i _ hi).1
theorem Env.cell (h:Env B w0 bs ps w) (i j:Nat) {g:Nat} {cs:Array Value} {T:TypeId} {v:Value} (hi:bs[i]?=some (g,.cells cs T (0,0))) (hv:cs[j]?=some v):w.cell? ⟨g,j,none⟩=some v:=Za (h.block i hi) j hv
theorem Env.free (h:Env B w0 bs ps w) (i j:Nat) {g:Nat} {cs:Array Value} {T:TypeId} (hi:bs[i]?=some (g,.cells cs T (0,0))):w.frozen? ⟨g,j,none⟩=false:=Zb (h.block i hi) j
theorem Env.put (h:Env B w0 bs ps w) (i:Nat) {g:Nat} {o:Obj} (o':Obj) (hi:bs[i]?=some (g,o)) (hw:w'.heap[g]?=some o') (hk:Keeps (fun b=>b≠g) w w'):Env B w0 (bs.set i (g,o')) ps w':=by
 have hil:i<bs.length:=(List.getElem?_eq_some_iff.1 hi).1
 have hget:∀ (j:Nat) (p:Nat×Obj),(bs.set i (g,o'))[j]?=some p→(j=i∧p=(g,o'))∨(j≠i∧bs[j]?=some p):=fun j p hp=>by
  by_cases e:j=i
  ·subst e
   rw[List.getElem?_set_self hil] at hp
   exact .inl ⟨rfl,(Option.some.inj hp).symm⟩
  ·rw[List.getElem?_set_ne (Ne.symm e)] at hp
   exact .inr ⟨e,hp⟩
 have hB:B≤g:=h.le i hi
 refine⟨h.base.trans ⟨hk.os,hk.tape,hk.output,hk.size,fun k hlt=>hk.block k (by have:=h.own;omega) (by omega)⟩,Nat.le_trans h.own hk.size,fun j p hp=>?_,fun j k p q hp hq e=>?_,fun j q hq=>?_⟩
 ·rcases hget j p hp with ⟨rfl,rfl⟩ | ⟨hne,hp⟩
  ·exact⟨hB,hw⟩
  ·obtain⟨h1,h2⟩:=h.cells j p hp
   refine⟨h1,?_⟩
   rw[hk.block _ (Array.getElem?_eq_some_iff.1 h2).1 (fun e=>hne (h.apart j i p _ hp hi e))]
   exact h2
 ·rcases hget j p hp with ⟨e1,e2⟩ | ⟨hne,hp'⟩
  ·rcases hget k q hq with ⟨e3,e4⟩ | ⟨hne2,hq'⟩
   ·rw[e1,e3]
   ·rw[e2] at e
    rw[e1]
    exact h.apart i k _ q hi hq' e
  ·rcases hget k q hq with ⟨e3,e4⟩ | ⟨hne2,hq'⟩
   ·rw[e4] at e
    rw[e3]
    exact h.apart j i p _ hp' hi e
   ·exact h.apart j k p q hp' hq' e
 ·obtain⟨h1,h2,h3⟩:=h.props j q hq
  have hng:¬ q.fp g:=h3 i _ hi
  refine⟨q.st h1 (hk.mono fun b _ hb e=>hng (e ▸ hb)),fun b hb=>Nat.lt_of_lt_of_le (h2 b hb) hk.size,fun k p hp hc=>?_⟩
  rcases hget k p hp with ⟨rfl,rfl⟩ | ⟨_,hp⟩
  ·exact hng hc
  ·exact h3 k p hp hc
theorem Env.store (h:Env B w0 bs ps w) (i j:Nat) {g:Nat} {cs:Array Value} {T:TypeId} (v:Value) (hi:bs[i]?=some (g,.cells cs T (0,0))):Env B w0 (bs.set i (g,.cells (cs.set! j v) T (0,0))) ps (w.setCell ⟨g,j,none⟩ v):=
 h.put i (.cells (cs.set! j v) T (0,0)) hi (Joins.block_setCell (h.block i hi) v) ((Keeps.refl _ w).setCell (by simp) v)
theorem Env.tail {p:Nat×Obj} (h:Env B w0 (p::bs) ps w):Env B w0 bs ps w:=
 ⟨h.base,h.own,fun i q hq=>h.cells (i+1) q (by simpa using hq),fun i j p q hp hq e=>by have:=h.apart (i+1) (j+1) p q (by simpa using hp) (by simpa using hq) e;omega,
  fun i q hq=>⟨(h.props i q hq).1,(h.props i q hq).2.1,fun j p hp=>(h.props i q hq).2.2 (j+1) p (by simpa using hp)⟩⟩
theorem Env.fill {g:Nat} {a b:Value} {T:TypeId} (h:Env B w0 ((g,.cells #[a,b] T (0,0))::bs) ps w) (x y:Value):Env B w0 ((g,.cells #[x,y] T (0,0))::bs) ps ((w.setCell ⟨g,0,none⟩ x).setCell ⟨g,1,none⟩ y):=
 h.put 0 (.cells #[x,y] T (0,0)) rfl (ZM (h.block 0 rfl) x y) (((Keeps.refl _ w).setCell (by simp) x).setCell (by simp) y)
theorem Env.laid (h:Env B w0 bs ps w) (hb:Below w.heap.size w w') {g:Nat} {o:Obj} (hg:w'.heap[g]?=some o) (hle:w.heap.size≤g):Env B w0 ((g,o)::bs) ps w':=by
 have h':=h.step hb
 have hlt:∀ (j:Nat) (p:Nat×Obj),bs[j]?=some p→p.1<w.heap.size:=fun j p hp=>(Array.getElem?_eq_some_iff.1 (h.cells j p hp).2).1
 refine⟨h'.base,h'.own,fun i p hp=>?_,fun i j p q hp hq e=>?_,fun i q hq=>?_⟩
 ·cases i with
  | zero=>
   obtain rfl:=Option.some.inj hp
   exact⟨Nat.le_trans h.own hle,hg⟩
  | succ i=>exact h'.cells i p (by simpa using hp)
 ·cases i with
  | zero=>
   cases j with
   | zero=>rfl
   | succ j=>
    obtain rfl:=Option.some.inj hp
    have:=hlt j q (by simpa using hq)
    simp only at e
    omega
  | succ i=>
   cases j with
   | zero=>
    obtain rfl:=Option.some.inj hq
    have:=hlt i p (by simpa using hp)
    simp only at e
    omega
   | succ j=>rw[h.apart i j p q (by simpa using hp) (by simpa using hq) e]
 ·obtain⟨h1,h2,h3⟩:=h'.props i q hq
  refine⟨h1,h2,fun j p hp hc=>?_⟩
  cases j with
  | zero=>
   obtain rfl:=Option.some.inj hp
   have:=(h.props i q hq).2.1 _ hc
   simp only at this
   omega
  | succ j=>exact h3 j p (by simpa using hp) hc
theorem Env.only (h:Env B w0 bs ps w) (is:List Nat) (bs':List (Nat×Obj)) (hb:bs'=is.filterMap (fun i=>bs[i]?)) (hn:is.Nodup):Env B w0 bs' ps w:=by
 subst hb
 have hget:∀ (k:Nat) (p:Nat×Obj),(is.filterMap (fun i=>bs[i]?))[k]?=some p→∃ i ∈ is,bs[i]?=some p:=fun k p hp=>by
  have:=List.mem_of_getElem? hp
  rw[List.mem_filterMap] at this
  exact this
 refine⟨h.base,h.own,fun i p hp=>?_,?_,fun i q hq=>?_⟩
 ·obtain⟨j,_,hj⟩:=hget i p hp
  exact h.cells j p hj
 ·have hp:(is.filterMap (fun i=>bs[i]?)).Pairwise (fun a b=>a.1≠b.1):=by
   rw[List.pairwise_filterMap]
   refine List.Pairwise.imp ?_ hn
   intro a b hab p hp q hq e
   exact hab (h.apart a b p q hp hq e)
  intro i j p q h1 h2 e
  rcases Nat.lt_trichotomy i j with hlt | rfl | hlt
  ·obtain⟨l1,e1⟩:=List.getElem?_eq_some_iff.1 h1
   obtain⟨l2,e2⟩:=List.getElem?_eq_some_iff.1 h2
   have:=(List.pairwise_iff_getElem.1 hp) i j l1 l2 hlt
   rw[e1,e2] at this
   exact absurd e this
  ·rfl
  ·obtain⟨l1,e1⟩:=List.getElem?_eq_some_iff.1 h1
   obtain⟨l2,e2⟩:=List.getElem?_eq_some_iff.1 h2
   have:=(List.pairwise_iff_getElem.1 hp) j i l2 l1 hlt
   rw[e1,e2] at this
   exact absurd e.symm this
 ·obtain⟨h1,h2,h3⟩:=h.props i q hq
  refine⟨h1,h2,fun j p hp=>?_⟩
  obtain⟨k,_,hk⟩:=hget j p hp
  exact h3 k p hk
end
def Stay (S:Nat→Prop) (Q:World→Prop) (w:World):Prop:=∀ w',Keeps S w w'→Q w'
section
variable {S S':Nat→Prop} {Q Q':World→Prop} {w w':World}
theorem Stay.now (h:Stay S Q w):Q w:=h w (Keeps.refl _ _)
theorem Stay.keep (h:Stay S Q w) (hk:Keeps S w w'):Stay S Q w':=fun w2 h2=>h w2 (hk.trans h2)
theorem Stay.wide (h:Stay S Q w) (hS:∀ b,S b→S' b):Stay S' Q w:=fun w2 h2=>h w2 (h2.mono fun b _ hb=>hS b hb)
theorem Stay.imp (h:Stay S Q w) (hq:∀ v,Q v→Q' v):Stay S Q' w:=fun w2 h2=>hq _ (h w2 h2)
theorem Stay.and (h:Stay S Q w) (h':Stay S Q' w):Stay S (fun v=>Q v∧Q' v) w:=fun w2 h2=>⟨h w2 h2,h' w2 h2⟩
theorem Keeps.toBelow {B:Nat} (h:Keeps (fun b=>b<B) w w') (hB:B≤w.heap.size):Below B w w':=⟨h.os,h.tape,h.output,h.size,fun k hk=>h.block k (by omega) hk⟩
theorem _root_.Go.RowKit.Below.keepsS (h:Below w.heap.size w w') (S:Nat→Prop):Keeps S w w':=⟨h.os,h.tape,h.output,h.size,fun k hk _=>h.block k hk⟩
theorem Stay.of {B:Nat} (hB:B≤w.heap.size) (h:∀ w',Below B w w'→Q w'):Stay (fun b=>b<B) Q w:=fun w2 h2=>h w2 (h2.toBelow hB)
end
structure EnvS (S:Nat→Prop) (w0:World) (bs:List (Nat×Obj)) (w:World):Prop where
 base:Keeps S w0 w
 up:∀ b,w0.heap.size≤b→S b
 cells:∀ (i:Nat) (p:Nat×Obj),bs[i]?=some p→w0.heap.size≤p.1∧w.heap[p.1]?=some p.2
 apart:∀ (i j:Nat) (p q:Nat×Obj),bs[i]?=some p→bs[j]?=some q→p.1=q.1→i=j
section
variable {S:Nat→Prop} {w0 w w':World} {bs:List (Nat×Obj)}
theorem EnvS.start (w:World) (hu:∀ b,w.heap.size≤b→S b):EnvS S w [] w:=⟨Keeps.refl _ w,hu,fun i p h=>by simp at h,fun i j p q h=>by simp at h⟩
theorem EnvS.own (h:EnvS S w0 bs w):w0.heap.size≤w.heap.size:=h.base.size
theorem EnvS.keep (h:EnvS S w0 bs w) (hk:Keeps S w w'):EnvS S w0 bs w' where
 base:=h.base.trans hk
 up:=h.up
 cells:=fun i p hp=>by
  obtain⟨h1,h2⟩:=h.cells i p hp
  exact⟨h1,(hk.block _ (Array.getElem?_eq_some_iff.1 h2).1 (h.up _ h1)).trans h2⟩
 apart:=h.apart
theorem EnvS.step (h:EnvS S w0 bs w) (hb:Below w.heap.size w w'):EnvS S w0 bs w':=h.keep (hb.keepsS S)
theorem EnvS.drew (h:EnvS S w0 bs w):EnvS S w0 bs w.drew:=h.step (Below.refl _ w).drew
theorem EnvS.push (h:EnvS S w0 bs w) (o:Obj) {g:Nat} (hg:g=w.heap.size):EnvS S w0 ((g,o)::bs) (w.alloc o):=by
 subst hg
 have h':=h.step ((Below.refl _ w).alloc (Nat.le_refl _) o)
 have hlt:∀ (j:Nat) (p:Nat×Obj),bs[j]?=some p→p.1<w.heap.size:=fun j p hp=>(Array.getElem?_eq_some_iff.1 (h.cells j p hp).2).1
 refine⟨h'.base,h.up,fun i p hp=>?_,fun i j p q hp hq e=>?_⟩
 ·cases i with
  | zero=>
   obtain rfl:=Option.some.inj hp
   exact⟨h.own,World.alloc_heap_new w o⟩
  | succ i=>exact h'.cells i p (by simpa using hp)
 ·cases i with
  | zero=>
   cases j with
   | zero=>rfl
   | succ j=>
    obtain rfl:=Option.some.inj hp
    have:=hlt j q (by simpa using hq)
    simp only at e
    omega
  | succ i=>
   cases j with
   | zero=>
    obtain rfl:=Option.some.inj hq
    have:=hlt i p (by simpa using hp)
    simp only at e
    omega
   | succ j=>rw[h.apart i j p q (by simpa using hp) (by simpa using hq) e]
theorem EnvS.block (h:EnvS S w0 bs w) (i:Nat) {g:Nat} {o:Obj} (hi:bs[i]?=some (g,o)):w.heap[g]?=some o:=(h.cells i _ hi).2
theorem EnvS.lt (h:EnvS S w0 bs w) (i:Nat) {g:Nat} {o:Obj} (hi:bs[i]?=some (g,o)):g<w.heap.size:=(Array.getElem?_eq_some_iff.1 (h.block i hi)).1
theorem EnvS.le (h:EnvS S w0 bs w) (i:Nat) {g:Nat} {o:Obj} (hi:bs[i]?=some (g,o)):w0.heap.size≤g:=(h.cells i _ hi).1
theorem EnvS.cell (h:EnvS S w0 bs w) (i j:Nat) {g:Nat} {cs:Array Value} {T:TypeId} {v:Value} (hi:bs[i]?=some (g,.cells cs T (0,0))) (hv:cs[j]?=some v):w.cell? ⟨g,j,none⟩=some v:=Za (h.block i hi) j hv
theorem EnvS.free (h:EnvS S w0 bs w) (i j:Nat) {g:Nat} {cs:Array Value} {T:TypeId} (hi:bs[i]?=some (g,.cells cs T (0,0))):w.frozen? ⟨g,j,none⟩=false:=Zb (h.block i hi) j
theorem EnvS.put (h:EnvS S w0 bs w) (i:Nat) {g:Nat} {o:Obj} (o':Obj) (hi:bs[i]?=some (g,o)) (hw:w'.heap[g]?=some o') (hk:Keeps (fun b=>b≠g) w w'):EnvS S w0 (bs.set i (g,o')) w':=by
 have hil:i<bs.length:=(List.getElem?_eq_some_iff.1 hi).1
 have hget:∀ (j:Nat) (p:Nat×Obj),(bs.set i (g,o'))[j]?=some p→(j=i∧p=(g,o'))∨(j≠i∧bs[j]?=some p):=fun j p hp=>by
  by_cases e:j=i
  ·subst e
   rw[List.getElem?_set_self hil] at hp
   exact .inl ⟨rfl,(Option.some.inj hp).symm⟩
  ·rw[List.getElem?_set_ne (Ne.symm e)] at hp
   exact .inr ⟨e,hp⟩
 have hB:w0.heap.size≤g:=h.le i hi
 refine⟨⟨hk.os.trans h.base.os,hk.tape.trans h.base.tape,hk.output.trans h.base.output,Nat.le_trans h.own hk.size,fun k hlt hs=>(hk.block k (by have:=h.own;omega) (by omega)).trans (h.base.block k hlt hs)⟩,h.up,fun j p hp=>?_,fun j k p q hp hq e=>?_⟩
 ·rcases hget j p hp with ⟨rfl,rfl⟩ | ⟨hne,hp⟩
  ·exact⟨hB,hw⟩
  ·obtain⟨h1,h2⟩:=h.cells j p hp
   refine⟨h1,?_⟩
   rw[hk.block _ (Array.getElem?_eq_some_iff.1 h2).1 (fun e=>hne (h.apart j i p _ hp hi e))]
   exact h2
 ·rcases hget j p hp with ⟨e1,e2⟩ | ⟨hne,hp'⟩
  ·rcases hget k q hq with ⟨e3,e4⟩ | ⟨hne2,hq'⟩
   ·rw[e1,e3]
   ·rw[e2] at e
    rw[e1]
    exact h.apart i k _ q hi hq' e
  ·rcases hget k q hq with ⟨e3,e4⟩ | ⟨hne2,hq'⟩
   ·rw[e4] at e
    rw[e3]
    exact h.apart j i p _ hp' hi e
   ·exact h.apart j k p q hp' hq' e
theorem EnvS.store (h:EnvS S w0 bs w) (i j:Nat) {g:Nat} {cs:Array Value} {T:TypeId} (v:Value) (hi:bs[i]?=some (g,.cells cs T (0,0))):EnvS S w0 (bs.set i (g,.cells (cs.set! j v) T (0,0))) (w.setCell ⟨g,j,none⟩ v):=
 h.put i (.cells (cs.set! j v) T (0,0)) hi (Joins.block_setCell (h.block i hi) v) ((Keeps.refl _ w).setCell (by simp) v)
theorem EnvS.fill {g:Nat} {a b:Value} {T:TypeId} (h:EnvS S w0 ((g,.cells #[a,b] T (0,0))::bs) w) (x y:Value):EnvS S w0 ((g,.cells #[x,y] T (0,0))::bs) ((w.setCell ⟨g,0,none⟩ x).setCell ⟨g,1,none⟩ y):=
 h.put 0 (.cells #[x,y] T (0,0)) rfl (ZM (h.block 0 rfl) x y) (((Keeps.refl _ w).setCell (by simp) x).setCell (by simp) y)
theorem EnvS.laid (h:EnvS S w0 bs w) (hb:Keeps S w w') {g:Nat} {o:Obj} (hg:w'.heap[g]?=some o) (hle:w.heap.size≤g):EnvS S w0 ((g,o)::bs) w':=by
 have h':=h.keep hb
 have hlt:∀ (j:Nat) (p:Nat×Obj),bs[j]?=some p→p.1<w.heap.size:=fun j p hp=>(Array.getElem?_eq_some_iff.1 (h.cells j p hp).2).1
 refine⟨h'.base,h.up,fun i p hp=>?_,fun i j p q hp hq e=>?_⟩
 ·cases i with
  | zero=>
   obtain rfl:=Option.some.inj hp
   exact⟨Nat.le_trans h.own hle,hg⟩
  | succ i=>exact h'.cells i p (by simpa using hp)
 ·cases i with
  | zero=>
   cases j with
   | zero=>rfl
   | succ j=>
    obtain rfl:=Option.some.inj hp
    have:=hlt j q (by simpa using hq)
    simp only at e
    omega
  | succ i=>
   cases j with
   | zero=>
    obtain rfl:=Option.some.inj hq
    have:=hlt i p (by simpa using hp)
    simp only at e
    omega
   | succ j=>rw[h.apart i j p q (by simpa using hp) (by simpa using hq) e]
theorem EnvS.only (h:EnvS S w0 bs w) (is:List Nat) (bs':List (Nat×Obj)) (hb:bs'=is.filterMap (fun i=>bs[i]?)) (hn:is.Nodup):EnvS S w0 bs' w:=by
 subst hb
 have hget:∀ (k:Nat) (p:Nat×Obj),(is.filterMap (fun i=>bs[i]?))[k]?=some p→∃ i ∈ is,bs[i]?=some p:=fun k p hp=>by
  have:=List.mem_of_getElem? hp
  rw[List.mem_filterMap] at this
  exact this
 refine⟨h.base,h.up,fun i p hp=>?_,?_⟩
 ·obtain⟨j,_,hj⟩:=hget i p hp
  exact h.cells j p hj
 ·have hp:(is.filterMap (fun i=>bs[i]?)).Pairwise (fun a b=>a.1≠b.1):=by
   rw[List.pairwise_filterMap]
   refine List.Pairwise.imp ?_ hn
   intro a b hab p hp q hq e
   exact hab (h.apart a b p q hp hq e)
  intro i j p q h1 h2 e
  rcases Nat.lt_trichotomy i j with hlt | rfl | hlt
  ·obtain⟨l1,e1⟩:=List.getElem?_eq_some_iff.1 h1
   obtain⟨l2,e2⟩:=List.getElem?_eq_some_iff.1 h2
   have:=(List.pairwise_iff_getElem.1 hp) i j l1 l2 hlt
   rw[e1,e2] at this
   exact absurd e this
  ·rfl
  ·obtain⟨l1,e1⟩:=List.getElem?_eq_some_iff.1 h1
   obtain⟨l2,e2⟩:=List.getElem?_eq_some_iff.1 h2
   have:=(List.pairwise_iff_getElem.1 hp) j i l2 l1 hlt
   rw[e1,e2] at this
   exact absurd e.symm this
end
end Go.Proofs.YtmpaflidennnoaaGreatDoor
