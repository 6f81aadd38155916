/- The parts EGainX, EImproveX, EGreatN, EffPri of a proof, put together by program (merge7.py). -/
import Derived.Test.YtmpaflidennnoaaGreatDoorH01
import Derived.Test.YtmpaflidennnoaaGreatDoorH30
import Derived.Test.YtmpaflidennnoaaGreatDoorK002
import Derived.Test.YtmpaflidennnoaaGreatDoorH27
import Derived.Test.YtmpaflidennnoaaGreatDoorH24
import Derived.Test.YtmpaflidennnoaaGreatDoorK001
import Derived.Test.YtmpaflidennnoaaGreatDoorH21
set_option maxRecDepth 100000
set_option maxHeartbeats 8000000
set_option linter.unusedVariables false
set_option linter.unusedSimpArgs false
namespace Go.Proofs.YtmpaflidennnoaaGreatDoor
open Go.RowKit Go.Shelf
attribute [local go_sem ↓] Go.wp_at_zero Go.wp_at_succ
abbrev inO (n:Int):Obj:=.cells #[.int .i64 n] 3
theorem Zcp.mono {a c:Nat} {Q:World→Prop} {w:World} (h:Zcp a Q w) (hc:a≤c):Zcp c Q w:=by
 obtain⟨w1,h1,h2,h3⟩:=h
 exact⟨w1,h1,h2,by omega⟩
end Go.Proofs.YtmpaflidennnoaaGreatDoor
namespace Go.Proofs.YtmpaflidennnoaaGreatDoor
open Go.RowKit Go.Shelf
attribute [local go_sem ↓] Go.wp_at_zero Go.wp_at_succ
attribute [local go_sem] Oper.semAt_some
abbrev niO (a:Int):Obj:=.cells #[.int .i64 a] 3
def numE (e:Nat→Int):Option Nat→Value
 | none=>.int .i64 0
 | some k=>.int .i64 (e k)
def numO (e:Nat→Int):Option Nat→Obj
 | none=>niO 0
 | some k=>niO (e k)
def BoxI (e:Nat→Int) (B:Nat) (a1:Nat→Nat→Act) (k:Nat) (a':Act) (W:World):Prop:=
 ∃ A,B≤A∧a'=a1 k A∧W=W
theorem Zhp {e:Nat→Int} {g:Nat→Rat} {N:Nat} {Sx:Nat→Prop} {J:Nat→World→Prop} {gf of:Nat} {lb caps:Array Value} {w:World}
  (hgf:∀ args w,(callFunc gf args).run Tryz.prog w=.ok (.enter gf args) w) (hof:∀ args w,(callFunc of args).run Tryz.prog w=.ok (.enter of args) w)
  (hup:∀ b,w.heap.size≤b→Sx b) (hJ:∀ k W1 W2,J k W1→Keeps (fun b=>b<w.heap.size) W1 W2→J k W2) (h0:J 0 w) (hz:∀ V,Keeps Sx w V→EffZ V)
  (hit:∀ V,Keeps Sx w V→Iter Tryz.prog gf lb (fun k=>#[.int .i64 (e k)]) N (fun b=>b<w.heap.size∧Sx b) (fun _=>True) V)
  (hc:∀ k,k<N→∀ V,Keeps Sx w V→J k V→Calls Tryz.prog of (#[.int .i64 (e k)]++caps) V (fun e' V'=>∃ x y,e'=.returned (pV x y)∧IsP (g k) x y∧Keeps Sx V V'∧J (k+1) V')) :
  Calls Tryz.prog 135 #[.func (.func gf) #[] lb,.func (.func of) #[] caps] w (Zdf Sx (numE e) g N J w):=by
 have HUP:=Lib.hid hup
 have HJ:=Lib.hid hJ
 have HIT:=Lib.hid hit
 have HC:=Lib.hid hc
 have HZ:=Lib.hid hz
 have HJ0:=Lib.hid h0
 have HGF:=Lib.hid hgf
 clear hup hJ hit hc hz h0 hgf
 obtain⟨w4,hw4⟩:∃ z,(((w.alloc (.cells #[.func (.func of) #[] caps] 116)).alloc (niO 0)).alloc (pObj ⟨#[]⟩ ⟨#[]⟩)).alloc (flO false)=z:=⟨_,rfl⟩
 obtain⟨P,hP⟩:∃ P,w.heap.size=P:=⟨_,rfl⟩
 have HX:Zh P [.cells #[.func (.func of) #[] caps] 116,niO 0,pObj ⟨#[]⟩ ⟨#[]⟩,flO false] w4:=by rw[← hw4,← hP];exact Zh.four w _ _ _ _
 have hk4:Keeps Sx w w4:=by rw[← hw4];exact((((Keeps.refl Sx w).alloc _).alloc _).alloc _).alloc _
 have HK5:Hid (∀ V:World,Keeps (fun b=>b<w.heap.size) w V→J 0 V):=fun V hV=>HJ.out _ _ _ HJ0.out hV
 have hs4:w4.heap.size=P+4:=by rw[← hw4,← hP];simp
 have z:=HZ.out _ hk4
 have z0:=z.z0
 have z1:=z.z1
 have c0:=HX.cell 2 0 (b:=P+1+1) (v:=.string ⟨#[]⟩) rfl rfl rfl
 have c1:=HX.cell 2 1 (b:=P+1+1) (v:=.string ⟨#[]⟩) rfl rfl rfl
 have f0:=HX.free 2 0 (b:=P+1+1) rfl rfl
 have f1:=HX.free 2 1 (b:=P+1+1) rfl rfl
 have HPP:=Lib.hid hP
 clear z
 refine ZbJ Tryz.func135 rfl ?_
 simp only[Tryz.ntmps135,List.size_toArray,List.length_cons,List.length_nil,Nat.reduceAdd,Nat.reduceSub,Array.replicate_succ,Array.replicate_zero,List.push_toArray,List.append_toArray,List.nil_append,List.cons_append]
 go_wp2_with fail
 obtain⟨w5,hw5⟩:∃ z,(w4.setCell ⟨P+1+1,0,none⟩ (.string ⟨#[48]⟩)).setCell ⟨P+1+1,1,none⟩ (.string ⟨#[49]⟩)=z:=⟨_,rfl⟩
 have o5:∀ k,k≠P+1+1→w5.heap[k]?=w4.heap[k]?:=fun k hk=>by rw[← hw5];exact(Below.heap_setCell _ _ _ _ hk).trans (Below.heap_setCell _ _ _ _ hk)
 have hk5:Keeps Sx w w5:=by
  refine hk4.via (S':=fun b=>b≠P+1+1) ?_ fun b hb _=>by show b≠P+1+1;omega
  rw[← hw5]
  exact((Keeps.refl _ w4).setCell (by simp) _).setCell (by simp) _
 have HG5:Hid (GreatI Sx w P (.cells #[.func (.func of) #[] caps] 116) (niO 0) ⟨#[48]⟩ ⟨#[49]⟩ false w5):=
  ⟨hk5,(o5 P (by omega)).trans (HX.block 0 rfl rfl),(o5 _ (by omega)).trans (HX.block 1 rfl rfl),by rw[← hw5];exact ZQ (HX.block 2 (b:=P+1+1) rfl rfl) _ _,(o5 _ (by omega)).trans (HX.block 3 (b:=P+1+1+1) rfl rfl)⟩
 have hkB:Keeps (fun b=>b<w.heap.size) w w5:=by
  rw[← hw5,← hw4]
  exact((((((Keeps.refl _ w).alloc _).alloc _).alloc _).alloc _).setCell (by show ¬ P+1+1<w.heap.size;omega) _).setCell (by show ¬ P+1+1<w.heap.size;omega) _
 have hD:w5.heap.size=P+4:=by rw[← hw5];simp[hs4]
 rw[hw5]
 clear hw5 o5 z0 z1 c0 c1 f0 f1 HX hk4 hs4 hw4
 refine(wpIn_wide (n:=9)).1 ?_
 refine Zcx (P+4) hD (gf:=gf) (lb:=lb) (f:=fun k=>#[.int .i64 (e k)]) (N:=N) (S:=fun x=>x<P∧Sx x) (T:=fun _=>True)
  rfl HGF.out (fun _=>rfl) ?iter (fun _ h=>by omega) ⟨trivial,trivial⟩
  (Zif Sx w P (.cells #[.func (.func of) #[] caps] 116) (numO e) g J) (fun _ _ _=>False) ?ci ?cx ?start
  (BoxI e (P+6) ?a1) ?cb ?assign ?body ?done ?stop
 case iter=>
  have:=HIT.out _ hk5
  rwa [hP] at this
 case ci=>
  rintro k W1 W2 ⟨r,m,x,y,h1,h2,h3,h4⟩ hk
  exact⟨r,m,x,y,h1,h2,h3.keep hP.symm hk (fun b hb _=>⟨trivial,by omega,by omega⟩) ⟨⟨trivial,by omega,by omega⟩,⟨trivial,by omega,by omega⟩,⟨trivial,by omega,by omega⟩,⟨trivial,by omega,by omega⟩⟩,
   HJ.out _ _ _ h4 (hk.mono fun b _ hb=>⟨trivial,by omega,by omega⟩)⟩
 case cx=>exact fun _ _ _ _ h _=>h
 case start=>
  exact⟨none,0,_,_,Best.zero g,Z4,HG5.out,HK5.out _ hkB⟩
 case cb=>
  rintro k a' W1 W2 ⟨A,h1,h2,h3⟩ hk
  exact⟨A,h1,h2,rfl⟩
 case assign=>
  intro l k W hk hW
  gi_wp2
  obtain⟨A,hA⟩:∃ A,P+6=A:=⟨_,rfl⟩
  refine⟨Keeps.refl _ W,A,by omega,?_,rfl⟩
  clear hW hA
  exact rfl
 case body=>
  have hfn:∀ k,Fence.wide.fn k:=fun _=>trivial
  rintro l k a' W hk ⟨r,m,x,y,hB,hI,hG,hJk⟩ ⟨A,hA,rfl,_⟩ hW
  have hcall:=HC.out k hk W hG.base hJk
  obtain⟨s,hst⟩:∃ z,e k=z:=⟨_,rfl⟩
  have HST:=Lib.hid hst
  rw[hst] at hcall
  dsimp only
  rw[hst]
  have HB:=Lib.hid hB
  have HI:=Lib.hid hI
  have HG:=Lib.hid hG
  have HCL:=Lib.hid hcall
  have p0:W.cell? ⟨P,0,none⟩=some (.func (.func of) #[] caps):=Za hG.b0 0 rfl
  clear hB hI hG hJk hcall hst
  gi_wp2_with fail
  refine(CallsIn.inRound l (callsIn_wide.2 HCL.out)).mono ?_
  rintro e' V ⟨x2,y2,rfl,hx2,hkV,hJV⟩
  have HX2:=Lib.hid hx2
  have HJV:=Lib.hid hJV
  have HKV:=Lib.hid hkV
  have HGV:=Lib.hid (HG.out.keep hP.symm hkV (fun b _ hs=>hs) ⟨HUP.out _ (by omega),HUP.out _ (by omega),HUP.out _ (by omega),HUP.out _ (by omega)⟩)
  clear hx2 hJV hkV p0
  have c0:(V.alloc (pObj x2 y2)).cell? ⟨V.heap.size,0,none⟩=some (.string x2):=ZB _ _ _ 0 rfl
  have c1:(V.alloc (pObj x2 y2)).cell? ⟨V.heap.size,1,none⟩=some (.string y2):=ZB _ _ _ 1 rfl
  have HG1:Hid (GreatI Sx w P (.cells #[.func (.func of) #[] caps] 116) (numO e r) x y r.isSome (V.alloc (pObj x2 y2))):=HGV.out.keep (S:=fun _=>True) hP.symm ((Keeps.refl _ V).alloc _) (fun _ _ _=>trivial) ⟨trivial,trivial,trivial,trivial⟩
  have d0:=Za HG1.out.b2 0 (v:=.string x) rfl
  have d1:=Za HG1.out.b2 1 (v:=.string y) rfl
  obtain⟨n,hn⟩:∃ n,sgnR (g k) m=n:=⟨_,rfl⟩
  gi_wp2_with fail
  refine(CallsIn.inRound l (callsIn_wide.2 (ZaI HX2.out HI.out hn _))).mono ?_
  rintro e' V2 ⟨rfl,hb⟩
  obtain⟨g8,hg8⟩:∃ g,V.heap.size=g:=⟨_,rfl⟩
  have h8:V2.heap[g8]?=some (pObj x2 y2):=by
   rw[← hg8]
   exact(hb.block _ (by simp)).trans (World.alloc_heap_new V _)
  have hkA:Keeps Sx V (V.alloc (pObj x2 y2)):=(Keeps.refl _ V).alloc _
  have hkJ:Keeps (fun b=>b<w.heap.size) V V2:=((Keeps.refl _ V).alloc _).trans (hb.keepsS _)
  have HK2:=Lib.hid (HKV.out.trans (hkA.trans (hb.keepsS Sx)))
  have HG2:=Lib.hid (HG1.out.keep hP.symm (hb.keepsS (fun _=>True)) (fun _ _ _=>trivial) ⟨trivial,trivial,trivial,trivial⟩)
  have HJ2:=Lib.hid (HJ.out _ _ _ HJV.out hkJ)
  have H8:=Lib.hid h8
  have HRE:Hid (∀ b,((b<P∧Sx b)∨b=P+4∨b=P+4+1)→Sx b):=fun b hs=>by
   rcases hs with ⟨_,h⟩ | h | h
   ·exact h
   ·exact HUP.out _ (by omega)
   ·exact HUP.out _ (by omega)
  have hPg:P+6≤g8:=by
   rw[← hg8]
   exact Nat.le_trans hW HKV.out.size
  clear c0 c1 d0 d1 hb hkA hkJ h8 HG1 HGV HJV
  by_cases hlt:m<g k
  ·have hge:(0:Int)<n:=by rw[← hn];exact Zck (Rat.not_le.2 hlt)
   have HBU:=Lib.hid (HB.out.up hlt)
   clear hn hlt
   gi_wp2
   obtain⟨sa,hab⟩:∃ a,numO e r=niO a:=by cases r<;>exact⟨_,rfl⟩
   refine Zab [(true,0),(true,1),(false,2),(false,3),(false,4)] (fun W'=>W'.heap[g8]?=some (pObj x2 y2)) (fun _=>false)
    (by kernel_rfl) (by kernel_rfl) (fun _ _=>rfl) (fun _ _ o _ _ h=>by cases o<;>exact h) (fun _ _ h=>h) H8.out ?_
   have b1:V2.drew.heap[P+1]?=some (niO sa):=by rw[← hab];exact HG2.out.b1
   have b2:V2.drew.heap[P+1+1]?=some (pObj x y):=HG2.out.b2
   have b3:V2.drew.heap[P+1+1+1]?=some (flO r.isSome):=HG2.out.b3
   have b0:V2.drew.heap[P]?=some (.cells #[.func (.func of) #[] caps] 116):=HG2.out.b0
   have b8:V2.drew.heap[g8]?=some (pObj x2 y2):=H8.out
   have HKD:Hid (Keeps Sx W V2.drew):=HK2.out.drew
   have HKW:Hid (Keeps Sx w V2.drew):=HG2.out.base.drew
   have HJD:Hid (J (k+1) V2.drew):=HJ.out _ _ _ HJ2.out (Keeps.refl _ V2).drew
   obtain⟨V3,hV3⟩:∃ z,V2.drew=z:=⟨_,rfl⟩
   rw[hV3] at b0 b1 b2 b3 b8 HKD HKW HJD ⊢
   clear hV3 HK2 HG2 HJ2 hab
   iterate 2
    refine Zi _ rfl rfl (fun w' hS=>by have h2:=hS;have e0:=Za h2 0 (v:=.string x2) rfl;have e1:=Za h2 1 (v:=.string y2) rfl;go_simp;rfl) ?_
    simp only[Znc,Znd,Zne,Act.put,Znf,Zng,Znh]
   have c0:=Za b1 0 (v:=.int .i64 sa) rfl
   have f0:=Zb b1 0
   refine Zd rfl rfl fun K hK=>?_
   go_simp
   obtain⟨V4,hV4⟩:∃ z,V3.setCell ⟨P+1,0,none⟩ (.int .i64 s)=z:=⟨_,rfl⟩
   have o4:∀ j,j≠P+1→V4.heap[j]?=V3.heap[j]?:=fun j hj=>by rw[← hV4];exact Below.heap_setCell _ _ _ _ hj
   have d1:V4.heap[P+1]?=some (niO s):=by rw[← hV4];exact Joins.block_setCell b1 _
   have k4:Keeps (fun b=>b≠P+1) V3 V4:=by rw[← hV4];exact(Keeps.refl _ V3).setCell (by simp) _
   rw[hV4]
   refine hK _ _ (.inr ((o4 _ (by omega)).trans b8)) ?_
   clear hK K hV4 c0 f0 b1
   have b0:=(o4 _ (by omega)).trans b0
   have b2:=(o4 _ (by omega)).trans b2
   have b3:=(o4 _ (by omega)).trans b3
   have b8:=(o4 _ (by omega)).trans b8
   have c0:=Za b2 0 (v:=.string x) rfl
   have c1:=Za b2 1 (v:=.string y) rfl
   have f0:=Zb b2 0
   have f1:=Zb b2 1
   refine Zd rfl rfl fun K hK=>?_
   go_simp
   obtain⟨V5,hV5⟩:∃ z,(V4.setCell ⟨P+1+1,0,none⟩ (.string x2)).setCell ⟨P+1+1,1,none⟩ (.string y2)=z:=⟨_,rfl⟩
   have o5:∀ j,j≠P+1+1→V5.heap[j]?=V4.heap[j]?:=fun j hj=>by rw[← hV5];exact(Below.heap_setCell _ _ _ _ hj).trans (Below.heap_setCell _ _ _ _ hj)
   have d2:V5.heap[P+1+1]?=some (pObj x2 y2):=by rw[← hV5];exact ZQ b2 _ _
   have k5:Keeps (fun b=>b≠P+1+1) V4 V5:=by rw[← hV5];exact((Keeps.refl _ V4).setCell (by simp) _).setCell (by simp) _
   rw[hV5]
   refine hK _ _ (.inr ((o5 _ (by omega)).trans b8)) ?_
   clear hK K hV5 c0 c1 f0 f1 b2
   have b0:=(o5 _ (by omega)).trans b0
   have d1:=(o5 _ (by omega)).trans d1
   have b3:=(o5 _ (by omega)).trans b3
   have b8:=(o5 _ (by omega)).trans b8
   have c0:=Za b3 0 (v:=.bool r.isSome) rfl
   have f0:=Zb b3 0
   refine Zd rfl rfl fun K hK=>?_
   go_simp
   obtain⟨V6,hV6⟩:∃ z,V5.setCell ⟨P+1+1+1,0,none⟩ (.bool true)=z:=⟨_,rfl⟩
   have o6:∀ j,j≠P+1+1+1→V6.heap[j]?=V5.heap[j]?:=fun j hj=>by rw[← hV6];exact Below.heap_setCell _ _ _ _ hj
   have d3:V6.heap[P+1+1+1]?=some (flO true):=by rw[← hV6];exact Joins.block_setCell b3 _
   have k6:Keeps (fun b=>b≠P+1+1+1) V5 V6:=by rw[← hV6];exact(Keeps.refl _ V5).setCell (by simp) _
   rw[hV6]
   refine hK _ _ (.inr ((o6 _ (by omega)).trans b8)) ?_
   clear hK K hV6 c0 f0 b3
   have HKK:Hid (∀ (S:Nat→Prop),¬ S (P+1)→¬ S (P+1+1)→¬ S (P+1+1+1)→Keeps S V3 V6):=fun S h1 h2 h3=>
    (((k4.mono fun b _ hb e=>h1 (e ▸ hb)).trans (k5.mono fun b _ hb e=>h2 (e ▸ hb))).trans (k6.mono fun b _ hb e=>h3 (e ▸ hb)))
   have HG6:Hid (GreatI Sx w P (.cells #[.func (.func of) #[] caps] 116) (numO e (some k)) x2 y2 true V6):=
    ⟨HKW.out.via (HKK.out (fun b=>b<P) (by omega) (by omega) (by omega)) (fun b hb _=>by omega),(o6 _ (by omega)).trans b0,by show V6.heap[P+1]?=some (niO (e k));rw[HST.out];exact(o6 _ (by omega)).trans d1,(o6 _ (by omega)).trans d2,d3⟩
   have HJ6:Hid (J (k+1) V6):=HJ.out _ _ _ HJD.out (HKK.out _ (by omega) (by omega) (by omega))
   have HKE:Hid (Keeps (fun b=>(b<P∧Sx b)∨b=P+4∨b=P+4+1) W V6):=(HKD.out.mono fun b _ hs=>HRE.out b hs).trans (HKK.out _ (by omega) (by omega) (by omega))
   clear o4 o5 o6 k4 k5 k6 d1 d2 d3 b0 b8
   refine Zr ?_
   gi_wp2
   exact⟨HKE.out,some k,g k,x2,y2,HBU.out,HX2.out,HG6.out,HJ6.out⟩
  ·have hge:¬ (0:Int)<n:=by rw[← hn];exact ZbZ (Rat.not_lt.1 hlt)
   have HBU:=Lib.hid (HB.out.keep (Rat.not_lt.1 hlt))
   clear hn hlt
   gi_wp2
   exact⟨HK2.out.mono fun b _ hs=>HRE.out b hs,r,m,x,y,HBU.out,HI.out,HG2.out,HJ2.out⟩
 case done=>
  rintro W ⟨r,m,x,y,hB,hI,hG,hJk⟩ hdef
  obtain⟨sa,hab,hae⟩:∃ a,numO e r=niO a∧numE e r=.int .i64 a:=by cases r<;>exact⟨_,rfl,rfl⟩
  obtain⟨ok,hok⟩:∃ z,r.isSome=z:=⟨_,rfl⟩
  rw[hab,hok] at hG
  have HB:=Lib.hid hB
  have HI:=Lib.hid hI
  have HJN:=Lib.hid hJk
  have HAE:=Lib.hid hae
  have HOK:=Lib.hid hok
  clear hB hI hJk hab hae hok
  go_wp2
  refine ZN [(true,0),(true,1),(true,2),(false,3),(false,4),(false,5)] (fun W'=>W'.heap[P+1]?=some (niO sa)∧W'.heap[P+1+1]?=some (pObj x y)∧W'.heap[P+1+1+1]?=some (flO ok)) (fun _=>false)
   (by kernel_rfl) (by kernel_rfl) (fun _ _=>rfl) (fun _ _ o _ _ h=>by cases o<;>exact h) ⟨hG.b1,hG.b2,hG.b3⟩ ?_
  have b1:W.drew.heap[P+1]?=some (niO sa):=hG.b1
  have b2:W.drew.heap[P+1+1]?=some (pObj x y):=hG.b2
  have b3:W.drew.heap[P+1+1+1]?=some (flO ok):=hG.b3
  have bd:W.drew.heap[P+4]?=some (.deferred (some [])):=hdef
  have HKW:Hid (Keeps Sx w W.drew):=hG.base.drew
  have HJD:Hid (J N W.drew):=HJ.out _ _ _ HJN.out (Keeps.refl _ W).drew
  obtain⟨V3,hV3⟩:∃ z,W.drew=z:=⟨_,rfl⟩
  rw[hV3] at b1 b2 b3 bd HKW HJD ⊢
  clear hV3 hG hdef HJN
  iterate 3
   refine Zi _ rfl rfl (fun w' hS=>by obtain⟨h1,h2,h3⟩:=hS;have a0:=Za h1 0 (v:=.int .i64 sa) rfl;have e0:=Za h2 0 (v:=.string x) rfl;have e1:=Za h2 1 (v:=.string y) rfl;have e2:=Za h3 0 (v:=.bool ok) rfl;go_simp;rfl) ?_
   simp only[Znc,Znd,Zne,Act.put,Znf,Zng,Znh]
  have c0:=Za b1 0 (v:=.int .i64 sa) rfl
  have f0:=Zb b1 0
  refine Zd rfl rfl fun K hK=>?_
  go_simp
  obtain⟨V4,hV4⟩:∃ z,V3.setCell ⟨P+1,0,none⟩ (.int .i64 sa)=z:=⟨_,rfl⟩
  have o4:∀ j,j≠P+1→V4.heap[j]?=V3.heap[j]?:=fun j hj=>by rw[← hV4];exact Below.heap_setCell _ _ _ _ hj
  have d1:V4.heap[P+1]?=some (niO sa):=by rw[← hV4];exact Joins.block_setCell b1 _
  have k4:Keeps (fun b=>b≠P+1) V3 V4:=by rw[← hV4];exact(Keeps.refl _ V3).setCell (by simp) _
  rw[hV4]
  have b2:=(o4 _ (by omega)).trans b2
  have b3:=(o4 _ (by omega)).trans b3
  refine hK _ _ (.inr ⟨d1,b2,b3⟩) ?_
  clear hK K hV4 c0 f0 b1
  have bd:=(o4 _ (by omega)).trans bd
  have c0:=Za b2 0 (v:=.string x) rfl
  have c1:=Za b2 1 (v:=.string y) rfl
  have f0:=Zb b2 0
  have f1:=Zb b2 1
  refine Zd rfl rfl fun K hK=>?_
  go_simp
  obtain⟨V5,hV5⟩:∃ z,(V4.setCell ⟨P+1+1,0,none⟩ (.string x)).setCell ⟨P+1+1,1,none⟩ (.string y)=z:=⟨_,rfl⟩
  have o5:∀ j,j≠P+1+1→V5.heap[j]?=V4.heap[j]?:=fun j hj=>by rw[← hV5];exact(Below.heap_setCell _ _ _ _ hj).trans (Below.heap_setCell _ _ _ _ hj)
  have d2:V5.heap[P+1+1]?=some (pObj x y):=by rw[← hV5];exact ZQ b2 _ _
  have k5:Keeps (fun b=>b≠P+1+1) V4 V5:=by rw[← hV5];exact((Keeps.refl _ V4).setCell (by simp) _).setCell (by simp) _
  rw[hV5]
  have d1:=(o5 _ (by omega)).trans d1
  have b3:=(o5 _ (by omega)).trans b3
  refine hK _ _ (.inr ⟨d1,d2,b3⟩) ?_
  clear hK K hV5 c0 c1 f0 f1 b2
  have bd:=(o5 _ (by omega)).trans bd
  have c0:=Za b3 0 (v:=.bool ok) rfl
  have f0:=Zb b3 0
  refine Zd rfl rfl fun K hK=>?_
  go_simp
  obtain⟨V6,hV6⟩:∃ z,V5.setCell ⟨P+1+1+1,0,none⟩ (.bool ok)=z:=⟨_,rfl⟩
  have o6:∀ j,j≠P+1+1+1→V6.heap[j]?=V5.heap[j]?:=fun j hj=>by rw[← hV6];exact Below.heap_setCell _ _ _ _ hj
  have d3:V6.heap[P+1+1+1]?=some (flO ok):=by rw[← hV6];exact Joins.block_setCell b3 _
  have k6:Keeps (fun b=>b≠P+1+1+1) V5 V6:=by rw[← hV6];exact(Keeps.refl _ V5).setCell (by simp) _
  rw[hV6]
  have d1:=(o6 _ (by omega)).trans d1
  have d2:=(o6 _ (by omega)).trans d2
  refine hK _ _ (.inr ⟨d1,d2,d3⟩) ?_
  clear hK K hV6 c0 f0 b3
  have bd:=(o6 _ (by omega)).trans bd
  have k9:Keeps (fun b=>b<P) V3 (V6.putObj (P+4) (.deferred none)):=
   (((k4.mono fun b _ (hb:b<P)=>(by omega)).trans (k5.mono fun b _ (hb:b<P)=>(by omega))).trans (k6.mono fun b _ (hb:b<P)=>(by omega))).putObj (by show ¬ P+4<P;omega) _
  have HKE:Hid (Keeps Sx w (V6.putObj (P+4) (.deferred none))):=HKW.out.via k9 fun b hb _=>by omega
  have HJE:Hid (J N (V6.putObj (P+4) (.deferred none))):=HJ.out _ _ _ HJD.out (by rw[HPP.out];exact k9)
  have k4':∀ {g:Nat} {o:Obj},g≠P+4→V6.heap[g]?=some o→(V6.putObj (P+4) (.deferred none)).heap[g]?=some o:=fun hg h=>(World.putObj_heap_other hg).trans h
  have g1:=k4' (by omega) d1
  have g2:=k4' (by omega) d2
  have g3:=k4' (by omega) d3
  clear o4 o5 o6 k4 k5 k6 k9 d1 d2 d3 k4'
  refine Zr ?_
  go_wp2
  unfold Calm bodyPostM
  refine⟨by simp,.inl ⟨_,_,rfl,run_takeDeferred bd,?_⟩⟩
  have c0:=Za g1 0 (v:=.int .i64 sa) rfl
  have d0:=Za g2 0 (v:=.string x) rfl
  have d1:=Za g2 1 (v:=.string y) rfl
  have f0:=Za g3 0 (v:=.bool ok) rfl
  refine⟨.tuple #[.int .i64 sa,pV x y,.bool ok],?_,r,m,x,y,by rw[HAE.out,HOK.out],HB.out,HI.out,HKE.out,HJE.out⟩
  simp[results,Tryz.f135,go_sem,c0,d0,d1,f0]
 case stop=>exact fun _ _ _ _ h _=>h.elim
end Go.Proofs.YtmpaflidennnoaaGreatDoor
namespace Go.Proofs.YtmpaflidennnoaaGreatDoor
open Go.RowKit Go.Shelf
open Classical in
noncomputable def slF (bs:List BB) (q:Rat):Rat:=if h:∃ r,Zbx bs.length (cR bs) (hR bs) q r then Classical.choose h else 0
theorem ZkF {bs:List BB} (h:CurveP bs) (q:Rat):Zbx bs.length (cR bs) (hR bs) q (slF bs q):=by
 obtain⟨r,_,_,hr,_⟩:=Zia (q:=q) h
 have hex:∃ r,Zbx bs.length (cR bs) (hR bs) q r:=⟨r,hr⟩
 unfold slF
 rw[dif_pos hex]
 exact Classical.choose_spec hex
theorem ZhO {bs:List BB} (h:CurveP bs) (q:Rat):(∃ x y,IsP (slF bs q) x y)∧Sz 72 (slF bs q)∧0≤slF bs q:=by
 obtain⟨r,x,y,hr,hx,hz,h0⟩:=Zia (q:=q) h
 obtain rfl:=(ZkF h q).unique hr
 exact⟨⟨x,y,hx⟩,hz,h0⟩
noncomputable def wsF (t:TaskP) (p:List (List Int)) (i:Nat):Rat:=wR t i*slF (eS t i).curve (covR t p i)
noncomputable def priF (t:TaskP) (p:List (List Int)) (u i:Nat):Rat:=wsF t p i*rR t u i
theorem Zgn {t:TaskP} {p:List (List Int)} (ok:TaskOk t) {u i:Nat} (hu:u<t.rates.length) (hi:i<t.sites.length) :
  ((∃ x y,IsP (wsF t p i) x y)∧∃ x y,IsP (priF t p u i) x y)∧Sz 90 (priF t p u i)∧0≤priF t p u i:=by
 obtain⟨w1,w2⟩:=Zb4 ok hi
 obtain⟨r1,r2⟩:=Zct ok hu hi
 obtain⟨_,s2,s3⟩:=ZhO (ok.site i hi).2 (covR t p i)
 have a0:=Rat.mul_nonneg w1.nn s3
 have az:=Sz.mul w1.nn s3 w2 s2
 have b0:=Rat.mul_nonneg a0 r1.nn
 have bz:=Sz.mul a0 r1.nn az r2
 exact⟨⟨ZJ a0 az (by decide) (by decide),ZJ b0 bz (by decide) (by decide)⟩,bz,b0⟩
def Za1 (t:TaskP) (p:List (List Int)) (qs:List PP):Prop:=qs.length=t.hours.length∧∀ u,u<t.hours.length→∃ r m,Best (priF t p u) t.sites.length r m∧IsP m (qs.getD u (⟨#[]⟩,⟨#[]⟩)).1 (qs.getD u (⟨#[]⟩,⟨#[]⟩)).2
theorem Za1.det {t:TaskP} {p:List (List Int)} {qs rs:List PP} (h:Za1 t p qs) (g:Za1 t p rs):qs=rs:=by
 refine List.ext_getElem (h.1.trans g.1.symm) fun u h1 h2=>?_
 obtain⟨r,m,b1,b2⟩:=h.2 u (by rw[← h.1];exact h1)
 obtain⟨s,l,c1,c2⟩:=g.2 u (by rw[← h.1];exact h1)
 obtain⟨e1,e2⟩:=Zaq b2 c2 (b1.det c1).2
 have e3:qs.getD u (⟨#[]⟩,⟨#[]⟩)=qs[u]:=by simp[List.getD,h1]
 have e4:rs.getD u (⟨#[]⟩,⟨#[]⟩)=rs[u]:=by simp[List.getD,h2]
 rw[e3,e4] at e1 e2
 exact Prod.ext e1 e2
theorem ZmE {t:TaskP} {p:List (List Int)} (ok:TaskOk t) {u:Nat} (hu:u<t.rates.length) {r:Option Nat} {m:Rat} (h:Best (priF t p u) t.sites.length r m):Sz 90 m:=by
 cases r with
 | none=>
  rw[(h.no rfl).1]
  exact⟨by decide +kernel,by decide +kernel⟩
 | some j=>
  obtain⟨hj,e,_⟩:=h.yes j rfl
  rw[e]
  exact(Zgn ok hu hj).2.1
theorem Za1.ok {t:TaskP} {p:List (List Int)} {qs:List PP} (ok:TaskOk t) (h:Za1 t p qs):PricesOk t qs:=⟨h.1,fun u hu=>by
 obtain⟨r,m,b1,b2⟩:=h.2 u (by rw[← h.1];exact hu)
 have hz:=(ZmE ok (by rw[ok.rates,← h.1];exact hu) b1).mono (l:=300) (by decide)
 exact Zd2 b2 hz (by decide)⟩
end Go.Proofs.YtmpaflidennnoaaGreatDoor
