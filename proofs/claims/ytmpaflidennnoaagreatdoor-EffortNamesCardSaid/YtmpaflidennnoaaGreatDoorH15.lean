/- The parts Piece, DRight, Float of a proof, put together by program (merge7.py). -/
import Derived.Test.YtmpaflidennnoaaGreatDoorH01
import Derived.Test.YtmpaflidennnoaaGreatDoorH14
import Derived.Test.YtmpaflidennnoaaGreatDoorH12
set_option maxRecDepth 100000
set_option maxHeartbeats 8000000
set_option linter.unusedVariables false
set_option linter.unusedSimpArgs false
namespace Go.Proofs.YtmpaflidennnoaaGreatDoor
open Go.RowKit Go.Shelf
attribute [local go_sem ↓] Go.wp_at_zero Go.wp_at_succ
attribute [local go_sem] Oper.semAt_some
def Zgi (bs:List BB) (q:Rat) (i j:Nat) (inn:Bool):Prop:=Za2 bs.length (cR bs) q i∧((i+1<bs.length∧j=i+1∧inn=true)∨(i+1=bs.length∧j=i∧inn=false))
def Zlo (bs:List BB) (q:Rat) (w:World) (e:Ending) (w':World):Prop:=∃ i j inn,e=.returned (.tuple #[bV (bAt bs i),bV (bAt bs j),.bool inn])∧Zgi bs q i j inn∧Below w.heap.size w w'
abbrev bE:Obj:=bO ⟨#[]⟩ ⟨#[]⟩ ⟨#[]⟩ ⟨#[]⟩
abbrev tO (b:Bool):Obj:=.cells #[.bool b] 4
def PcI (bs:List BB) (q:Rat) (P:Nat) (w6:World) (k:Nat) (W:World):Prop:=(∀ j,j<k→cR bs (j+1)≤q)∧Keeps (fun b=>b<P+5) w6 W
def PcX (bs:List BB) (q:Rat) (P:Nat) (w6:World) (c:Code) (k:Nat) (W:World):Prop:=
 c=.ret∧Zgi bs q k (k+1) true∧W.heap[P+1]?=some (bObj (bAt bs k))∧W.heap[P+2]?=some (bObj (bAt bs (k+1)))∧W.heap[P+3]?=some (tO true)∧Keeps (fun b=>b<P) w6 W
theorem Zd4 {W:World} {g:Nat} {a b c d:ByteArray} (h:W.heap[g]?=some (bO a b c d)) (s t u v:ByteArray) :
  ((((W.setCell ⟨g,0,none⟩ (.string s)).setCell ⟨g,1,none⟩ (.string t)).setCell ⟨g,2,none⟩ (.string u)).setCell ⟨g,3,none⟩ (.string v)).heap[g]?=some (bO s t u v)∧
  (∀ k,k≠g→((((W.setCell ⟨g,0,none⟩ (.string s)).setCell ⟨g,1,none⟩ (.string t)).setCell ⟨g,2,none⟩ (.string u)).setCell ⟨g,3,none⟩ (.string v)).heap[k]?=W.heap[k]?)∧
  ∀ S:Nat→Prop,¬ S g→Keeps S W ((((W.setCell ⟨g,0,none⟩ (.string s)).setCell ⟨g,1,none⟩ (.string t)).setCell ⟨g,2,none⟩ (.string u)).setCell ⟨g,3,none⟩ (.string v)):=
 ⟨Joins.block_setCell (Joins.block_setCell (Joins.block_setCell (Joins.block_setCell h _) _) _) _,
  fun k hk=>(Below.heap_setCell _ _ _ _ hk).trans ((Below.heap_setCell _ _ _ _ hk).trans ((Below.heap_setCell _ _ _ _ hk).trans (Below.heap_setCell _ _ _ _ hk))),
  fun S hS=>((((Keeps.refl S W).setCell (p:=⟨g,0,none⟩) hS _).setCell (p:=⟨g,1,none⟩) hS _).setCell (p:=⟨g,2,none⟩) hS _).setCell (p:=⟨g,3,none⟩) hS _⟩
theorem S8.of {W:World} {A:Nat} {s0 t0 u0 v0 s1 t1 u1 v1:ByteArray} (h0:W.heap[A]?=some (bO s0 t0 u0 v0)) (h1:W.heap[A+1]?=some (bO s1 t1 u1 v1)):S8 A s0 t0 u0 v0 s1 t1 u1 v1 W:=
 ⟨Za h0 0 rfl,Za h0 1 rfl,Za h0 2 rfl,Za h0 3 rfl,Za h1 0 rfl,Za h1 1 rfl,Za h1 2 rfl,Za h1 3 rfl⟩
abbrev S4 (g:Nat) (s t u v:ByteArray) (w':World):Prop:=w'.cell? ⟨g,0,none⟩=some (.string s)∧w'.cell? ⟨g,1,none⟩=some (.string t)∧w'.cell? ⟨g,2,none⟩=some (.string u)∧w'.cell? ⟨g,3,none⟩=some (.string v)
theorem S4.of {W:World} {A:Nat} {s t u v:ByteArray} (h:W.heap[A]?=some (bO s t u v)):S4 A s t u v W:=⟨Za h 0 rfl,Za h 1 rfl,Za h 2 rfl,Za h 3 rfl⟩
theorem Zhp {v:Value} {bs:List BB} {w:World} {q:Rat} {s t:ByteArray} (hv:BL w v bs) (hC:CurveP bs) (hq:IsP q s t) :
  Calls Tryz.prog 182 #[v,.agg #[.string s,.string t]] w (Zlo bs q w):=by
 obtain⟨n,hn⟩:∃ n,bs.length=n:=⟨_,rfl⟩
 obtain⟨p,c,rfl⟩:∃ p c,v=.slice p n c:=by obtain⟨p,c,h,_⟩:=id hv;exact⟨_,_,by rw[← hn];exact h⟩
 obtain⟨_,hc,hnc⟩:=hv.len
 have hl:=hC.len
 rw[hn] at hl
 obtain⟨b,off,rfl,hb,hat⟩:=hv.at hn (by omega)
 obtain⟨r,rfl⟩:∃ r,n=r+1:=⟨n-1,by omega⟩
 have HC:=Lib.hid hC
 have HQ:=Lib.hid hq
 have HN:=Lib.hid hn
 have HAT:Hid (∀ W,Below w.heap.size w W→Zcd b off (r+1) bs W):=fun W hW k hk=>hat W hW k hk
 have hr:1≤r∧r≤63:=by omega
 have e1:Hid (IntKind.i64.wrap (r:Int)=(r:Int)):=IntWalk.i64_in _ (by omega)
 clear hv hC hq hn hat hl
 refine ZbO Tryz.func182 rfl ?_
 simp only[Tryz.ntmps182,List.size_toArray,List.length_cons,List.length_nil,Nat.reduceAdd,Nat.reduceSub,Array.replicate_succ,Array.replicate_zero,List.push_toArray,List.append_toArray,List.nil_append,List.cons_append]
 go_wp2_with fail
 refine(Zhq _ _ _ _).mono ?_
 rintro e w' ⟨rfl,rfl⟩
 obtain⟨P,hP⟩:∃ P,w.heap.size=P:=⟨_,rfl⟩
 obtain⟨w6,hw6⟩:∃ z,((((w.alloc (pObj s t)).alloc bE).alloc bE).alloc (tO false)).alloc (.cells #[.slice (some ⟨b,off,none⟩) (r+1) c] 72)=z:=⟨_,rfl⟩
 have HX:Zk P [pObj s t,bE,bE,tO false,.cells #[.slice (some ⟨b,off,none⟩) (r+1) c] 72] w6:=by rw[← hw6,← hP];exact(Zk.four w _ _ _ _).snoc (by simp) _
 have hs4:((((w.alloc (pObj s t)).alloc bE).alloc bE).alloc (tO false)).heap.size=P+4:=by simp[hP]
 have hD:w6.heap.size=P+5:=by rw[← hw6,World.size_alloc,hs4]
 have HB6:Hid (Below P w w6):=by
  rw[← hw6,← hP]
  exact(((((Below.refl _ w).alloc (Nat.le_refl _) _).alloc (by simp) _).alloc (by simp<;>omega) _).alloc (by simp<;>omega) _).alloc (by rw[hs4];omega) _
 have HC6:Hid (Zcd b off (r+1) bs w6):=HAT.out _ (by rw[hP];exact HB6.out)
 have h0:w6.heap[P]?=some (pObj s t):=HX.block 0 rfl rfl
 have h1:w6.heap[P+1]?=some bE:=HX.block 1 rfl rfl
 have h2:w6.heap[P+2]?=some bE:=HX.block 2 rfl rfl
 have h3:w6.heap[P+3]?=some (tO false):=HX.block 3 rfl rfl
 have h4:w6.cell? ⟨P+4,0,none⟩=some (.slice (some ⟨b,off,none⟩) (r+1) c):=Za (HX.block 4 rfl rfl) 0 rfl
 have H6:Hid (w6.heap[P]?=some (pObj s t)∧w6.heap[P+1]?=some bE∧w6.heap[P+2]?=some bE∧w6.heap[P+3]?=some (tO false)):=⟨h0,h1,h2,h3⟩
 rw[hs4,hw6]
 have HPP:=Lib.hid hP
 rw[hP] at hb ⊢
 clear HX hw6 hs4 h0 h1 h2 h3 hP
 go_wp2
 refine(wpIn_wide (n:=9)).1 ?_
 refine ZcT (P+5) hD (gf:=179) (lb:=#[.pointer (some ⟨P+4,0,none⟩)]) (f:=fun k=>#[bV (bAt bs k),bV (bAt bs (k+1))]) (N:=r)
  (S:=fun x=>x<P+5∧x≠P+1∧x≠P+2∧x≠P+3) (T:=fun _=>True)
  rfl (enters_of Tryz.func179 (by kernel_rfl) rfl) (fun _=>rfl) ?iter (fun _ h=>h.1) ⟨trivial,trivial⟩
  (PcI bs q P w6) (PcX bs q P w6) ?ci ?cx ?start
  (BoxB bs (P+7) ?a1) ?cb ?assign ?body ?done ?stop
 case iter=>
  have:=Zgc (P+4) b off (r+1) c (fun x=>x<P+5∧x≠P+1∧x≠P+2∧x≠P+3) bs (by omega) (by omega) hnc hc w6 ⟨by omega,by omega,by omega,by omega⟩ ⟨by omega,by omega,by omega,by omega⟩ h4 HC6.out
  rwa [Nat.add_sub_cancel] at this
 case ci=>
  rintro k W1 W2 ⟨h1,h2⟩ hk
  exact⟨h1,h2.trans (hk.mono fun x _ hx=>⟨trivial,by omega,by omega⟩)⟩
 case cx=>
  rintro cd k W1 W2 ⟨h1,h2,h3,h4,h5,h6⟩ hk
  have kp:∀ {g:Nat} {o:Obj},g<P+5→W1.heap[g]?=some o→W2.heap[g]?=some o:=fun hg h=>(hk.block _ (Array.getElem?_eq_some_iff.1 h).1 ⟨trivial,by omega,by omega⟩).trans h
  exact⟨h1,h2,kp (by omega) h3,kp (by omega) h4,kp (by omega) h5,h6.trans (hk.mono fun x _ hx=>⟨trivial,by omega,by omega⟩)⟩
 case start=>exact⟨fun j hj=>by omega,Keeps.refl _ _⟩
 case cb=>
  rintro k a' W1 W2 ⟨A,h1,h2,h3,h4⟩ hk
  exact⟨A,h1,h2,(hk.block _ (Array.getElem?_eq_some_iff.1 h3).1 ⟨by omega,by omega⟩).trans h3,(hk.block _ (Array.getElem?_eq_some_iff.1 h4).1 ⟨by omega,by omega⟩).trans h4⟩
 case assign=>
  intro l k W hk hW
  gi_wp2
  have h1:((W.alloc (bObj (bAt bs k))).alloc (bObj (bAt bs (k+1)))).heap[W.heap.size]?=some (bObj (bAt bs k)):=(Below.heap_alloc _ _ _ (by simp)).trans (World.alloc_heap_new W _)
  have h2:((W.alloc (bObj (bAt bs k))).alloc (bObj (bAt bs (k+1)))).heap[W.heap.size+1]?=some (bObj (bAt bs (k+1))):=by
   have:=World.alloc_heap_new (W.alloc (bObj (bAt bs k))) (bObj (bAt bs (k+1)))
   rwa [World.size_alloc] at this
  have hkk:Keeps (fun _=>True) W ((W.alloc (bObj (bAt bs k))).alloc (bObj (bAt bs (k+1)))):=((Keeps.refl _ W).alloc _).alloc _
  obtain⟨V,hV⟩:∃ V,(W.alloc (bObj (bAt bs k))).alloc (bObj (bAt bs (k+1)))=V:=⟨_,rfl⟩
  rw[hV] at h1 h2 hkk
  obtain⟨A,hA⟩:∃ A,W.heap.size=A:=⟨_,rfl⟩
  rw[hA] at h1 h2
  simp only[hV,hA,World.size_alloc]
  refine⟨hkk,A,by omega,?_,h1,h2⟩
  clear hkk h1 h2 hV hA hW
  exact rfl
 case body=>
  have hfn:∀ k,Fence.wide.fn k:=fun _=>trivial
  rintro l k a' W hk ⟨HPi,HK⟩ ⟨A,hA,rfl,hA0,hA1⟩ hW
  have C1:=(HC.out.isC (i:=k+1) (by rw[HN.out];omega)).1
  obtain⟨q0,hq0⟩:∃ q,bAt bs k=q:=⟨_,rfl⟩
  obtain⟨q1,hq1⟩:∃ q,bAt bs (k+1)=q:=⟨_,rfl⟩
  have HQ0:=Lib.hid hq0
  have HQ1:=Lib.hid hq1
  rw[hq0] at hA0
  rw[hq1] at hA1 C1
  obtain⟨⟨s0,t0⟩,u0,v0⟩:=q0
  obtain⟨⟨s1,t1⟩,u1,v1⟩:=q1
  dsimp only at C1
  dsimp only
  rw[hq0,hq1]
  have IC1:=Lib.hid C1
  have HA:Hid (W.heap[A]?=some (bO s0 t0 u0 v0)∧W.heap[A+1]?=some (bO s1 t1 u1 v1)):=⟨hA0,hA1⟩
  have HKh:=Lib.hid HK
  have HPh:=Lib.hid HPi
  obtain⟨g1,hg1⟩:∃ g,sgnR q (cR bs (k+1))=g:=⟨_,rfl⟩
  have HG1:=Lib.hid hg1
  have cs:W.cell? ⟨P,0,none⟩=some (.string s):=HK.cellAt (Za H6.out.1 0 rfl) (by show P<P+5;omega)
  have ct:W.cell? ⟨P,1,none⟩=some (.string t):=HK.cellAt (Za H6.out.1 1 rfl) (by show P<P+5;omega)
  have b0:W.cell? ⟨A+1,0,none⟩=some (.string s1):=Za HA.out.2 0 rfl
  have b1:W.cell? ⟨A+1,1,none⟩=some (.string t1):=Za HA.out.2 1 rfl
  clear HPi HK hA0 hA1 hq0 hq1 C1
  gi_wp2_with fail
  refine(CallsIn.inRound l (callsIn_wide.2 (ZaU HQ.out IC1.out HG1.out _))).mono ?_
  rintro e V ⟨rfl,hb⟩
  have HV:Hid (Below W.heap.size W V):=hb
  have HAV:Hid (V.heap[A]?=some (bO s0 t0 u0 v0)∧V.heap[A+1]?=some (bO s1 t1 u1 v1)):=⟨(hb.block _ (Array.getElem?_eq_some_iff.1 HA.out.1).1).trans HA.out.1,(hb.block _ (Array.getElem?_eq_some_iff.1 HA.out.2).1).trans HA.out.2⟩
  clear hb cs ct b0 b1
  by_cases hc1:q<cR bs (k+1)
  ·have hge:g1<(0:Int):=by rw[← hg1];exact Int.not_le.1 (Zjs hc1)
   have HPA:Hid (Zgi bs q k (k+1) true):=⟨⟨by rw[HN.out];omega,HPh.out,fun _=>hc1⟩,.inl ⟨by rw[HN.out];omega,rfl,rfl⟩⟩
   clear hg1 hc1
   gi_wp2
   have kV:∀ {g:Nat} {o:Obj},g<P+5→w6.heap[g]?=some o→V.heap[g]?=some o:=fun hg h=>by
    have h1:=(HKh.out.block _ (Array.getElem?_eq_some_iff.1 h).1 hg).trans h
    exact(HV.out.block _ (Array.getElem?_eq_some_iff.1 h1).1).trans h1
   have hF:V.heap[P+1]?=some bE:=kV (by omega) H6.out.2.1
   have hT:V.heap[P+1+1]?=some bE:=kV (by omega) H6.out.2.2.1
   have hI:V.heap[P+1+1+1]?=some (tO false):=kV (by omega) H6.out.2.2.2
   have HKV:Hid (∀ S:Nat→Prop,Keeps S W V):=fun S=>HV.out.keepsAll S
   refine Zab [(true,0),(true,1),(false,2),(false,3),(false,4)] (S8 A s0 t0 u0 v0 s1 t1 u1 v1) (fun _=>false)
    (by kernel_rfl) (by kernel_rfl) (fun _ _=>rfl) (fun _ _ o _ _ h=>by cases o<;>exact h) (fun _ _ h=>h) (S8.of HAV.out.1 HAV.out.2) ?_
   iterate 2
    refine Zi _ rfl rfl (fun w' hS=>by obtain⟨a0,a1,a2,a3,b0,b1,b2,b3⟩:=hS;go_simp;rfl) ?_
    simp only[Znc,Znd,Zne,Act.put,Znf,Zng,Znh]
   have c0:V.cell? ⟨P+1,0,none⟩=some (.string ⟨#[]⟩):=Za hF 0 rfl
   have c1:V.cell? ⟨P+1,1,none⟩=some (.string ⟨#[]⟩):=Za hF 1 rfl
   have c2:V.cell? ⟨P+1,2,none⟩=some (.string ⟨#[]⟩):=Za hF 2 rfl
   have c3:V.cell? ⟨P+1,3,none⟩=some (.string ⟨#[]⟩):=Za hF 3 rfl
   have f0:V.frozen? ⟨P+1,0,none⟩=false:=Zb hF 0
   have f1:V.frozen? ⟨P+1,1,none⟩=false:=Zb hF 1
   have f2:V.frozen? ⟨P+1,2,none⟩=false:=Zb hF 2
   have f3:V.frozen? ⟨P+1,3,none⟩=false:=Zb hF 3
   refine Ze rfl rfl fun K hK=>?_
   go_simp
   obtain⟨p1,p2,p3⟩:=Zd4 hF s0 t0 u0 v0
   obtain⟨V1,hV1⟩:∃ z,((((V.setCell ⟨P+1,0,none⟩ (.string s0)).setCell ⟨P+1,1,none⟩ (.string t0)).setCell ⟨P+1,2,none⟩ (.string u0)).setCell ⟨P+1,3,none⟩ (.string v0))=z:=⟨_,rfl⟩
   rw[hV1] at p1 p2 p3 ⊢
   have hA1:V1.heap[A]?=some (bO s0 t0 u0 v0):=(p2 A (by omega)).trans HAV.out.1
   have hB1:V1.heap[A+1]?=some (bO s1 t1 u1 v1):=(p2 (A+1) (by omega)).trans HAV.out.2
   have hT1:V1.heap[P+1+1]?=some bE:=(p2 _ (by omega)).trans hT
   have hI1:V1.heap[P+1+1+1]?=some (tO false):=(p2 _ (by omega)).trans hI
   have HKV1:Hid (∀ S:Nat→Prop,¬ S (P+1)→Keeps S W V1):=fun S h=>(HKV.out S).trans (p3 S h)
   refine hK _ _ (.inr (S8.of (W:=V1) hA1 hB1)) ?_
   clear hK K hV1 c0 c1 c2 c3 f0 f1 f2 f3 hF hT hI p2 p3 HKV
   have c0:V1.cell? ⟨P+1+1,0,none⟩=some (.string ⟨#[]⟩):=Za hT1 0 rfl
   have c1:V1.cell? ⟨P+1+1,1,none⟩=some (.string ⟨#[]⟩):=Za hT1 1 rfl
   have c2:V1.cell? ⟨P+1+1,2,none⟩=some (.string ⟨#[]⟩):=Za hT1 2 rfl
   have c3:V1.cell? ⟨P+1+1,3,none⟩=some (.string ⟨#[]⟩):=Za hT1 3 rfl
   have f0:V1.frozen? ⟨P+1+1,0,none⟩=false:=Zb hT1 0
   have f1:V1.frozen? ⟨P+1+1,1,none⟩=false:=Zb hT1 1
   have f2:V1.frozen? ⟨P+1+1,2,none⟩=false:=Zb hT1 2
   have f3:V1.frozen? ⟨P+1+1,3,none⟩=false:=Zb hT1 3
   refine Ze rfl rfl fun K hK=>?_
   go_simp
   obtain⟨r1,r2,r3⟩:=Zd4 hT1 s1 t1 u1 v1
   obtain⟨V2,hV2⟩:∃ z,((((V1.setCell ⟨P+1+1,0,none⟩ (.string s1)).setCell ⟨P+1+1,1,none⟩ (.string t1)).setCell ⟨P+1+1,2,none⟩ (.string u1)).setCell ⟨P+1+1,3,none⟩ (.string v1))=z:=⟨_,rfl⟩
   rw[hV2] at r1 r2 r3 ⊢
   have hA2:V2.heap[A]?=some (bO s0 t0 u0 v0):=(r2 A (by omega)).trans hA1
   have hB2:V2.heap[A+1]?=some (bO s1 t1 u1 v1):=(r2 (A+1) (by omega)).trans hB1
   have hF2:V2.heap[P+1]?=some (bO s0 t0 u0 v0):=(r2 _ (by omega)).trans p1
   have hI2:V2.heap[P+1+1+1]?=some (tO false):=(r2 _ (by omega)).trans hI1
   have HKV2:Hid (∀ S:Nat→Prop,¬ S (P+1)→¬ S (P+1+1)→Keeps S W V2):=fun S h h2=>(HKV1.out S h).trans (r3 S h2)
   refine hK _ _ (.inr (S8.of (W:=V2) hA2 hB2)) ?_
   clear hK K hV2 c0 c1 c2 c3 f0 f1 f2 f3 hT1 hI1 r2 r3 HKV1 hA1 hB1 p1
   have c0:V2.cell? ⟨P+1+1+1,0,none⟩=some (.bool false):=Za hI2 0 rfl
   have f0:V2.frozen? ⟨P+1+1+1,0,none⟩=false:=Zb hI2 0
   refine Ze rfl rfl fun K hK=>?_
   go_simp
   obtain⟨V3,hV3⟩:∃ z,V2.setCell ⟨P+1+1+1,0,none⟩ (.bool true)=z:=⟨_,rfl⟩
   have o3:∀ k,k≠P+1+1+1→V3.heap[k]?=V2.heap[k]?:=fun k hk=>by rw[← hV3];exact Below.heap_setCell _ _ _ _ hk
   have hI3:V3.heap[P+1+1+1]?=some (tO true):=by rw[← hV3];exact Joins.block_setCell hI2 _
   have HKV3:Hid (∀ S:Nat→Prop,¬ S (P+1)→¬ S (P+1+1)→¬ S (P+1+1+1)→Keeps S W V3.drew):=fun S h h2 h3=>by
    rw[← hV3]
    exact((HKV2.out S h h2).setCell (p:=⟨P+1+1+1,0,none⟩) h3 _).drew
   rw[hV3]
   refine hK _ _ (.inr (S8.of (W:=V3) ((o3 A (by omega)).trans hA2) ((o3 (A+1) (by omega)).trans hB2))) ?_
   have HF3:Hid (V3.heap[P+1]?=some (bObj (bAt bs k))∧V3.heap[P+1+1]?=some (bObj (bAt bs (k+1)))∧V3.heap[P+1+1+1]?=some (tO true)):=by
    rw[HQ0.out,HQ1.out]
    exact⟨(o3 _ (by omega)).trans hF2,(o3 _ (by omega)).trans r1,hI3⟩
   clear hK K hV3 c0 f0 o3 hI3 hF2 hI2 r1 HKV2 hA2 hB2
   refine Zt ?_
   gi_wp2
   refine⟨HKV3.out _ (fun h=>by rcases h with ⟨_,h1,h2,h3⟩ | h | h<;>omega) (fun h=>by rcases h with ⟨_,h1,h2,h3⟩ | h | h<;>omega) (fun h=>by rcases h with ⟨_,h1,h2,h3⟩ | h | h<;>omega),rfl,HPA.out,HF3.out.1,HF3.out.2.1,HF3.out.2.2,
    (HKh.out.mono fun x _ hx=>by omega).trans (HKV3.out _ (by omega) (by omega) (by omega))⟩
  ·have hge:¬ g1<(0:Int):=by rw[← hg1];exact Int.not_lt.2 (ZjE hc1)
   have HPA:Hid (∀ j,j<k+1→cR bs (j+1)≤q):=fun j hj=>by
    rcases Nat.lt_or_ge j k with h | h
    ·exact HPh.out j h
    ·obtain rfl:j=k:=by omega
     grind
   clear hg1 hc1
   gi_wp2
   exact⟨HV.out.keepsAll _,HPA.out,HKh.out.trans (HV.out.keepsAll _)⟩
 case done=>
  rintro W ⟨HPi,HK⟩ hdef
  have kV:∀ {g:Nat} {o:Obj},g<P+5→w6.heap[g]?=some o→W.heap[g]?=some o:=fun hg h=>(HK.block _ (Array.getElem?_eq_some_iff.1 h).1 hg).trans h
  have hF:W.heap[P+1]?=some bE:=kV (by omega) H6.out.2.1
  have hT:W.heap[P+1+1]?=some bE:=kV (by omega) H6.out.2.2.1
  have hI:W.heap[P+1+1+1]?=some (tO false):=kV (by omega) H6.out.2.2.2
  have hsz:P+5≤W.heap.size:=by rw[← hD];exact HK.size
  have hcl:=HC6.out.keeps HK (by show b<P+5;omega)
  obtain⟨a0,a1,a2,a3⟩:=hcl r (by omega)
  obtain⟨q0,hq0⟩:∃ q,bAt bs r=q:=⟨_,rfl⟩
  have HQ0:=Lib.hid hq0
  rw[hq0] at a0 a1 a2 a3
  obtain⟨⟨s0,t0⟩,u0,v0⟩:=q0
  dsimp only at a0 a1 a2 a3
  have HPA:Hid (Zgi bs q r r false):=⟨⟨by rw[HN.out];omega,HPi,fun h=>by rw[HN.out] at h;omega⟩,.inr ⟨by rw[HN.out],rfl,rfl⟩⟩
  have HKh:=Lib.hid HK
  have e1':=e1.out
  clear HK HPi hcl hq0 kV
  go_wp2
  obtain⟨X,hX⟩:∃ X,W.heap.size=X:=⟨_,rfl⟩
  obtain⟨V,hV⟩:∃ V,W.alloc (bO s0 t0 u0 v0)=V:=⟨_,rfl⟩
  have hXV:V.heap[X]?=some (bO s0 t0 u0 v0):=by rw[← hV,← hX];exact World.alloc_heap_new W _
  have ov:∀ k,k<X→V.heap[k]?=W.heap[k]?:=fun k hk=>by rw[← hV];exact Below.heap_alloc _ _ _ (by omega)
  have HKV:Hid (∀ S:Nat→Prop,Keeps S W V):=fun S=>by rw[← hV];exact(Keeps.refl S W).alloc _
  rw[hX] at hsz ⊢
  rw[hV]
  have hdV:V.heap[P+5]?=some (.deferred (some [])):=(ov _ (by have:=(Array.getElem?_eq_some_iff.1 hdef).1;omega)).trans hdef
  have hF:=(ov _ (by omega)).trans hF
  have hT:=(ov _ (by omega)).trans hT
  have hI:=(ov _ (by omega)).trans hI
  have hX5:P+5<X:=by have:=(Array.getElem?_eq_some_iff.1 hdef).1;omega
  clear hV hX ov a0 a1 a2 a3 hdef
  refine ZQ [(true,0),(true,1),(false,2),(false,3),(false,4)] (S4 X s0 t0 u0 v0) (fun _=>false)
   (by kernel_rfl) (by kernel_rfl) (fun _ _=>rfl) (fun _ _ o _ _ h=>by cases o<;>exact h) (S4.of (W:=V) hXV) ?_
  iterate 2
   refine Zi _ rfl rfl (fun w' hS=>by obtain⟨a0,a1,a2,a3⟩:=hS;go_simp;rfl) ?_
   simp only[Znc,Znd,Zne,Act.put,Znf,Zng,Znh]
  have c0:V.cell? ⟨P+1,0,none⟩=some (.string ⟨#[]⟩):=Za hF 0 rfl
  have c1:V.cell? ⟨P+1,1,none⟩=some (.string ⟨#[]⟩):=Za hF 1 rfl
  have c2:V.cell? ⟨P+1,2,none⟩=some (.string ⟨#[]⟩):=Za hF 2 rfl
  have c3:V.cell? ⟨P+1,3,none⟩=some (.string ⟨#[]⟩):=Za hF 3 rfl
  have f0:V.frozen? ⟨P+1,0,none⟩=false:=Zb hF 0
  have f1:V.frozen? ⟨P+1,1,none⟩=false:=Zb hF 1
  have f2:V.frozen? ⟨P+1,2,none⟩=false:=Zb hF 2
  have f3:V.frozen? ⟨P+1,3,none⟩=false:=Zb hF 3
  refine Ze rfl rfl fun K hK=>?_
  go_simp
  obtain⟨p1,p2,p3⟩:=Zd4 hF s0 t0 u0 v0
  obtain⟨V1,hV1⟩:∃ z,((((V.setCell ⟨P+1,0,none⟩ (.string s0)).setCell ⟨P+1,1,none⟩ (.string t0)).setCell ⟨P+1,2,none⟩ (.string u0)).setCell ⟨P+1,3,none⟩ (.string v0))=z:=⟨_,rfl⟩
  rw[hV1] at p1 p2 p3 ⊢
  have hX1:V1.heap[X]?=some (bO s0 t0 u0 v0):=(p2 X (by omega)).trans hXV
  have hT1:V1.heap[P+1+1]?=some bE:=(p2 _ (by omega)).trans hT
  have hI1:V1.heap[P+1+1+1]?=some (tO false):=(p2 _ (by omega)).trans hI
  have hd1:V1.heap[P+5]?=some (.deferred (some [])):=(p2 _ (by omega)).trans hdV
  have HKV1:Hid (∀ S:Nat→Prop,¬ S (P+1)→Keeps S W V1):=fun S h=>(HKV.out S).trans (p3 S h)
  refine hK _ _ (.inr (S4.of (W:=V1) hX1)) ?_
  clear hK K hV1 c0 c1 c2 c3 f0 f1 f2 f3 hF hT hI p2 p3 HKV hdV hXV
  have c0:V1.cell? ⟨P+1+1,0,none⟩=some (.string ⟨#[]⟩):=Za hT1 0 rfl
  have c1:V1.cell? ⟨P+1+1,1,none⟩=some (.string ⟨#[]⟩):=Za hT1 1 rfl
  have c2:V1.cell? ⟨P+1+1,2,none⟩=some (.string ⟨#[]⟩):=Za hT1 2 rfl
  have c3:V1.cell? ⟨P+1+1,3,none⟩=some (.string ⟨#[]⟩):=Za hT1 3 rfl
  have f0:V1.frozen? ⟨P+1+1,0,none⟩=false:=Zb hT1 0
  have f1:V1.frozen? ⟨P+1+1,1,none⟩=false:=Zb hT1 1
  have f2:V1.frozen? ⟨P+1+1,2,none⟩=false:=Zb hT1 2
  have f3:V1.frozen? ⟨P+1+1,3,none⟩=false:=Zb hT1 3
  refine Ze rfl rfl fun K hK=>?_
  go_simp
  obtain⟨r1,r2,r3⟩:=Zd4 hT1 s0 t0 u0 v0
  obtain⟨V2,hV2⟩:∃ z,((((V1.setCell ⟨P+1+1,0,none⟩ (.string s0)).setCell ⟨P+1+1,1,none⟩ (.string t0)).setCell ⟨P+1+1,2,none⟩ (.string u0)).setCell ⟨P+1+1,3,none⟩ (.string v0))=z:=⟨_,rfl⟩
  rw[hV2] at r1 r2 r3 ⊢
  have hX2:V2.heap[X]?=some (bO s0 t0 u0 v0):=(r2 X (by omega)).trans hX1
  have hF2:V2.heap[P+1]?=some (bO s0 t0 u0 v0):=(r2 _ (by omega)).trans p1
  have hI2:V2.heap[P+1+1+1]?=some (tO false):=(r2 _ (by omega)).trans hI1
  have hd2:V2.heap[P+5]?=some (.deferred (some [])):=(r2 _ (by omega)).trans hd1
  have HKV2:Hid (∀ S:Nat→Prop,¬ S (P+1)→¬ S (P+1+1)→Keeps S W V2):=fun S h h2=>(HKV1.out S h).trans (r3 S h2)
  refine hK _ _ (.inr (S4.of (W:=V2) hX2)) ?_
  clear hK K hV2 c0 c1 c2 c3 f0 f1 f2 f3 hT1 hI1 r2 r3 HKV1 hX1 p1 hd1
  have c0:V2.cell? ⟨P+1+1+1,0,none⟩=some (.bool false):=Za hI2 0 rfl
  have f0:V2.frozen? ⟨P+1+1+1,0,none⟩=false:=Zb hI2 0
  refine Ze rfl rfl fun K hK=>?_
  go_simp
  obtain⟨V3,hV3⟩:∃ z,V2.setCell ⟨P+1+1+1,0,none⟩ (.bool false)=z:=⟨_,rfl⟩
  have o3:∀ k,k≠P+1+1+1→V3.heap[k]?=V2.heap[k]?:=fun k hk=>by rw[← hV3];exact Below.heap_setCell _ _ _ _ hk
  have hI3:V3.heap[P+1+1+1]?=some (tO false):=by rw[← hV3];exact Joins.block_setCell hI2 _
  have HKV3:Hid (Keeps (fun x=>x<P) W V3.drew):=by
   rw[← hV3]
   exact((HKV2.out _ (by omega) (by omega)).setCell (p:=⟨P+1+1+1,0,none⟩) (by show ¬ P+1+1+1<P;omega) _).drew
  rw[hV3]
  refine hK _ _ (.inr (S4.of (W:=V3) ((o3 X (by omega)).trans hX2))) ?_
  have hF3:V3.drew.heap[P+1]?=some (bO s0 t0 u0 v0):=(o3 _ (by omega)).trans hF2
  have hT3:V3.drew.heap[P+1+1]?=some (bO s0 t0 u0 v0):=(o3 _ (by omega)).trans r1
  have hd3:V3.drew.heap[P+5]?=some (.deferred (some [])):=(o3 _ (by omega)).trans hd2
  have hI3:V3.drew.heap[P+1+1+1]?=some (tO false):=hI3
  clear hK K hV3 c0 f0 o3 hF2 hI2 r1 HKV2 hX2 hd2
  refine Zt ?_
  have k4:∀ {g:Nat} {o:Obj},g≠P+5→V3.drew.heap[g]?=some o→(V3.drew.putObj (P+5) (.deferred none)).heap[g]?=some o:=fun hg h=>(World.putObj_heap_other hg).trans h
  have g1:=k4 (by omega) hF3
  have g2:=k4 (by omega) hT3
  have g3:=k4 (by omega) hI3
  go_wp2
  unfold Calm bodyPostM
  refine⟨by simp,.inl ⟨_,_,rfl,run_takeDeferred hd3,?_⟩⟩
  have HB9:Hid (Below w.heap.size w (V3.drew.putObj (P+5) (.deferred none))):=by
   have h1:=((HKh.out.mono (S':=fun x=>x<P) fun x _ hx=>by omega).trans HKV3.out).putObj (r:=P+5) (by show ¬ P+5<P;omega) (.deferred none)
   rw[HPP.out]
   exact HB6.out.trans (h1.below_of (fun _ h=>h) (by omega))
  have c0:=Za g1 0 rfl
  have c1:=Za g1 1 rfl
  have c2:=Za g1 2 rfl
  have c3:=Za g1 3 rfl
  have d0:=Za g2 0 rfl
  have d1:=Za g2 1 rfl
  have d2:=Za g2 2 rfl
  have d3:=Za g2 3 rfl
  have f0:=Za g3 0 rfl
  refine⟨.tuple #[bV (bAt bs r),bV (bAt bs r),.bool false],?_,r,r,false,rfl,HPA.out,HB9.out⟩
  rw[HQ0.out]
  simp[results,Tryz.f182,go_sem,c0,c1,c2,c3,d0,d1,d2,d3,f0]
 case stop=>
  rintro cd k W hk ⟨rfl,HA,h1,h2,h3,HK⟩ hdef
  obtain⟨q0,hq0⟩:∃ q,bAt bs k=q:=⟨_,rfl⟩
  obtain⟨q1,hq1⟩:∃ q,bAt bs (k+1)=q:=⟨_,rfl⟩
  have HQ0:=Lib.hid hq0
  have HQ1:=Lib.hid hq1
  rw[hq0] at h1
  rw[hq1] at h2
  obtain⟨⟨s0,t0⟩,u0,v0⟩:=q0
  obtain⟨⟨s1,t1⟩,u1,v1⟩:=q1
  have HKh:=Lib.hid HK
  have k4:∀ {g:Nat} {o:Obj},g≠P+5→W.heap[g]?=some o→(W.putObj (P+5) (.deferred none)).heap[g]?=some o:=fun hg h=>(World.putObj_heap_other hg).trans h
  have g1:=k4 (by omega) h1
  have g2:=k4 (by omega) h2
  have g3:=k4 (by omega) h3
  clear HK hq0 hq1
  gi_wp2
  unfold Calm bodyPostM
  refine⟨by simp,.inl ⟨_,_,rfl,run_takeDeferred hdef,?_⟩⟩
  have HB9:Hid (Below w.heap.size w (W.putObj (P+5) (.deferred none))):=by
   have h1:=HKh.out.putObj (r:=P+5) (by show ¬ P+5<P;omega) (.deferred none)
   rw[HPP.out]
   exact HB6.out.trans (h1.below_of (fun _ h=>h) (by omega))
  have c0:=Za g1 0 rfl
  have c1:=Za g1 1 rfl
  have c2:=Za g1 2 rfl
  have c3:=Za g1 3 rfl
  have d0:=Za g2 0 rfl
  have d1:=Za g2 1 rfl
  have d2:=Za g2 2 rfl
  have d3:=Za g2 3 rfl
  have f0:=Za g3 0 rfl
  refine⟨.tuple #[bV (bAt bs k),bV (bAt bs (k+1)),.bool true],?_,k,k+1,true,rfl,HA,HB9.out⟩
  rw[HQ0.out,HQ1.out]
  simp[results,Tryz.f182,go_sem,c0,c1,c2,c3,d0,d1,d2,d3,f0]
end Go.Proofs.YtmpaflidennnoaaGreatDoor
namespace Go.Proofs.YtmpaflidennnoaaGreatDoor
open Go.RowKit Go.Shelf
attribute [local go_sem ↓] Go.wp_at_zero Go.wp_at_succ
def LimB (bs:List BB):Prop:=∀ x ∈ bs,(x.1.1.size≤1000000∧x.1.2.size≤1000000)∧(x.2.1.size≤1000000∧x.2.2.size≤1000000)
def Zgb (bs:List BB) (ps:List PP):Prop:=CurveP bs∧ps.all (Zm 300)=true
def Zlq (bs:List BB) (ps:List PP) (w:World) (e:Ending) (w':World):Prop:=
 ((Zgb bs ps∧e=.returned (.int .i64 0))∨(¬ Zgb bs ps∧e=.returned (.int .i64 2)))∧Below w.heap.size w w'
theorem Zf2 {v v2:Value} {bs:List BB} {ps:List PP} {w:World} (hv:BL w v bs) (hz:LimB bs) (hv2:PL w v2 ps) (hz2:LimP ps) (hD:DetV w) (hT:Tabs w) :
  Calls Tryz.prog 181 #[v,v2] w (Zlq bs ps w):=by
 have HC:=Lib.hid (ZdV hv hz hD hT)
 have HV2:=Lib.hid hv2
 have HZ2:=Lib.hid hz2
 clear hv hz hD hT hv2 hz2
 go_enter Tryz.func181,Tryz.ntmps181
 go_wp2_with fail
 refine HC.out.mono ?_
 rintro e w2 ⟨n,rfl,h,hb⟩
 have HB2:=Lib.hid hb
 rcases h with ⟨h,rfl⟩ | ⟨h,rfl⟩
 ·have HR:=Lib.hid h
  obtain⟨q,hq⟩:∃ q,ps.all (Zm 300)=q:=⟨_,rfl⟩
  have HS:=Lib.hid (Zgg 300 (by decide) (HV2.out.after hb (Nat.le_refl _)) HZ2.out)
  rw[hq] at HS
  have HQ:=Lib.hid hq
  clear hb h hq HC HV2 HZ2
  go_wp2_with fail
  refine HS.out.mono ?_
  rintro e w3 ⟨rfl,hb⟩
  have HB3:=Lib.hid (HB2.out.trans (hb.mono HB2.out.size))
  clear hb HS
  cases q
  ·go_wp2
   go_ret
   exact⟨.inr ⟨fun hc=>(by have:=hc.2;rw[HQ.out] at this;cases this),rfl⟩,HB3.out⟩
  ·go_wp2
   go_ret
   exact⟨.inl ⟨⟨HR.out,HQ.out⟩,rfl⟩,HB3.out⟩
 ·have HR:=Lib.hid h
  clear hb h HC HV2 HZ2
  go_wp2
  go_ret
  exact⟨.inr ⟨fun hc=>HR.out hc.1,rfl⟩,HB2.out⟩
end Go.Proofs.YtmpaflidennnoaaGreatDoor
namespace Go.Proofs.YtmpaflidennnoaaGreatDoor
open Go.RowKit
section
variable {P:Program} {ops:Array Oper} {Q:Exit→Act→World→Prop} {md:Region.Mode} {S:World→Prop}
def Zci (P:Program) (ops:Array Oper) (Q:Exit→Act→World→Prop) (S:World→Prop) (fl:Nat) (tl:List (Bool×Nat)):List (Bool×Nat)→Act→World→Prop
 | [],a,w=>∃ o,ops[fl]?=some o∧Region.wanted o (yielded ops a.tmps)=true∧o.wp P a w (fun a' w'=>S w'∧Zap P ops Q S (fun _=>false) tl a' w') Q
 | (true,i)::ks,a,w=>∃ o v,ops[i]?=some o∧YieldsIf P ops S o v a∧Zci P ops Q S fl tl ks (a.put o.dst v) w
 | (false,i)::ks,a,w=>(∃ o,ops[fl]?=some o∧Region.wanted o (yielded ops a.tmps)=true∧o.wp P a w (fun a' w'=>S w'∧Zap P ops Q S (fun _=>false) ((false,i)::(ks++tl)) a' w') Q)∧
   ∃ o,ops[i]?=some o∧Region.wanted o (yielded ops a.tmps)=true∧o.wp P a w (fun a' w'=>S w'∧Zci P ops Q S fl tl ks a' w') Q
def Zcv (md:Region.Mode) (ops:Array Oper) (fl:Nat) (tl:List (Bool×Nat)):List (Bool×Nat)→Array Bool→Bool
 | [],listed=>decide (Region.ready md ops listed=[fl]) && ZcN md ops (fun _=>false) tl (listed.setIfInBounds fl true)
 | (true,k)::ks,listed=>(Region.ready md ops listed).contains k && Region.free md ops listed k && Zcv md ops fl tl ks (listed.setIfInBounds k true)
 | (false,k)::ks,listed=>(Region.ready md ops listed).contains k && (Region.ready md ops listed).all (fun j=>decide (j=k) || decide (j=fl)) && ZcN md ops (fun _=>false) ((false,k)::(ks++tl)) (listed.setIfInBounds fl true) && Zcv md ops fl tl ks (listed.setIfInBounds k true)
theorem ZeQ {i:Nat} {o:Oper} {K:Act→World→Prop} {a:Act} {w:World} (h0:ops[i]?=some o) (hw:Region.wanted o (yielded ops a.tmps)=true) (h:o.wp P a w K Q):wpOp P ops Q i K a w:=by
 unfold wpOp
 simp only[h0]
 simp only[hw,if_true]
 exact .inl h
theorem ZcY (hsel:Region.noSelect ops=true) (hQ:∀ c a o v w,Q (.panic c) (a.put o v) w→Q (.panic c) a w) {fl:Nat} {tl:List (Bool×Nat)} :
  ∀ (ks:List (Bool×Nat)) (listed:Array Bool) (a:Act) (w:World),Zcv md ops fl tl ks listed=true→S w→Zci P ops Q S fl tl ks a w→wpJ P md ops Q S (fun _=>false) ((ks++tl).length+1) listed a w
 | [],listed,a,w,hB,hS,h=>by
  simp only[Zcv,Bool.and_eq_true,decide_eq_true_eq] at hB
  obtain⟨hr,hr2⟩:=hB
  obtain⟨o,h0,hw,h⟩:=h
  refine⟨fun h1=>(by rw[hr] at h1;cases h1),fun i hi=>?_⟩
  rw[hr] at hi
  obtain rfl:i=fl:=by simpa using hi
  exact ZeQ h0 hw (Oper.wp_mono (fun a' w' h'=>⟨.inr h'.1,ZbF hsel hQ (fun _ _=>rfl) tl _ a' w' hr2 (.inl h'.1) h'.2⟩) h)
 | (true,k)::ks,listed,a,w,hB,hS,h=>by
  simp only[Zcv,Bool.and_eq_true] at hB
  obtain⟨⟨hr,hf⟩,hB'⟩:=hB
  obtain⟨o,v,h0,hy,hrest⟩:=h
  have ih:=ZcY hsel hQ ks (listed.setIfInBounds k true) (a.put o.dst v) w hB' hS hrest
  rw[List.cons_append,List.length_cons]
  exact ZdE h0 hsel (fun c a w=>hQ c a o.dst v w) (fun j hj _=>by cases hj) rfl ((ks++tl).length+1) listed a w (Region.free_spec h0 hf) (by simpa using hr) hy hS ih
 | (false,k)::ks,listed,a,w,hB,hS,h=>by
  simp only[Zcv,Bool.and_eq_true] at hB
  obtain⟨⟨⟨hr,hall⟩,hB1⟩,hB2⟩:=hB
  obtain⟨⟨of,hf0,hfw,hf⟩,o,h0,hw,h⟩:=h
  refine⟨fun h1=>(by rw[h1] at hr;simp at hr),fun i hi=>?_⟩
  rw[List.all_eq_true] at hall
  have hik:=hall i hi
  simp only[Bool.or_eq_true,decide_eq_true_eq] at hik
  by_cases e:i=k
  ·subst e
   exact ZeQ h0 hw (Oper.wp_mono (fun a' w' h'=>⟨.inr h'.1,ZcY hsel hQ ks _ a' w' hB2 h'.1 h'.2⟩) h)
  ·have e2:i=fl:=by
    rcases hik with h | h
    ·exact absurd h e
    ·exact h
   subst e2
   exact ZeQ hf0 hfw (Oper.wp_mono (fun a' w' h'=>⟨.inr h'.1,ZbF hsel hQ (fun _ _=>rfl) ((false,k)::(ks++tl)) _ a' w' hB1 (.inl h'.1) h'.2⟩) hf)
def Zjy (l:List Oper) (fl:Nat) (tl ks:List (Bool×Nat)):Bool:=
 Region.noSelect l.toArray && decide ((ks++tl).length+1=l.length) && Zcv .any l.toArray fl tl ks (Array.replicate l.toArray.size false) && ZbM l.toArray
theorem Zjb {id:Nat} {a:Act} {w:World} {l:List Oper} (fl:Nat) (tl ks:List (Bool×Nat)) (S:World→Prop) (hm:P.follows .mixedOrders=true)
  (hB:Zjy l fl tl ks=true) (hQ:∀ c a o v w,Q (.panic c) (a.put o v) w→Q (.panic c) a w) (hS:S w.drew)
  (H:Zci P l.toArray Q S fl tl ks a w.drew):(Code.region id l.toArray true).wp P Q a w:=by
 simp only[Zjy,Bool.and_eq_true,decide_eq_true_eq] at hB
 obtain⟨⟨⟨hsel,hn⟩,hf⟩,_⟩:=hB
 have:=ZaT _ _ _ _ (ZcY hsel hQ ks _ a w.drew hf hS H)
 rw[hn] at this
 exact wp_region_any hm (by simpa using this)
theorem Zda {fl i:Nat} {tl:List (Bool×Nat)} {o:Oper} {ks:List (Bool×Nat)} {a:Act} {w:World} (v:Value) (ho:ops[i]?=some o) (hw:Region.wanted o (yielded ops a.tmps)=true) (hv:∀ w,S w→(execOp a.eval o).run P w=.ok (.value v) w)
  (h:Zci P ops Q S fl tl ks (a.put o.dst v) w):Zci P ops Q S fl tl ((true,i)::ks) a w:=⟨o,v,ho,.inl ⟨hw,hv⟩,h⟩
theorem Zbq {fl i:Nat} {tl:List (Bool×Nat)} {o of:Oper} {ks:List (Bool×Nat)} {a:Act} {w:World} (hof:ops[fl]?=some of) (hwf:Region.wanted of (yielded ops a.tmps)=true) (ho:ops[i]?=some o) (hw:Region.wanted o (yielded ops a.tmps)=true)
  (hf:∀ K:Act→World→Prop,(∀ a' w',S w'→Zap P ops Q S (fun _=>false) ((false,i)::(ks++tl)) a' w'→K a' w')→of.wp P a w K Q)
  (h:∀ K:Act→World→Prop,(∀ a' w',S w'→Zci P ops Q S fl tl ks a' w'→K a' w')→o.wp P a w K Q):Zci P ops Q S fl tl ((false,i)::ks) a w:=
 ⟨⟨of,hof,hwf,hf _ fun _ _ h1 h2=>⟨h1,h2⟩⟩,o,ho,hw,h _ fun _ _ h1 h2=>⟨h1,h2⟩⟩
theorem Zkx {fl:Nat} {tl:List (Bool×Nat)} {of:Oper} {a:Act} {w:World} (hof:ops[fl]?=some of) (hwf:Region.wanted of (yielded ops a.tmps)=true)
  (hf:∀ K:Act→World→Prop,(∀ a' w',S w'→Zap P ops Q S (fun _=>false) tl a' w'→K a' w')→of.wp P a w K Q):Zci P ops Q S fl tl [] a w:=
 ⟨of,hof,hwf,hf _ fun _ _ h1 h2=>⟨h1,h2⟩⟩
end
end Go.Proofs.YtmpaflidennnoaaGreatDoor
