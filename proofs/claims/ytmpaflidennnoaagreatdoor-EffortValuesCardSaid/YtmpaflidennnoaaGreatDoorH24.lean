/- The parts ESpots, EPlan, EBegin, EEmpty, EffH, EGreedy1. -/
import Derived.Test.YtmpaflidennnoaaGreatDoorH23
import Derived.Deep.OwnRows
set_option maxRecDepth 100000
set_option maxHeartbeats 4000000
set_option linter.unusedVariables false
set_option linter.unusedSimpArgs false
namespace Go.Proofs.YtmpaflidennnoaaGreatDoor
open Go.RowKit Go.Shelf
attribute [local go_sem ↓] Go.wp_at_zero Go.wp_at_succ
attribute [local go_sem] Oper.semAt_some
def Zbq (t:TaskP) (p:List (List Int)) (j:Nat):Bool:=decide (0<ZaK t p (j/t.sites.length))
def ZaC (t:TaskP) (p:List (List Int)):List Nat:=pick (Zbq t p) (p.length*t.sites.length)
def ZcE (t:TaskP) (p:List (List Int)) (k:Nat):Int×Int:=((((ZaC t p).getD k 0/t.sites.length:Nat):Int),(((ZaC t p).getD k 0 % t.sites.length:Nat):Int))
structure SpotF (t:TaskP) (p:List (List Int)) (T N Bs b hb ho hc pb po pc:Nat) (gq gp gc:Nat->Nat) (w:World):Prop where
 box:w.cell? ⟨Bs,0,none⟩=some (.pointer (some ⟨b,0,none⟩))
 w1:w.cell? ⟨b,1,none⟩=some (.slice (some ⟨hb,ho,none⟩) T hc)
 w3:w.cell? ⟨b,3,none⟩=some (.slice (some ⟨pb,po,none⟩) T pc)
 hour:∀ u,u<T->w.cell? ⟨hb,ho+u,none⟩=some (.int .i64 (eH t u))
 plan:∀ u,u<T->w.cell? ⟨pb,po+u,none⟩=some (.slice (some ⟨gq u,gp u,none⟩) N (gc u))/\N<=gc u/\gc u<=9223372036854775807/\∀ i,i<N->w.cell? ⟨gq u,gp u+i,none⟩=some (.int .i64 (pN p u i))
theorem Zlc {t:TaskP} {p:List (List Int)} {T N Bs b hb ho hc pb po pc:Nat} {gq gp gc:Nat->Nat} {S:Nat->Prop} {w0:World} (hT:p.length=T) (hN:t.sites.length=N) (hN24:1<=N/\N<=24) (hT8:T<=8) (hhc:T<=hc/\hc<=9223372036854775807) (hpc:T<=pc/\pc<=9223372036854775807)
  (hF:∀ V,Keeps S w0 V->SpotF t p T N Bs b hb ho hc pb po pc gq gp gc V) (hH:∀ u,u<T->0<=eH t u/\eH t u<=48) (hP:∀ u i,u<T->i<N->0<=pN p u i/\pN p u i<=48) :
  Iter Tryz.prog 160 #[.pointer (some ⟨Bs,0,none⟩)] (fun k=>#[spV (ZcE t p k).1 (ZcE t p k).2]) (ZaC t p).length S (fun _=>True) w0:=by
 intro n l J Jx W hK hJ hJx hY h0
 have HFF:Hid (∀ V,Keeps S W V->SpotF t p T N Bs b hb ho hc pb po pc gq gp gc V):=fun V hV=>hF V (hK.trans hV)
 have HY:=Zpe hY
 have HJ:=Zpe hJ
 have HH:=Zpe hH
 have HP:=Zpe hP
 have HTL:=Zpe hT
 have HNL:=Zpe hN
 clear hF hY hJ hK hH hP
 have F0:=HFF.out W (Keeps.refl _ _)
 have a0:=F0.box
 have a1:=F0.w3
 obtain⟨hN1,hN2⟩:=hN24
 clear F0 hT hN
 refine callsIn_of_wp Tryz.func160 rfl trivial ?_ rfl
 simp only[Tryz.ntmps160,Nat.reduceAdd,Nat.reduceSub,Zpd]
 gi_wp2
 clear a0 a1
 gi_loopw [14] (fun iv wr=>∃ u:Nat,iv=.int .i64 u/\u<=T/\J (pick (Zbq t p) (u*N)).length wr/\Hid (Keeps S W wr)) (fun iv _=>T-(intOf iv).toNat)
 case atStart=>exact⟨0,rfl,ZoD _,by rw[Nat.zero_mul];exact h0,Keeps.refl _ _⟩
 case round=>
  obtain⟨u,rfl,hu,hJs,HN⟩:=hrel
  have F1:=HFF.out wr HN.out
  have a0:=F1.box
  have a1:=F1.w1
  by_cases hlt:u<T
  ·obtain⟨b0,b1,b2,b3⟩:=F1.plan u hlt
   have b4:=F1.hour u hlt
   have HR:Hid (∀ V,Keeps S W V->V.cell? ⟨pb,po+u,none⟩=some (.slice (some ⟨gq u,gp u,none⟩) N (gc u))/\∀ i,i<N->V.cell? ⟨gq u,gp u+i,none⟩=some (.int .i64 (pN p u i))):=fun V hV=>by
    obtain⟨c0,_,_,c1⟩:=(HFF.out V hV).plan u hlt
    exact⟨c0,c1⟩
   have hpu:=fun i hi=>HP.out u i hlt hi
   have hhu:=HH.out u hlt
   have HPU:=Zpe hpu
   obtain⟨q,hq⟩:=Zpg (gq u)
   obtain⟨o,ho'⟩:=Zpg (gp u)
   obtain⟨c,hc'⟩:=Zpg (gc u)
   obtain⟨h,hh⟩:=Zpg (eH t u)
   rw[hq,ho',hc'] at b0 HR
   rw[hc'] at b1 b2
   rw[hh] at b4 hhu
   have HHU:=Zpe hh
   have i0':(0:Int)<=(u:Int):=Za
   have i1':(u:Int)<(T:Int):=Za
   clear b3 hpu hq ho' hc' hh F1
   gi_wp2_with fail
   clear a0 a1 b0 b4
   gi_loopw [5,29] (fun va vi wv=>∃ i:Nat,vi=.int .i64 i/\i<=N/\va=.int .i64 (h-ZZ p u i)/\wv=wr) (fun _ vi _=>N-(intOf vi).toNat)
   case atStart=>exact⟨0,rfl,ZoD _,by simp[ZZ],rfl⟩
   case round=>
    obtain⟨i,rfl,hi,rfl,rfl⟩:=hrel
    by_cases hlt2:i<N
    ·have c1:=(HR.out _ HN.out).2 i hlt2
     have hs1:=Zex HPU.out i hi
     have hs2:=HPU.out i hlt2
     obtain⟨m,hm⟩:=Zpg (pN p u i)
     rw[hm] at c1 hs2
     have hi24:i<=24:=Za
     have e1:Hid (IntKind.i64.wrap (h-ZZ p u i-m)=h-ZZ p u (i+1)):=by
      show _=_
      rw[Zo1 _ Za]
      show h-ZZ p u i-m=h-(ZZ p u i+pN p u i)
      rw[hm]
      omega
     have e1':=e1.out
     clear hm hs1 hs2
     have j0':(0:Int)<=(i:Int):=Za
     have j1':(i:Int)<(N:Int):=Za
     gi_wp2
     go_roundw
     case rel=>exact⟨i+1,by go_num,Za,by first | rfl | rw[e1.out],by first | rfl | trivial⟩
     case measure=>exact Zj
    ·obtain rfl:i=N:=Za
     have hlf:h-ZZ p u i=ZaK t p u:=by
      unfold ZaK
      rw[HHU.out,HNL.out]
     obtain⟨lf,hlf2⟩:=Zpg (h-ZZ p u i)
     rw[hlf2] at hlf ⊢
     have HLF:=Zpe hlf
     clear hlf hlf2
     gi_wp2_with fail
     gi_loopw [39] (fun vi wv=>∃ j:Nat,vi=.int .i64 j/\j<=i/\J (pick (Zbq t p) (u*i+j)).length wv/\Hid (Keeps S W wv)) (fun vi _=>i-(intOf vi).toNat)
     case atStart=>exact⟨0,rfl,ZoD _,hJs,HN⟩
     case round=>
      clear hJs HN HR
      obtain⟨j,rfl,hj,hJs,HN⟩:=hrel
      by_cases hlt3:j<i
      ·have hdiv:(u*i+j)/i=u/\(u*i+j) % i=j:=by
        have h0:0<i:=Za
        rw[ZoM u i]
        exact⟨by rw[Nat.mul_add_div h0,Nat.div_eq_of_lt hlt3,Nat.add_zero],by rw[Nat.mul_add_mod,Nat.mod_eq_of_lt hlt3]⟩
       by_cases hl:0<lf
       ·have hfree:Zbq t p (u*i+j)=true:=by
         unfold Zbq
         rw[HNL.out,hdiv.1,<- HLF.out]
         exact decide_eq_true hl
        have hlt4:u*i+j<p.length*t.sites.length:=by
         rw[HTL.out,HNL.out]
         have h1:(u+1)*i<=T*i:=ZoS i hlt
         rw[Nat.add_mul,Nat.one_mul] at h1
         omega
        obtain⟨hk,hat⟩:=Zhk hlt4 hfree
        have hy:=HY.out _ _ hk hJs
        unfold ZcE ZaC at hy
        rw[hat,HNL.out,hdiv.1,hdiv.2] at hy
        dsimp only at hy
        obtain⟨fn,tmps,assign,body,hy,hRR⟩:=hy
        have HPY:Hid ((pick (Zbq t p) (u*i+(j+1))).length=(pick (Zbq t p) (u*i+j)).length+1):=by
         show _=_
         rw[<- Nat.add_assoc,Zf3 hfree]
         simp
        have HKK:=Zpe hk
        clear hfree hlt4 hat hJs hk hdiv
        gi_wp2
        refine⟨(fun h=>by cases h),hRR.mono ?_⟩
        rintro e W3 (⟨rfl,hJ3,hk3⟩ | ⟨rfl,hJx3⟩)
        ·have HN3:=Zpe (HN.out.trans hk3)
         rw[<- HPY.out] at hJ3
         clear hk3 hy hRR
         gi_wp2
         go_roundw
         case rel=>exact⟨j+1,by go_num,Za,hJ3,HN3⟩
         case measure=>exact Zj
        ·clear hy hRR
         gi_wp2
         refine Zor (results_none rfl _ _ _) rfl ?_
         exact⟨⟨_,rfl⟩,.inr ⟨_,HKK.out,hJx3⟩⟩
       ·have hfree:Zbq t p (u*i+j)=false:=by
         unfold Zbq
         rw[HNL.out,hdiv.1,<- HLF.out]
         exact decide_eq_false hl
        have hJ3:=hJs
        rw[show (pick (Zbq t p) (u*i+j)).length=(pick (Zbq t p) (u*i+(j+1))).length by rw[<- Nat.add_assoc,ZjY hfree]] at hJ3
        clear hJs hfree hdiv
        have hfn:∀ k,Fence.wide.fn k:=fun _=>trivial
        gi_wp2
        all_goals try (refine⟨(fun _ h=>by cases h),?_⟩)
        all_goals try gi_wp2
        go_roundw
        case rel=>exact⟨j+1,by go_num,Za,hJ3,HN⟩
        case measure=>exact Zj
      ·obtain rfl:j=i:=Za
       have hJ3:=hJs
       rw[show u*j+j=(u+1)*j by rw[Nat.add_mul,Nat.one_mul]] at hJ3
       clear hJs
       gi_wp2
       go_roundw
       case rel=>exact⟨u+1,by go_num,Za,hJ3,HN⟩
       case measure=>exact Zj
  ·obtain rfl:u=T:=Za
   have hlen:(pick (Zbq t p) (u*N)).length=(ZaC t p).length:=by unfold ZaC;rw[HTL.out,HNL.out]
   rw[hlen] at hJs
   gi_wp2
   go_end0
   exact⟨⟨_,rfl⟩,.inl hJs⟩
end Go.Proofs.YtmpaflidennnoaaGreatDoor
namespace Go.Proofs.YtmpaflidennnoaaGreatDoor
open Go.RowKit Go.Shelf
attribute [local go_sem ↓] Go.wp_at_zero Go.wp_at_succ
def ints (l:List Int):List Value:=l.map fun x=>.int .i64 x
theorem ZdD {l:List Int} {j:Nat} (h:j<l.length):(ints l)[j]?=some (.int .i64 (l.getD j 0)):=by
 simp[ints,List.getD,h]
theorem Zcp (l:List Int):(ints l).length=l.length:=by simp[ints]
def ZeJ (N:Nat) (gq gc:Nat->Nat) (n:Nat):List Value:=(List.range n).map fun u=>.slice (some ⟨gq u,0,none⟩) N (gc u)
theorem Zhy {N:Nat} {gq gc:Nat->Nat} {n u:Nat} (h:u<n):(ZeJ N gq gc n)[u]?=some (.slice (some ⟨gq u,0,none⟩) N (gc u)):=by simp[ZeJ,h]
theorem Zae {w w':World} {base:Nat} {e:TypeId} {size:Nat} {v:Value} {n:Nat} {xs:List Value} (h:w.ownsRow base e size v n xs) (hk:∀ g,v.ownBlock=some g->w'.heap[g]?=w.heap[g]?):w'.ownsRow base e size v n xs:=by
 obtain⟨h1,h2⟩:=h
 refine⟨h1,?_⟩
 rcases h2 with h2 | ⟨g,cap,cur,hv,hb,hg,rest⟩
 ·exact .inl h2
 ·exact .inr ⟨g,cap,cur,hv,hb,(hk g (by rw[hv];rfl)).trans hg,rest⟩
structure PlanO (p:List (List Int)) (N m b:Nat) (pv:Value) (gq gc:Nat->Nat) (w:World):Prop where
 outer:w.ownsRow (m+1) 23 1 pv p.length (ZeJ N gq gc p.length)
 row:∀ u (h:u<p.length),w.ownsRow (m+1) 3 1 (.slice (some ⟨gq u,0,none⟩) N (gc u)) N (ints p[u])
 inj:∀ u v,u<p.length->v<p.length->gq u=gq v->u=v
 out:pv.ownBlock≠some b/\∀ u,u<p.length->gq u≠b/\pv.ownBlock≠some (gq u)
section
variable {p:List (List Int)} {N m b:Nat} {pv:Value} {gq gc:Nat->Nat} {w w':World}
theorem PlanO.len (h:PlanO p N m b pv gq gc w) {u:Nat} (hu:u<p.length):p[u].length=N:=by
 have:=(h.row u hu).1
 rw[Zcp] at this
 omega
theorem PlanO.gt (h:PlanO p N m b pv gq gc w) {u:Nat} (hu:u<p.length):m<gq u/\gq u<w.heap.size:=by
 have:=ZoE (h.row u hu) (gq u) rfl
 omega
theorem PlanO.keep (h:PlanO p N m b pv gq gc w) (hk:Keeps (NotM m) w w'):PlanO p N m b pv gq gc w':=by
 have key:∀ {e:TypeId} {size:Nat} {v:Value} {n:Nat} {xs:List Value},w.ownsRow (m+1) e size v n xs->w'.ownsRow (m+1) e size v n xs:=fun hr=>by
  refine Zae hr fun g hg=>?_
  have:=ZoE hr g hg
  exact hk.block g this.2 (by show g≠m;omega)
 exact⟨key h.outer,fun u hu=>key (h.row u hu),h.inj,h.out⟩
theorem PlanO.toW (h:PlanO p N m b pv gq gc w) (h0:0<p.length):∃ pb pc,pv=.slice (some ⟨pb,0,none⟩) p.length pc/\PlanW p N m pv pb 0 pc gq (fun _=>0) gc w:=by
 obtain⟨h1,h2⟩:=id h.outer
 rcases h2 with ⟨_,h3⟩ | ⟨pb,pc,cur,hv,hb,hg,k1,k2,k3,k4⟩
 ·omega
 ·refine⟨pb,pc,hv,hv,⟨k1,k2⟩,fun u hu=>?_,Za,fun u hu=>?_⟩
  ·have ho:=h.outer
   rw[hv] at ho
   have c1:=World.ownsRow.cellAt ho u Za
   rw[Zhy hu] at c1
   rw[Nat.zero_add]
   obtain⟨r1,r2⟩:=h.row u hu
   rcases r2 with ⟨r3,_⟩ | ⟨g',cap',cur',hv',_,_,l1,l2,_,_⟩
   ·cases r3
   ·injection hv' with _ _ e3
    subst e3
    refine⟨c1,l1,l2,fun i hi=>?_⟩
    have c2:=World.ownsRow.cellAt (h.row u hu) i Za
    rw[ZdD (by rw[h.len hu];exact hi)] at c2
    rw[Nat.zero_add,c2]
    unfold pN
    simp[List.getD,hu]
  ·have:=(h.gt hu).1
   omega
theorem PlanO.store (h:PlanO p N m b pv gq gc w) {u i:Nat} (hu:u<p.length) (hi:i<N) (d:Int) {x:Int} (hx:x=pN p u i+d):PlanO (bump p u i d) N m b pv gq gc (w.setCell ⟨gq u,i,none⟩ (.int .i64 x)):=by
 subst hx
 have hl:=h.len hu
 have oth:∀ k,k≠gq u->(w.setCell ⟨gq u,i,none⟩ (.int .i64 (pN p u i+d))).heap[k]?=w.heap[k]?:=fun k hk=>Zos _ _ _ _ hk
 refine⟨?_,fun v hv=>?_,fun a c ha hc=>h.inj a c (by rwa [Zar] at ha) (by rwa [Zar] at hc),h.out.1,fun v hv=>h.out.2 v (by rwa [Zar] at hv)⟩
 ·rw[Zar]
  refine Zae h.outer fun g hg=>oth g fun e=>?_
  exact(h.out.2 u hu).2 (by rw[hg,e])
 ·have hv':v<p.length:=by rwa [Zar] at hv
  by_cases e:v=u
  ·subst e
   have hs:=World.ownsRow.stored (h.row v hu) i (.int .i64 (pN p v i+d))
   have e1:(ints p[v]).set i (.int .i64 (pN p v i+d))=ints (bump p v i d)[v]:=by
    refine List.ext_getElem (by simp[Zcp,Zf6]) fun j h1 h2=>?_
    have hj:j<p[v].length:=by simpa[Zcp] using h1
    simp only[List.getElem_set,ints,List.getElem_map,bump,List.getElem_modify]
    by_cases e2:i=j
    ·subst e2
     simp[pN,List.getD,hu,hj]
    ·simp[e2]
   rw[e1] at hs
   exact hs.1
  ·have e1:(bump p u i d)[v]=p[v]:=by
    simp only[bump,List.getElem_modify]
    rw[if_neg (fun h=>e h.symm)]
   rw[e1]
   refine Zae (h.row v hv') fun g hg=>oth g fun e2=>e (h.inj v u hv' hu ?_)
   have hg':gq v=g:=by simpa[Value.ownBlock] using hg
   rw[hg',e2]
end
theorem Zff:(Tryz.prog.info? 3).map (fun i=>(i.zero,i.size,i.bytes))=some (some (.int .i64 0),1,8):=Zb
theorem ZeL:(Tryz.prog.info? 23).map (fun i=>(i.zero,i.size,i.bytes))=some (some (.slice none 0 0),1,24):=Zb
theorem Zh5 (xs:List Int):∀ u ∈ ints xs,u.oneCell'=true:=by
 intro u hu
 obtain⟨x,_,rfl⟩:=List.mem_map.1 hu
 rfl
theorem Zll (b off cap:Nat) (xs:List Int) (w:World) (hne:0<xs.length) (hl:xs.length<=1000000) (hb:b<w.heap.size) (hc:∀ j,j<xs.length->w.cell? ⟨b,off+j,none⟩=some (.int .i64 (xs.getD j 0))) :
  Calls Tryz.prog 108 #[.slice (some ⟨b,off,none⟩) xs.length cap] w fun e w'=>
   ∃ g cap',e=.returned (.slice (some ⟨g,0,none⟩) xs.length cap')/\w'.ownsRow w.heap.size 3 1 (.slice (some ⟨g,0,none⟩) xs.length cap') xs.length (ints xs)/\Below w.heap.size w w':=by
 obtain⟨i0,hi,hz0,hz1,hz2⟩:=info_parts Zff
 have heq:=fun(w:World)=>Lib.run_eql_slice_nil (P:=Tryz.prog) w 23 3 (some ⟨b,off,none⟩) xs.length cap 0 0 Tryz.underlying23
 have HCA:Hid (∀ W,Below w.heap.size w W->∀ j u,(ints xs)[j]?=some u->W.cell? ((⟨b,off,none⟩:Addr).add j)=some u):=fun W hW j u hu=>by
  have hj:j<xs.length:=by
   have:=(ZoO.1 hu).1
   simpa[Zcp] using this
  rw[ZdD hj] at hu
  rw[Addr.add_lit,<- hu]
  exact(hW.cell (p:=⟨b,off+j,none⟩) hb).trans (hc j hj)
 have HB0:=(Zoq w.heap.size w).alloc Zpf (.cells #[] 3)
 have HC1:=HCA.out _ HB0
 have hml:=Zcp xs
 clear hc
 go_enter Tryz.func108,Tryz.ntmps108
 go_wp2_with (at_builtin;refine wpList_append_lies _ rfl (.tmp 5) (.tmp 6) 23 rfl w.heap.size 3 i0 (.int .i64 0) 1 8 Tryz.underlying23 hi hz0 hz1 hz2 rfl Zd _ 0 [] rfl (World.ownsRow_lit w #[] 0 Zpf (by simp[maxLen]) rfl) ⟨b,off,none⟩ xs.length cap (ints xs) rfl (by rw[hml,Zo2]) HC1 (Zh5 _) hne (by unfold maxLen;omega) Za Zc (w.heap.size+1) Zc ?_;intro g cap' w1 hown1 hgrow1 hat1 hlt1)
 have h0:0+xs.length=xs.length:=Za
 rw[h0] at hown1
 have HR:=Zpe hown1
 have HB:=Zpe (((Zoq w.heap.size w).alloc Zpf (.cells #[] 3)).grown hgrow1 Zc (fun k h=>by cases h;exact Nat.le_refl _))
 clear hown1 hgrow1 hat1
 go_wp2
 go_ret
 exact⟨g,cap',rfl,by simpa using HR.out,HB.out⟩
theorem PlanO.keepB {p:List (List Int)} {N m b:Nat} {pv:Value} {gq gc:Nat->Nat} {w w':World} (h:PlanO p N m b pv gq gc w) (hk:Keeps (fun x=>x≠b) w w'):PlanO p N m b pv gq gc w':=by
 refine⟨Zae h.outer fun g hg=>?_,fun u hu=>Zae (h.row u hu) fun g hg=>?_,h.inj,h.out⟩
 ·exact hk.block g (ZoE h.outer g hg).2 fun e=>h.out.1 (by rw[hg,e])
 ·have hg':gq u=g:=by simpa[Value.ownBlock] using hg
  exact hk.block g (ZoE (h.row u hu) g hg).2 fun e=>(h.out.2 u hu).1 (by rw[hg',e])
theorem Zix {w:World} {base base':Nat} {e:TypeId} {size:Nat} {v:Value} {n:Nat} {xs:List Value} (h:w.ownsRow base e size v n xs) (hb:base'<=base):w.ownsRow base' e size v n xs:=by
 obtain⟨h1,h2⟩:=h
 refine⟨h1,?_⟩
 rcases h2 with h2 | ⟨g,cap,cur,hv,hg,rest⟩
 ·exact .inl h2
 ·exact .inr ⟨g,cap,cur,hv,Zoz hb hg,rest⟩
theorem PlanO.snoc {p:List (List Int)} {N m b g cap:Nat} {pv pv':Value} {gq gc:Nat->Nat} {w w':World} {l:List Int} (h:PlanO p N m b pv gq gc w) (hr:w.ownsRow (m+1) 3 1 (.slice (some ⟨g,0,none⟩) N cap) N (ints l))
  (h1:g≠b) (h2:∀ u,u<p.length->gq u≠g) (h3:pv.ownBlock≠some g) (hb:b<w.heap.size) (ho:w'.ownsRow (m+1) 23 1 pv' (p.length+1) (ZeJ N gq gc p.length++[.slice (some ⟨g,0,none⟩) N cap])) (hg:w.grownBy w' pv.ownBlock)
  (hloc:pv'.ownBlock=pv.ownBlock\/∃ x,pv'.ownBlock=some x/\w.heap.size<=x) :
  PlanO (p++[l]) N m b pv' (fun u=>if u=p.length then g else gq u) (fun u=>if u=p.length then cap else gc u) w':=by
 have hgl:g<w.heap.size:=(ZoE hr g rfl).2
 have hpl:(p++[l]).length=p.length+1:=Zc
 refine⟨?_,fun u hu=>?_,fun u v hu hv=>?_,?_,fun u hu=>?_⟩
 ·rw[hpl]
  have e:ZeJ N (fun u=>if u=p.length then g else gq u) (fun u=>if u=p.length then cap else gc u) (p.length+1)=ZeJ N gq gc p.length++[.slice (some ⟨g,0,none⟩) N cap]:=by
   unfold ZeJ
   rw[List.range_succ,List.map_append]
   congr 1
   ·refine List.map_congr_left fun u hu=>?_
    have:u≠p.length:=by have:=List.mem_range.1 hu;omega
    simp[this]
   ·simp
  rw[e]
  exact ho
 ·by_cases e:u=p.length
  ·subst e
   simp only[if_true]
   rw[show (p++[l])[p.length]=l by simp]
   exact World.ownsRow.kept hr hg (.inr (by
    intro hc
    exact h3 hc.symm))
  ·have hu':u<p.length:=by rw[hpl] at hu;omega
   simp only[if_neg e]
   rw[show (p++[l])[u]=p[u] by rw[List.getElem_append_left hu']]
   exact World.ownsRow.kept (h.row u hu') hg (.inr fun hc=>(h.out.2 u hu').2 hc.symm)
 ·rw[hpl] at hu hv
  by_cases e1:u=p.length
  ·by_cases e2:v=p.length
   ·intro _;rw[e1,e2]
   ·simp only[e1,if_true,if_neg e2]
    intro hc
    exact Zo4 hc.symm (h2 v Za)
  ·by_cases e2:v=p.length
   ·simp only[e2,if_true,if_neg e1]
    intro hc
    exact Zo4 hc (h2 u Za)
   ·simp only[if_neg e1,if_neg e2]
    exact h.inj u v Za Za
 ·rcases hloc with hl | ⟨x,hl,hx⟩
  ·rw[hl];exact h.out.1
  ·rw[hl]
   intro e
   cases e
   omega
 ·rw[hpl] at hu
  have key:∀ y,y<w.heap.size->pv.ownBlock≠some y->pv'.ownBlock≠some y:=fun y hy hne=>by
   rcases hloc with hl | ⟨x,hl,hx⟩
   ·rw[hl];exact hne
   ·rw[hl]
    intro e
    cases e
    omega
  by_cases e:u=p.length
  ·simp only[e,if_true]
   exact⟨h1,key g hgl h3⟩
  ·simp only[if_neg e]
   exact⟨(h.out.2 u Za).1,key _ (h.gt Za).2 (h.out.2 u Za).2⟩
theorem Zdh (w:World) (v:Value) (T:TypeId):∀ j u,[v][j]?=some u->(w.alloc (.cells #[v] T)).cell? ((⟨w.heap.size,0,none⟩:Addr).add j)=some u:=by
 intro j u hj
 match j,hj with
 | 0,h=>
  obtain rfl:v=u:=by simpa using h
  rw[Addr.add_lit]
  exact ZK w _ T 0 rfl
 | j+1,h=>simp at h
def Zk0 (t:TaskP) (p:List (List Int)) (N:Nat) (sv hv rv:Value) (w:World) (e:Ending) (w':World):Prop:=
 ∃ b m pv gq gc,e=.returned (.pointer (some ⟨b,0,none⟩))/\WorkW t b m sv hv rv pv w'/\PlanO p N m b pv gq gc w'/\Memo w' m t 0/\w.heap.size<=m/\w.heap.size<=b/\Below w.heap.size w w'
def ZlX (t:TaskP) (p:List (List Int)) (N:Nat) (w:World) (e:Ending) (w':World):Prop:=
 ∃ b m sv hv rv pv gq gc,e=.returned (.pointer (some ⟨b,0,none⟩))/\WorkW t b m sv hv rv pv w'/\PlanO p N m b pv gq gc w'/\Memo w' m t 0/\w.heap.size<=m/\w.heap.size<=b/\Below w.heap.size w w'
theorem ZkQ {t:TaskP} {p:List (List Int)} {sv hv rv pv0:Value} {N:Nat} {w:World} (ht:TaskIn t sv hv rv w) (hp:IIL w pv0 p) (hpl:p.length<=8) (hN:1<=N/\N<=24) (hrow:∀ u (h:u<p.length),p[u].length=N) :
  Calls Tryz.prog 48 #[.agg #[sv,hv,rv],pv0] w (Zk0 t p N sv hv rv w):=by
 obtain⟨ps,cs,rfl,_⟩:=ht.sites.shape rfl
 obtain⟨ph,ch,rfl,_⟩:=ht.hours.shape rfl
 obtain⟨pr,cr,rfl,_⟩:=ht.rates.shape rfl
 obtain⟨T,hT⟩:=Zpg p.length
 obtain⟨pp,pc,rfl,hpc1,hpc2⟩:=hp.shape hT
 obtain⟨ns,hns⟩:=Zpg t.sites.length
 obtain⟨nh,hnh⟩:=Zpg t.hours.length
 obtain⟨nr,hnr⟩:=Zpg t.rates.length
 have HAT:Hid (∀ u,u<T->∃ b o q f c,pp=some ⟨b,o,none⟩/\∀ V,Below w.heap.size w V->V.cell? ⟨b,o+u,none⟩=some (.slice (some ⟨q,f,none⟩) N c)/\q<w.heap.size/\∀ j,j<N->V.cell? ⟨q,f+j,none⟩=some (.int .i64 ((p.getD u []).getD j 0))):=fun u hu=>by
  have hu':u<p.length:=by rw[hT];exact hu
  obtain⟨b,o,h1,h2,h3⟩:=hp.at IIL.stays hT Za
  obtain⟨v,h4,h5⟩:=h3 w (Zoq _ w) u hu'
  have hl:=hrow u hu'
  obtain⟨q,f,c,rfl,c1,c2,c3,c4⟩:=Zbm h5 (by rw[hl];omega)
  refine⟨b,o,q,f,c,h1,fun V hV=>⟨?_,c3,fun j hj=>?_⟩⟩
  ·rw[Zo2] at h4
   rw[<- hl]
   exact(hV.cell (p:=⟨b,o+u,none⟩) h2).trans h4
  ·have:=c4 j (by rw[hl];exact hj)
   unfold IntR at this
   rw[Zo2] at this
   rw[show (p.getD u []).getD j 0=p[u][j]'(by rw[hl];exact hj) by simp[List.getD,hu',hl,hj]]
   exact(hV.cell (p:=⟨q,f+j,none⟩) c3).trans this
 have HROW:Hid (∀ u,u<T->(p.getD u []).length=N):=fun u hu=>by
  have hu':u<p.length:=by rw[hT];exact hu
  rw[show p.getD u []=p[u] by simp[List.getD,hu']]
  exact hrow u hu'
 have HTI:=Zpe ht
 have HPT:=Zpe hT
 have hT8:T<=8:=by rw[<- hT];exact hpl
 rw[hns,hnh,hnr] at HTI ⊢
 obtain⟨G,hG⟩:=Zpg w.heap.size
 obtain⟨w3,hw3⟩:=Zpg (((w.alloc (.cells #[.slice ps ns cs,.slice ph nh ch,.slice pr nr cr] 26)).alloc (.map #[] 0)).alloc (.cells #[.slice ps ns cs,.slice ph nh ch,.slice pr nr cr,.slice none 0 0,.map (some (G+1))] 95))
 have hb3:Below w.heap.size w w3:=by rw[<- hw3];exact(((Zoq _ w).alloc Zpf _).alloc Zc _).alloc (by simp<;>omega) _
 have hs3:w3.heap.size=G+3:=by rw[<- hw3,<- hG];simp
 have hm3:w3.heap[G+1]?=some (.map #[] 0):=by
  rw[<- hw3,<- hG]
  have h1:((w.alloc (.cells #[.slice ps ns cs,.slice ph nh ch,.slice pr nr cr] 26)).alloc (.map #[] 0)).heap[w.heap.size+1]?=some (.map #[] 0):=by
   have:=Zot (w.alloc (.cells #[.slice ps ns cs,.slice ph nh ch,.slice pr nr cr] 26)) (.map #[] 0)
   rwa [ZoP] at this
  exact(ZoG _ _ _ Zc).trans h1
 have hw3b:w3.heap[G+1+1]?=some (.cells #[.slice ps ns cs,.slice ph nh ch,.slice pr nr cr,.slice none 0 0,.map (some (G+1))] 95):=by
  rw[<- hw3]
  have:=Zot ((w.alloc (.cells #[.slice ps ns cs,.slice ph nh ch,.slice pr nr cr] 26)).alloc (.map #[] 0)) (.cells #[.slice ps ns cs,.slice ph nh ch,.slice pr nr cr,.slice none 0 0,.map (some (G+1))] 95)
  rw[ZoP,ZoP,hG] at this
  exact this
 obtain⟨i0,hi,hz0,hz1,hz2⟩:=info_parts ZeL
 have HB3:=Zpe hb3
 have HM3:=Zpe hm3
 have HW3:=Zpe hw3b
 have HS3:=Zpe hs3
 have HG:=Zpe hG
 clear ht hp hT hpl hrow hns hnh hnr hb3 hm3 hw3b hs3
 have hmk:∀ (t:TypeId) (w:World),(Instr.makeMap t none).run Tryz.prog w=.ok (.map (some w.heap.size)) (w.alloc (.map #[] 0)):=fun _ _=>rfl
 go_enter Tryz.func48,Tryz.ntmps48
 go_wp2_with fail
 clear hmk hw3
 have HP0:Hid (PlanO (p.take 0) N (G+1) (G+1+1) (.slice none 0 0) (fun _=>0) (fun _=>0) w3):=⟨World.ownsRow_nil _ _ _ _,fun u hu=>by simp at hu,fun u v hu=>by simp at hu,by simp[Value.ownBlock],fun u hu=>by simp at hu⟩
 go_loopw [14] (fun iv wr=>∃ (k:Nat) (pv:Value) (gq gc:Nat->Nat),iv=.int .i64 k/\k<=T/\Hid (PlanO (p.take k) N (G+1) (G+1+1) pv gq gc wr)/\Hid (wr.heap[G+1+1]?=some (.cells #[.slice ps ns cs,.slice ph nh ch,.slice pr nr cr,pv,.map (some (G+1))] 95))/\Hid (wr.heap[G+1]?=some (.map #[] 0))/\Zo8 w wr) (fun iv _=>T-(intOf iv).toNat)
 case atStart=>exact⟨0,.slice none 0 0,_,_,rfl,ZoD _,HP0,HW3,HM3,HB3⟩
 case round=>
  obtain⟨k,pv,gq,gc,rfl,hk,HP,HW,HM,HB⟩:=hrel
  clear HP0 HW3 HM3 HB3
  by_cases hlt:k<T
  ·obtain⟨b,o,q,f,c,rfl,hat⟩:=HAT.out k hlt
   have HRK:=Zpe (HROW.out k hlt)
   obtain⟨l,hl⟩:=Zpg (p.getD k [])
   rw[hl] at hat HRK
   have HLL:=Zpe hl
   have hlN:=HRK.out
   have HATW:=Zpe hat
   obtain⟨e0,_,_⟩:=hat wr HB.out
   have hkl:(p.take k).length=k:=by rw[Zo6,HPT.out];omega
   have HKL:=Zpe hkl
   obtain⟨pq,pn,pcap,hpv⟩:∃ p n c,pv=.slice p n c:=by
    obtain⟨_,h2⟩:=HP.out.outer
    rcases h2 with ⟨h2,_⟩ | ⟨g,cap,_,h2,_⟩
    ·exact⟨_,_,_,h2⟩
    ·exact⟨_,_,_,h2⟩
   subst hpv
   have i0':(0:Int)<=(k:Int):=Za
   have i1':(k:Int)<(T:Int):=Za
   clear hat hl hkl
   go_wp2_with fail
   refine ZP [(1,0),(1,1),(1,2),(1,3),(1,4),(1,5),(0,6),(0,7),(0,8),(2,9),(2,10),(0,11)] (fun V=>V.heap[G+1+1]?=some (.cells #[.slice ps ns cs,.slice ph nh ch,.slice pr nr cr,.slice pq pn pcap,.map (some (G+1))] 95)) (fun i=>i==9 || i==10 || i==11)
    Zb Zb (fun j hj=>by have h:12<=j:=hj;simp;omega) Zi HW.out ?_
   have HPd:Hid (PlanO (p.take k) N (G+1) (G+1+1) (.slice pq pn pcap) gq gc wr.drew):=HP.out.keep (Keeps.refl _ wr).drew
   have HBd:Hid (Below w.heap.size w wr.drew):=HB.out.drew
   have HMd:Hid (wr.drew.heap[G+1]?=some (.map #[] 0)):=HM.out
   have HWd:Hid (wr.drew.heap[G+1+1]?=some (.cells #[.slice ps ns cs,.slice ph nh ch,.slice pr nr cr,.slice pq pn pcap,.map (some (G+1))] 95)):=HW.out
   obtain⟨V,hV⟩:=Zpg wr.drew
   rw[hV] at HPd HBd HMd HWd ⊢
   clear hV HP HB HM HW e0
   iterate 6
    refine Zx _ rfl rfl (fun w' hS=>by have d3:=Zn hS 3 (v:=.slice pq pn pcap) rfl;exact Ze) ?_
    simp only[Act.put,Zl]
   have hcl:=Zll q f c l V (by rw[hlN];exact hN.1) (by rw[hlN];omega) (Zox (HATW.out V HBd.out).2.1 HBd.out.size) (fun j hj=>(HATW.out V HBd.out).2.2 j (by rw[<- hlN];exact hj))
   rw[hlN] at hcl
   refine Zy 108 _ rfl rfl Zf ?_
   refine hcl.mono ?_
   rintro e V1 ⟨g,cap,rfl,hown,hb⟩
   have HW1:Hid (V1.heap[G+1+1]?=some (.cells #[.slice ps ns cs,.slice ph nh ch,.slice pr nr cr,.slice pq pn pcap,.map (some (G+1))] 95)):=(hb.block _ (Zo9 HWd.out)).trans HWd.out
   have HM1:Hid (V1.heap[G+1]?=some (.map #[] 0)):=(hb.block _ (Zo9 HMd.out)).trans HMd.out
   have HP1:Hid (PlanO (p.take k) N (G+1) (G+1+1) (.slice pq pn pcap) gq gc V1):=HPd.out.keep (hb.keepsS _)
   have HB1:Zo8 w V1:=HBd.out.trans (hb.mono HBd.out.size)
   have hVs:G+1+1<V.heap.size:=(Zo9 HWd.out)
   have HO1:Hid (V1.ownsRow V.heap.size 3 1 (.slice (some ⟨g,0,none⟩) N cap) N (ints l)):=hown
   have hgV:V.heap.size<=g:=(ZoE hown g rfl).1
   have hgo:∀ u,u<(p.take k).length->gq u≠g:=fun u hu e=>by have:=(HPd.out.gt hu).2;omega
   have hgp:(Value.slice pq pn pcap).ownBlock≠some g:=fun e=>by have:=(ZoE HPd.out.outer g e).2;omega
   have HGO:=Zpe (Zo5 hgo hgp)
   refine .inl ⟨_,rfl,HW1.out,?_⟩
   clear hb hown hgo hgp HWd HMd HPd HBd hcl
   simp only[Act.put,Zl]
   refine ZB rfl rfl fun K hK=>?_
   go_simp
   obtain⟨H,hH⟩:=Zpg V1.heap.size
   obtain⟨V2,hV2⟩:=Zpg (V1.alloc (.cells #[.slice (some ⟨g,0,none⟩) N cap] 23))
   have hk2:Below V1.heap.size V1 V2:=by rw[<- hV2];exact(Zoq _ V1).alloc Zpf _
   have hnews:=Zdh V1 (.slice (some ⟨g,0,none⟩) N cap) 23
   rw[hV2,hH] at hnews
   have HW2:Hid (V2.heap[G+1+1]?=some (.cells #[.slice ps ns cs,.slice ph nh ch,.slice pr nr cr,.slice pq pn pcap,.map (some (G+1))] 95)):=(hk2.block _ (Zo9 HW1.out)).trans HW1.out
   have HM2:Hid (V2.heap[G+1]?=some (.map #[] 0)):=(hk2.block _ (Zo9 HM1.out)).trans HM1.out
   have HP2:Hid (PlanO (p.take k) N (G+1) (G+1+1) (.slice pq pn pcap) gq gc V2):=HP1.out.keep (hk2.keepsS _)
   have HB2:Zo8 w V2:=HB1.out.trans (hk2.mono HB1.out.size)
   have HO2:Hid (V2.ownsRow (G+1+1) 3 1 (.slice (some ⟨g,0,none⟩) N cap) N (ints l)):=Zix (Zae HO1.out fun x hx=>hk2.block x (ZoE HO1.out x hx).2) Za
   try rw[hH]
   try rw[hV2]
   refine hK _ _ (.inr HW2.out) ?_
   clear hK K hV2 hk2 hH HW1 HM1 HP1 HB1 HO1
   have hown2:=HP2.out.outer
   have h2s:G+1+1<V2.heap.size:=(Zo9 HW2.out)
   refine ZB rfl rfl fun K hK=>?_
   refine wp_append_lies _ (.tmp 22) (.tmp 25) 29 rfl (G+1+1) 23 i0 (.slice none 0 0) 1 24 Tryz.underlying29 hi hz0 hz1 hz2 rfl Zd (.slice pq pn pcap) _ _ rfl hown2 ⟨H,0,none⟩ 1 1 [.slice (some ⟨g,0,none⟩) N cap] rfl rfl hnews (by simp[Value.oneCell']) Zd (by rw[HKL.out];unfold maxLen;omega) (by rw[HKL.out];omega) Za V2.heap.size rfl ?_
   intro g2 cap2 V3 hown3 hgrow hor hlt3
   have hsn:=HP2.out.snoc HO2.out Za HGO.out.1 HGO.out.2 h2s hown3 hgrow (by
    rcases hor with h | h
    ·exact .inl (by rw[h];rfl)
    ·exact .inr ⟨g2,rfl,Za⟩)
   have hne:(Value.slice pq pn pcap).ownBlock≠some (G+1+1):=HP2.out.out.1
   have hne2:(Value.slice pq pn pcap).ownBlock≠some (G+1):=fun e=>by have:=(ZoE HP2.out.outer _ e).1;omega
   have HW3:Hid (V3.heap[G+1+1]?=some (.cells #[.slice ps ns cs,.slice ph nh ch,.slice pr nr cr,.slice pq pn pcap,.map (some (G+1))] 95)):=(hgrow.block _ Za (fun e=>hne e.symm)).trans HW2.out
   have HM3:Hid (V3.heap[G+1]?=some (.map #[] 0)):=(hgrow.block _ Za (fun e=>hne2 e.symm)).trans HM2.out
   have HB3:Zo8 w V3:=HB2.out.grown hgrow (by have:=HB2.out.size;omega) (fun x hx=>by have:=(ZoE HP2.out.outer x hx).1;have:=HG.out;omega)
   rw[HKL.out] at hsn hown3
   have hsn':PlanO (p.take (k+1)) N (G+1) (G+1+1) (.slice (some ⟨g2,0,none⟩) (k+1) cap2) (fun u=>if u=k then g else gq u) (fun u=>if u=k then cap else gc u) V3:=by
    have e1:p.take (k+1)=p.take k++[l]:=by
     have hkp:k<p.length:=by rw[HPT.out];exact hlt
     rw[List.take_add_one,ZoL hkp,<- HLL.out]
     simp[List.getD,hkp]
    rw[e1]
    exact hsn
   have HSN:=Zpe hsn'
   refine hK _ _ (.inr HW3.out) ?_
   clear hK K hsn hsn' hown3 hgrow hor hlt3 hne hne2 hown2 HW2 HM2 HP2 HB2 HO2 hnews
   simp only[Act.put,Zl]
   rw[HKL.out]
   iterate 2
    refine ZcZ _ rfl rfl (fun w' _=>Zf) ?_
    simp only[Act.put,Zl]
   have c3:=Zn HW3.out 3 (v:=.slice pq pn pcap) rfl
   have f3:=Zo HW3.out 3
   refine ZB rfl rfl fun K hK=>?_
   go_simp
   obtain⟨V4,hV4⟩:=Zpg (V3.setCell ⟨G+1+1,3,none⟩ (.slice (some ⟨g2,0,none⟩) (k+1) cap2))
   have hk4:Keeps (fun x=>x≠G+1+1) V3 V4:=by rw[<- hV4];exact(Keeps.refl _ V3).setCell Zc _
   have HW4:Hid (V4.heap[G+1+1]?=some (.cells #[.slice ps ns cs,.slice ph nh ch,.slice pr nr cr,.slice (some ⟨g2,0,none⟩) (k+1) cap2,.map (some (G+1))] 95)):=by rw[<- hV4];exact Zov HW3.out _
   have HM4:Hid (V4.heap[G+1]?=some (.map #[] 0)):=hk4.at HM3.out Za
   have HB4:Zo8 w V4:=by rw[<- hV4];exact HB3.out.setCell (p:=⟨G+1+1,3,none⟩) (by have:=HG.out;show w.heap.size<=G+1+1;omega) _
   have HP4:=Zpe (HSN.out.keepB hk4)
   rw[hV4]
   refine hK _ _ (.inl rfl) ?_
   clear hK K hV4 hk4 c3 f3 HW3 HM3 HB3 HSN
   refine ZD ?_
   go_wp2
   go_roundw
   case rel=>exact⟨k+1,_,_,_,by go_num,Za,HP4,HW4,HM4,HB4⟩
   case measure=>exact Zj
  ·obtain rfl:k=T:=Za
   have HPF:Hid (PlanO p N (G+1) (G+1+1) pv gq gc wr):=by
    have h:=HP.out
    rw[<- HPT.out,List.take_length] at h
    exact h
   go_wp2
   refine Zor (v:=.pointer (some ⟨G+1+1,0,none⟩)) (by simp[results,Tryz.f48,go_sem]) rfl ⟨G+1+1,G+1,pv,gq,gc,rfl,⟨HW.out,Za,w,HTI.out,HB.out,by have:=HG.out;omega⟩,HPF.out,?_,by have:=HG.out;omega,by have:=HG.out;omega,HB.out⟩
   exact⟨#[],0,HM.out,⟨Zc,Go.MapKept.stamped_empty 0,Zc⟩,Nat.le_refl _,Zc⟩
theorem Zde {t:TaskP} {p:List (List Int)} {sv hv rv pv0:Value} {N:Nat} {w:World} (ht:TaskIn t sv hv rv w) (hp:IIL w pv0 p) (hpl:p.length<=8) (hN:1<=N/\N<=24) (hrow:∀ u (h:u<p.length),p[u].length=N) :
  Calls Tryz.prog 48 #[.agg #[sv,hv,rv],pv0] w (ZlX t p N w):=
 (ZkQ ht hp hpl hN hrow).mono fun _ _ ⟨b,m,pv,gq,gc,h⟩=>⟨b,m,sv,hv,rv,pv,gq,gc,h⟩
theorem PlanO.toIIL {p:List (List Int)} {N m b:Nat} {pv:Value} {gq gc:Nat->Nat} {w:World} (h:PlanO p N m b pv gq gc w):IIL w pv p:=by
 obtain⟨h1,h2⟩:=id h.outer
 rcases h2 with ⟨h2,h3⟩ | ⟨pb,pc,cur,hv,hb,hg,k1,k2,k3,k4⟩
 ·refine⟨none,0,by rw[h2,h3],Za,Zd,fun hne=>Zo4 (List.length_eq_zero_iff.1 h3) hne⟩
 ·refine⟨some ⟨pb,0,none⟩,pc,hv,k1,k2,fun _=>⟨pb,0,rfl,(Zo9 hg),fun j hj=>?_⟩⟩
  have ho:=h.outer
  rw[hv] at ho
  have c1:=World.ownsRow.cellAt ho j Za
  rw[Zhy hj] at c1
  refine⟨_,by rw[Nat.zero_add,Zo2];exact c1,?_⟩
  have hl:=h.len hj
  obtain⟨r1,r2⟩:=id (h.row j hj)
  rcases r2 with ⟨r3,_⟩ | ⟨g',cap',cur',hv',_,hg',l1,l2,_,_⟩
  ·cases r3
  ·injection hv' with e1 e2 e3
   subst e3
   refine⟨some ⟨gq j,0,none⟩,gc j,by rw[hl],Za,l2,fun _=>⟨gq j,0,rfl,(ZoE (h.row j hj) _ rfl).2,fun i hi=>?_⟩⟩
   have c2:=World.ownsRow.cellAt (h.row j hj) i Za
   rw[ZdD hi] at c2
   unfold IntR
   rw[Nat.zero_add,Zo2,c2]
   simp[List.getD,hi]
theorem ZlD (N:Nat):ints (List.replicate N 0)=(madeCells #[(.int .i64 0:Value)] N).toList:=by
 rw[toList_madeCells_one]
 simp[ints]
theorem ZhU (t:TaskP) {k:Nat} (hk:k<t.hours.length):(Z1 t).take (k+1)=(Z1 t).take k++[List.replicate t.sites.length 0]:=by
 have hl:k<(Z1 t).length:=by simpa[Z1] using hk
 rw[List.take_add_one,ZoL hl]
 simp[Z1]
theorem ZlI {t:TaskP} {sv hv rv:Value} {w:World} (ht:TaskIn t sv hv rv w) (hT:t.hours.length<=8) (hN:1<=t.sites.length/\t.sites.length<=24) :
  Calls Tryz.prog 49 #[.agg #[sv,hv,rv]] w (fun e w'=>∃ pv,e=.returned pv/\IIL w' pv (Z1 t)/\Below w.heap.size w w'):=by
 obtain⟨ps,cs,rfl,_⟩:=ht.sites.shape rfl
 obtain⟨ph,ch,rfl,_⟩:=ht.hours.shape rfl
 obtain⟨pr,cr,rfl,_⟩:=ht.rates.shape rfl
 obtain⟨N,hN'⟩:=Zpg t.sites.length
 obtain⟨T,hT'⟩:=Zpg t.hours.length
 obtain⟨nr,hnr⟩:=Zpg t.rates.length
 have HNN:=Zpe hN'
 have HTT:=Zpe hT'
 have hpl:(Z1 t).length=T:=by simp[Z1,hT']
 have HPT:=Zpe hpl
 rw[hN'] at hN ⊢
 rw[hT'] at hT ⊢
 rw[hnr]
 clear ht hN' hT' hnr hpl
 obtain⟨G,hG⟩:=Zpg w.heap.size
 obtain⟨w1,hw1⟩:=Zpg (w.alloc (.cells #[.slice ps N cs,.slice ph T ch,.slice pr nr cr] 26))
 have HB1:Zo8 w w1:=by rw[<- hw1];exact(Zoq _ w).alloc Zpf _
 have hb1:w1.heap[G]?=some (.cells #[.slice ps N cs,.slice ph T ch,.slice pr nr cr] 26):=by rw[<- hw1,<- hG];exact Zot w _
 have HC1:=Zpe hb1
 have hs1:w1.heap.size=G+1:=by rw[<- hw1,<- hG];simp
 have c0:=Zn hb1 0 (v:=.slice ps N cs) rfl
 have c1:=Zn hb1 1 (v:=.slice ph T ch) rfl
 obtain⟨i0,hi,hz0,hz1,hz2⟩:=info_parts ZeL
 have HGG:=Zpe hG
 go_enter Tryz.func49,Tryz.ntmps49
 go_wp2_with fail
 have HP0:Hid (PlanO ((Z1 t).take 0) N G G (.slice none 0 0) (fun _=>0) (fun _=>0) w1):=⟨World.ownsRow_nil _ _ _ _,fun u hu=>by simp at hu,fun u v hu=>by simp at hu,by simp[Value.ownBlock],fun u hu=>by simp at hu⟩
 clear c0 c1 hb1 hw1 hs1 hG
 go_loopw [3,7] (fun pvv iv wr=>∃ (k:Nat) (gq gc:Nat->Nat),iv=.int .i64 k/\k<=T/\Hid (PlanO ((Z1 t).take k) N G G pvv gq gc wr)/\Hid (wr.heap[G]?=some (.cells #[.slice ps N cs,.slice ph T ch,.slice pr nr cr] 26))/\Zo8 w wr) (fun _ iv _=>T-(intOf iv).toNat)
 case atStart=>exact⟨0,_,_,rfl,ZoD _,HP0,HC1,HB1⟩
 case round=>
  obtain⟨k,gq,gc,rfl,hk,HP,HW,HB⟩:=hrel
  clear HP0 HC1 HB1
  by_cases hlt:k<T
  ·have hkl:((Z1 t).take k).length=k:=by rw[Zo6,HPT.out];omega
   have HKL:=Zpe hkl
   have c0:=Zn HW.out 0 (v:=.slice ps N cs) rfl
   have c1:=Zn HW.out 1 (v:=.slice ph T ch) rfl
   have hmk:(Instr.makeSlice 23 (.int .i64 N) (.int .i64 N)).run Tryz.prog wr=.ok (.slice (some ⟨wr.heap.size,0,none⟩) N N) (wr.alloc (.cells (madeCells #[(.int .i64 0:Value)] N) 3)):=
    run_make_row' _ _ _ _ Tryz.underlying23 Zff rfl .i64 .i64 N Za Za wr
   clear hkl
   obtain⟨pq,pn,pcap,rfl⟩:∃ p n c,u3=Value.slice p n c:=by
    obtain⟨_,h2⟩:=HP.out.outer
    rcases h2 with ⟨h2,_⟩ | ⟨g,cap,_,h2,_⟩
    ·exact⟨_,_,_,h2⟩
    ·exact⟨_,_,_,h2⟩
   obtain⟨q,hq⟩:=Zpg wr.heap.size
   obtain⟨V2,hV2⟩:=Zpg ((wr.alloc (.cells (madeCells #[(.int .i64 0:Value)] N) 3)).alloc (.cells #[.slice (some ⟨q,0,none⟩) N N] 23))
   have hal:Below wr.heap.size wr V2:=by rw[<- hV2];exact((Zoq _ wr).alloc Zpf _).alloc Zc _
   have hGw:G<wr.heap.size:=(Zo9 HW.out)
   have hnews:=Zdh (wr.alloc (.cells (madeCells #[(.int .i64 0:Value)] N) 3)) (.slice (some ⟨q,0,none⟩) N N) 23
   rw[hV2,ZoP,hq] at hnews
   have hrow:V2.ownsRow (G+1) 3 1 (.slice (some ⟨q,0,none⟩) N N) N (ints (List.replicate N 0)):=by
    have h1:=World.ownsRow_lit (e:=3) (size:=1) (base:=G+1) wr (madeCells #[(.int .i64 0:Value)] N) N Za (by unfold maxLen;omega) (by rw[size_madeCells,Zo2])
    rw[<- ZlD,hq] at h1
    rw[<- hV2]
    exact Zae h1 fun x hx=>ZoG _ _ _ (ZoE h1 x hx).2
   have HROW:=Zpe hrow
   have HW2:Hid (V2.heap[G]?=some (.cells #[.slice ps N cs,.slice ph T ch,.slice pr nr cr] 26)):=(hal.block _ hGw).trans HW.out
   have HP2:Hid (PlanO ((Z1 t).take k) N G G (.slice pq pn pcap) gq gc V2):=HP.out.keep (hal.keepsS _)
   have HB2:Zo8 w V2:=HB.out.trans (hal.mono HB.out.size)
   have hgo:∀ u,u<((Z1 t).take k).length->gq u≠q:=fun u hu e=>by have:=(HP.out.gt hu).2;omega
   have hgp:(Value.slice pq pn pcap).ownBlock≠some q:=fun e=>by have:=(ZoE HP.out.outer q e).2;omega
   have HGO:=Zpe (Zo5 hgo hgp)
   have hown2:=HP2.out.outer
   have h2s:G+1<=V2.heap.size/\G<V2.heap.size/\G<q:=by have:=hal.size;omega
   have hmk2:(Instr.makeSlice 23 (.int .i64 N) (.int .i64 N)).run Tryz.prog wr=.ok (.slice (some ⟨q,0,none⟩) N N) (wr.alloc (.cells (madeCells #[(.int .i64 0:Value)] N) 3)):=by rw[hmk,hq]
   have HSZ:=Zpe hq
   clear hmk hrow hgo hgp hal hGw HW HP HB
   go_wp2_with (at_builtin;go_loud (refine wpList_append_lies _ rfl (.tmp 9) (.tmp 14) 29 rfl (G+1) 23 i0 (.slice none 0 0) 1 24 Tryz.underlying29 hi hz0 hz1 hz2 rfl Zd (.slice pq pn pcap) _ _ rfl hown2 ⟨q+1,0,none⟩ 1 1 [.slice (some ⟨q,0,none⟩) N N] rfl rfl hnews (by simp[Value.oneCell']) Zd (by rw[HKL.out];unfold maxLen;omega) (by rw[HKL.out];omega) Za V2.heap.size rfl ?_);intro g2 cap2 V3 hown3 hgrow hor hlt3)
   have hsn:=HP2.out.snoc HROW.out Za HGO.out.1 HGO.out.2 h2s.2.1 hown3 hgrow (by
    rcases hor with h | h
    ·exact .inl (by rw[h];rfl)
    ·exact .inr ⟨g2,rfl,Za⟩)
   have hne:(Value.slice pq pn pcap).ownBlock≠some G:=HP2.out.out.1
   have HW3:Hid (V3.heap[G]?=some (.cells #[.slice ps N cs,.slice ph T ch,.slice pr nr cr] 26)):=(hgrow.block _ Za (fun e=>hne e.symm)).trans HW2.out
   have HB3:Zo8 w V3:=HB2.out.grown hgrow (by have:=HB2.out.size;omega) (fun x hx=>by have:=(ZoE HP2.out.outer x hx).1;have:=HGG.out;omega)
   rw[HKL.out] at hsn
   rw[<- HNN.out,<- ZhU t (by rw[HTT.out];exact hlt),HNN.out] at hsn
   have HSN:=Zpe hsn
   have hmin:min k (Z1 t).length=k:=by rw[HPT.out];omega
   clear hsn hne hown3 hgrow hor hlt3
   try rw[hmin]
   go_roundw
   case rel=>exact⟨k+1,_,_,by go_num,Za,HSN,HW3,HB3⟩
   case measure=>exact Zj
  ·obtain rfl:k=T:=Za
   have HPF:=Zpe (IIL.stay2 HP.out.toIIL (Zoq wr.heap.size wr) Zpf)
   have e:(Z1 t).take k=Z1 t:=by rw[<- HPT.out,List.take_length]
   rw[e] at HPF
   go_wp2
   exact Zor (by simp[results,Tryz.f49,go_sem]) rfl ⟨_,rfl,HPF.out,HB.out⟩
theorem ZcB {p:List (List Int)} {u i:Nat} (d:Int) (hu:u<p.length) (hi:i<p[u].length) (v:Nat):∀ n,ZZ (bump p u i d) v n=ZZ p v n+if v=u/\i<n then d else 0
 | 0=>by simp[ZZ]
 | n+1=>by
  unfold ZZ
  rw[ZcB d hu hi v n]
  by_cases hv:v=u
  ·subst hv
   by_cases hn:i=n
   ·subst hn
    rw[ZdX hu hi,if_neg Za,if_pos ⟨rfl,Za⟩]
    omega
   ·rw[Zcd (.inr fun e=>hn e.symm)]
    by_cases hl:i<n
    ·rw[if_pos ⟨rfl,hl⟩,if_pos ⟨rfl,Za⟩];omega
    ·rw[if_neg Za,if_neg Za];omega
  ·rw[Zcd (.inl hv),if_neg (fun h=>hv h.1),if_neg (fun h=>hv h.1)]
   omega
theorem Zkm {t:TaskP} {p:List (List Int)} {u i:Nat} (d:Int) (hu:u<p.length) (hi:i<p[u].length) (hN:i<t.sites.length) (v:Nat):ZaK t (bump p u i d) v=ZaK t p v-if v=u then d else 0:=by
 unfold ZaK
 rw[ZcB d hu hi]
 by_cases hv:v=u
 ·rw[if_pos ⟨hv,hN⟩,if_pos hv];omega
 ·rw[if_neg (fun h=>hv h.1),if_neg hv];omega
def Zch (t:TaskP) (p:List (List Int)):Nat->Nat
 | 0=>0
 | n+1=>Zch t p n+(ZaK t p n).toNat
theorem ZfJ {t:TaskP} {p:List (List Int)} {u i:Nat} (hu:u<p.length) (hi:i<p[u].length) (hN:i<t.sites.length) (hf:0<ZaK t p u):∀ n,Zch t (bump p u i 1) n+(if u<n then 1 else 0)=Zch t p n
 | 0=>by simp[Zch]
 | n+1=>by
  have h:=ZfJ hu hi hN hf n
  unfold Zch
  rw[Zkm 1 hu hi hN n]
  by_cases hv:n=u
  ·subst hv
   rw[if_neg Za] at h
   rw[if_pos rfl,if_pos Za]
   omega
  ·rw[if_neg hv]
   by_cases hl:u<n
   ·rw[if_pos hl] at h
    rw[if_pos Za]
    omega
   ·rw[if_neg hl] at h
    rw[if_neg Za]
    omega
theorem Zev {p:List (List Int)} {u:Nat} : ∀ {n:Nat},(∀ i,i<n->0<=pN p u i)->0<=ZZ p u n/\∀ i,i<n->pN p u i<=ZZ p u n
 | 0,_=>⟨Int.le_refl _,fun i hi=>Zo4 hi (ZoQ _)⟩
 | n+1,h=>by
  obtain⟨h1,h2⟩:=Zev (n:=n) fun i hi=>h i Za
  have h3:=h n Za
  unfold ZZ
  refine⟨Za,fun i hi=>?_⟩
  rcases Zow i n with h4 | h4
  ·have:=h2 i h4
   omega
  ·obtain rfl:i=n:=Za
   omega
theorem Zhr {t:TaskP} {p:List (List Int)} (ok:PlanOk t p):∀ n,n<=p.length->Zch t p n<=48*n
 | 0,_=>Nat.le_refl _
 | n+1,h=>by
  have h1:=Zhr ok n Za
  have h2:=(Zev fun i hi=>(ok.hour n i Za hi).1.1:0<=ZZ p n t.sites.length/\_).1
  have h3:=(ok.task.team n (by rw[ok.task.rates,<- ok.teams];omega)).1
  unfold Zch ZaK
  omega
theorem Zlq {t:TaskP} {p:List (List Int)} {u i:Nat} (h:0<Zay t p u i):rR t u i≠0:=fun e=>by
 unfold Zay at h
 rw[e,Rat.add_zero,Rat.sub_self,Rat.mul_zero] at h
 exact Zo4 h (Rat.lt_irrefl)
theorem PlanOk.bump {t:TaskP} {p:List (List Int)} (ok:PlanOk t p) {u i:Nat} (hu:u<p.length) (hi:i<t.sites.length) (hf:0<ZaK t p u) (hr:rR t u i≠0):PlanOk t (bump p u i 1):=by
 have hi':i<p[u].length:=by rw[ok.row u hu];exact hi
 have h48:=(ok.task.team u (by rw[ok.task.rates,<- ok.teams];exact hu)).1
 refine⟨ok.task,by rw[Zar];exact ok.teams,fun v hv=>?_,fun v j hv hj=>?_,fun v hv=>?_⟩
 ·rw[Zf6 hv]
  exact ok.row v (by simpa[Go.Proofs.YtmpaflidennnoaaGreatDoor.bump] using hv)
 ·rw[Zar] at hv
  have h0:=ok.hour v j hv hj
  by_cases e:v=u/\j=i
  ·obtain⟨rfl,rfl⟩:=e
   have hs:=(Zev fun i hi=>(ok.hour v i hu hi).1.1:0<=ZZ p v t.sites.length/\_).2 j hj
   unfold ZaK at hf
   unfold Zbj at h0 ⊢
   rw[ZdX hu hi']
   exact⟨Za,fun _=>hr⟩
  ·unfold Zbj
   rw[Zcd (by by_cases h:v=u;exact .inr fun h2=>e ⟨h,h2⟩;exact .inl h)]
   exact h0
 ·rw[Zar] at hv
  have h0:=ok.sum v hv
  rw[ZcB 1 hu hi']
  split
  ·rename_i h
   obtain⟨rfl,_⟩:=h
   unfold ZaK at hf
   omega
  ·omega
theorem Zj7 (t:TaskP) (u i:Nat):pN (Z1 t) u i=0:=by
 unfold pN Z1
 by_cases hu:u<t.hours.length
 ·by_cases hi:i<t.sites.length
  ·simp[List.getD,hu,hi]
  ·simp[List.getD,hu,hi]
 ·simp[List.getD,hu]
theorem ZiW (t:TaskP) (u:Nat):∀ n,ZZ (Z1 t) u n=0
 | 0=>rfl
 | n+1=>by
  unfold ZZ
  rw[ZiW t u n,Zj7]
  rfl
theorem Zja {t:TaskP} (ok:TaskOk t):PlanOk t (Z1 t):=by
 refine⟨ok,by simp[Z1],fun u hu=>by simp[Z1],fun u i hu hi=>?_,fun u hu=>?_⟩
 ·unfold Zbj
  rw[Zj7]
  exact⟨Zd,fun h=>Zo4 h Zd⟩
 ·rw[ZiW]
  exact(ok.team u (by rw[ok.rates];simpa[Z1] using hu)).1.1
abbrev wkO (b:Nat):Obj:=.cells #[.pointer (some ⟨b,0,none⟩)] 89
theorem ZjP {t:TaskP} {p:List (List Int)} {b m n Bs:Nat} {sv hv rv pv:Value} {pb po pc:Nat} {gq gp gc:Nat->Nat} {w:World} (h:WorkW t b m sv hv rv pv w) (hP:PlanW p t.sites.length m pv pb po pc gq gp gc w) (hm:Memo w m t n) (hn:n<=900000000000) (ok:TaskOk t) (inn:Zbu t p)
  (hB:w.heap[Bs]?=some (wkO b)) {u i:Nat} (hu:u<t.rates.length) (hi:i<t.sites.length) :
  Calls Tryz.prog 112 #[spV u i,.pointer (some ⟨Bs,0,none⟩)] w (Zd9 (Zay t p u i) m t (n+4) w):=by
 have hk0:∀ o1 o2,Keeps (NotM m) w ((w.alloc o1).alloc o2):=fun o1 o2=>((Keeps.refl _ w).alloc o1).alloc o2
 obtain⟨G,hG⟩:=Zpg w.heap.size
 obtain⟨V,hV⟩:=Zpg ((w.alloc (spO u i)).alloc (pObj Zpa Zpa))
 have hkV:Keeps (NotM m) w V:=by rw[<- hV];exact((Keeps.refl _ w).alloc _).alloc _
 have hbV:Below w.heap.size w V:=by rw[<- hV];exact((Zoq _ w).alloc Zpf _).alloc Zc _
 have hmG:m<G:=by have:=hm.lt;omega
 have HB:=Zpe (Zn ((hkV.at hB (by
  intro e
  subst e
  obtain⟨es,_,h1,_⟩:=hm
  rw[h1] at hB
  cases hB)):V.heap[Bs]?=some (wkO b)) 0 (v:=.pointer (some ⟨b,0,none⟩)) rfl)
 have b0:=HB.out
 have g0:V.heap[G]?=some (spO u i):=by
  rw[<- hV,<- hG]
  exact(ZoG _ _ _ Zc).trans (Zot w _)
 have g1:V.heap[G+1]?=some (pObj Zpa Zpa):=by
  rw[<- hV,<- hG]
  have:=Zot (w.alloc (spO u i)) (pObj Zpa Zpa)
  rwa [ZoP] at this
 have a0:=Zn g0 0 (v:=.int .i64 u) rfl
 have a1:=Zn g0 1 (v:=.int .i64 i) rfl
 have HC:=Zpe (ZhH (h.keep hkV) (hP.keep hkV) (hm.step hbV) hn ok inn hu hi)
 have HG1:=Zpe g1
 have HKV:=Zpe hkV
 clear h hP hm hB hbV hkV g0 g1 hk0
 go_enter Tryz.func112,Tryz.ntmps112
 go_wp2_with fail
 refine HC.out.mono ?_
 rintro e w2 ⟨x,y,rfl,hx,hk,hm⟩
 have h1:w2.heap[G+1]?=some (pObj Zpa Zpa):=hk.at HG1.out (by show G+1≠m;omega)
 have H1:=Zpe h1
 have HX:=Zpe hx
 have HM:=Zpe hm
 have HK:=Zpe hk
 have c0:=Zn h1 0 (v:=.string Zpa) rfl
 have c1:=Zn h1 1 (v:=.string Zpa) rfl
 have f0:=Zo h1 0
 have f1:=Zo h1 1
 clear h1 hx hm hk HC a0 a1 b0
 go_wp2
 obtain⟨q0,q1⟩:=Zu H1.out (.string x) (.string y)
 refine Zor (v:=pV x y) (by simp[results,Tryz.f112,go_sem,q0,q1]) rfl ⟨x,y,rfl,HX.out,?_,HM.out.stay ((Zos _ _ _ _ (by show m≠G+1;omega)).trans (Zos _ _ _ _ (by show m≠G+1;omega)))⟩
 exact(HKV.out.trans HK.out).via (S':=fun c=>c≠G+1) (((Keeps.refl _ w2).setCell Zc _).setCell Zc _) (fun c hc _=>by show c≠G+1;omega)
end Go.Proofs.YtmpaflidennnoaaGreatDoor
