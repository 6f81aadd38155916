/- The parts StepsF, Pairs, Rise, StepsIn, CheckCurve, Halv, Sum. -/
import Derived.Test.YtmpaflidennnoaaGreatDoorH11
set_option maxRecDepth 100000
set_option maxHeartbeats 4000000
set_option linter.unusedVariables false
set_option linter.unusedSimpArgs false
namespace Go.Proofs.YtmpaflidennnoaaGreatDoor
open Go.RowKit
section
variable {F:Fence} {n:Nat} {P:Program} {ops:Array Oper} {Q:Exit->Act->World->Prop} {md:Region.Mode} {S:World->Prop} {bar:Nat->Bool}
def ZaF (P:Program) (ops:Array Oper) (S:World->Prop) (o:Oper) (v:Value) (a:Act):Prop:=YieldsIf P ops S o v a/\∀ w,o.about P w a.eval=none
theorem ZaF.wpOpIn {i:Nat} {o:Oper} {v:Value} {a:Act} (hro:F.round=none) (hi:ops[i]?=some o) (hy:ZaF P ops S o v a)
  {K:Act->World->Prop} {w:World} (hS:S w) (h:K (a.put o.dst v) w):wpOpIn F n P ops Q i K a w:=by
 unfold Go.wpOpIn
 simp only[hi]
 have hab:∀ f,o.about P w a.eval=some f->F.fn f:=fun f hf=>by rw[hy.2 w] at hf;cases hf
 rcases hy.1 with ⟨hw,hv⟩ | ⟨hw,rfl⟩
 ·simp only[hw,if_true,Oper.wpIn,hro,Oper.semAt_none,hv w hS,Oper.uponIn];exact⟨hab,h⟩
 ·simp only[hw,Bool.false_eq_true,if_false];exact⟨hab,h⟩
theorem ZaF.of_same {o:Oper} {v:Value} {a a':Act} (hy:ZaF P ops S o v a) (he:execOp a'.eval o=execOp a.eval o)
  (hw:Region.wanted o (yielded ops a'.tmps)=Region.wanted o (yielded ops a.tmps)) (hb:∀ w,o.about P w a'.eval=o.about P w a.eval):ZaF P ops S o v a':=
 ⟨hy.1.of_same he hw,fun w=>by rw[hb w];exact hy.2 w⟩
theorem Ziy {j:Nat} {oi oj:Oper} {v:Value} (hro:F.round=none) (hj:ops[j]?=some oj) (hap:oi.apart ops oj=true)
  (hsi:∀ cs b,oi.op≠.select cs b) (hsj:∀ cs b,oj.op≠.select cs b)
  (hQ:∀ c a w,Q (.panic c) (a.put oi.dst v) w->Q (.panic c) a w) {K:Act->World->Prop} {a:Act} {w:World}
  (hy:ZaF P ops S oi v a) (h:wpOpIn F n P ops Q j K (a.put oi.dst v) w) :
  wpOpIn F n P ops Q j (fun a' w'=>ZaF P ops S oi v a'/\K (a'.put oi.dst v) w') a w:=by
 obtain⟨h1,h2,h3⟩:=Oper.apart_spec hap
 have keep:∀ (a:Act),ZaF P ops S oi v a->∀ u,ZaF P ops S oi v (a.put oj.dst u):=fun a hy u=>
  hy.of_same (execOp_put oi hsi a oj.dst u h3) (wanted_put oi a oj.dst u h3) (fun w=>about_put oi w a oj.dst u h3)
 have keepD:∀ d,ZaF P ops S oi v { a with defers:=d::a.defers }:=fun d=>hy.of_same rfl rfl (fun _=>rfl)
 unfold wpOpIn at *
 simp only[hj] at *
 rw[wanted_put oj a oi.dst v h1,about_put oj w a oi.dst v h1] at h
 split
 ·rename_i hw
  simp only[hw,if_true] at h
  unfold Oper.wpIn at *
  rw[about_put oj w a oi.dst v h1] at h
  refine⟨h.1,?_⟩
  have h:=h.2
  rw[hro,Oper.semAt_none,execOp_put oj hsj a oi.dst v h1] at h
  rw[hro,Oper.semAt_none]
  generalize (execOp a.eval oj).run P w=r at *
  cases r with
  | ok x w'=>
   cases x<;>simp only[Oper.uponIn] at h ⊢
   case value u=>exact⟨keep a hy u,by rw[<- Act.put_comm a v u h2];exact h⟩
   case skip=>exact⟨keep a hy _,by rw[<- Act.put_comm a v undef h2];exact h⟩
   case defer d=>
    refine⟨keep _ (keepD d) _,?_⟩
    rw[<- Act.put_comm _ v undef h2,<- Act.put_defers]
    exact h
   case enter f args=>
    refine⟨h.1,CallsIn.mono h.2 fun e w'' he=>?_⟩
    cases e with
    | returned u=>exact⟨keep a hy u,by rw[<- Act.put_comm a v u h2];exact he⟩
    | panicked c=>exact hQ _ _ _ he
    | outgrown=>exact he
   case row row args=>exact⟨h.1,RowsIn.mono h.2 fun u w'' he=>⟨keep a hy u,by rw[<- Act.put_comm a v u h2];exact he⟩⟩
   case round l f tmps assign body=>
    refine⟨h.1,RoundIn.mono h.2 fun e w'' he=>?_⟩
    cases e with
    | returned u=>exact⟨keep a hy u,by rw[<- Act.put_comm a v u h2];exact he⟩
    | panicked c=>exact hQ _ _ _ he
    | outgrown=>exact he
  | halt x w'=>
   cases x<;>simp only[Oper.uponIn] at h ⊢
   case panic u=>exact hQ _ _ _ h
 ·rename_i hw
  simp only[hw] at h
  exact⟨h.1,keep a hy _,by rw[<- Act.put_comm a v undef h2];exact h.2⟩
def ZcG (md:Region.Mode) (ops:Array Oper):Nat->Nat->Nat->Bool
 | 0,_,_=>false
 | f+1,j,i=>Region.waitsFor md ops j i || (List.range ops.size).any fun m=>Region.waitsFor md ops j m && ZcG md ops f m i
def Zax (md:Region.Mode) (ops:Array Oper) (listed:Array Bool):Prop:=∀ j m,listed.getD j true=true->Region.waitsFor md ops j m=true->listed.getD m true=true
theorem ZjF {j m:Nat} (h:Region.waitsFor md ops j m=true):j<ops.size:=by
 obtain⟨oj,hoj,_⟩:=Region.waitsFor_spec h
 exact(Zo9 hoj)
theorem ZcM {listed:Array Bool} (hc:Zax md ops listed) {i:Nat} (hi:listed.getD i true=false):∀ (f j:Nat),ZcG md ops f j i=true->listed.getD j true=false/\j ∉ Region.ready md ops listed
 | 0,_,h=>by cases h
 | f+1,j,h=>by
  have key:∀ m,Region.waitsFor md ops j m=true->listed.getD m true=false->listed.getD j true=false/\j ∉ Region.ready md ops listed:=fun m hw hm=>by
   refine⟨?_,fun hj=>?_⟩
   ·cases hl:listed.getD j true with
    | false=>rfl
    | true=>rw[hc j m hl hw] at hm;cases hm
   ·obtain⟨oj,hoj,e,he,hb,hon⟩:=Region.waitsFor_spec hw
    obtain⟨_,oj',hoj',hall⟩:=mem_ready.1 hj
    have:oj'=oj:=Zou (hoj'.symm.trans hoj)
    subst this
    have h1:=hall e he hb
    rw[hon] at h1
    rcases Zow m listed.size with h' | h'
    ·simp[h'] at hm h1;rw[hm] at h1;cases h1
    ·simp[Array.getElem?_eq_none h'] at h1 hm
  unfold ZcG at h
  rw[Bool.or_eq_true] at h
  rcases h with h | h
  ·exact key i h hi
  ·obtain⟨m,_,hm⟩:=List.any_eq_true.1 h
   rw[ZoY] at hm
   exact key m hm.1 (ZcM hc hi f m hm.2).1
theorem Zax.step {listed:Array Bool} (hc:Zax md ops listed) {j:Nat} (hj:j ∈ Region.ready md ops listed):Zax md ops (listed.setIfInBounds j true):=by
 intro k m hk hw
 have up:∀ m,listed.getD m true=true->(listed.setIfInBounds j true).getD m true=true:=fun m hm=>by
  by_cases e:j=m
  ·subst e
   rcases Zow j listed.size with h' | h'
   ·simp[h']
   ·simp[h']
  ·rw[getD_set_ne true e];exact hm
 by_cases e:j=k
 ·subst e
  obtain⟨oj,hoj,x,hx,hb,hon⟩:=Region.waitsFor_spec hw
  obtain⟨_,oj',hoj',hall⟩:=mem_ready.1 hj
  have:oj'=oj:=Zou (hoj'.symm.trans hoj)
  subst this
  have h1:=hall x hx hb
  rw[hon] at h1
  refine up m ?_
  rcases Zow m listed.size with h' | h'
  ·simp[h'] at h1 ⊢;exact h1
  ·simp[Array.getElem?_eq_none h'] at h1 ⊢
 ·rw[getD_set_ne true e] at hk
  exact up m (hc k m hk hw)
theorem Zax.start:Zax md ops (Array.replicate ops.size false):=by
 intro j m hj hw
 have:=ZjF hw
 simp[this] at hj
def Zc6 (md:Region.Mode) (ops:Array Oper) (bar:Nat->Bool) (i:Nat):Prop:=∀ j,bar j=true->j≠i->ZcG md ops ops.size j i=true
def wpJF (F:Fence) (n:Nat) (P:Program) (md:Region.Mode) (ops:Array Oper) (Q:Exit->Act->World->Prop) (S:World->Prop) (bar:Nat->Bool):Nat->Array Bool->Act->World->Prop
 | 0,listed,a,w=>Region.ready md ops listed=[]/\Q .normal a w
 | fuel+1,listed,a,w=>(Region.ready md ops listed=[]->Q .normal a w)/\
  ∀ i ∈ Region.ready md ops listed,wpOpIn F n P ops Q i (fun a' w'=>(bar i=true\/S w')/\wpJF F n P md ops Q S bar fuel (listed.setIfInBounds i true) a' w') a w
theorem ZeO:∀ (fuel:Nat) (listed:Array Bool) (a:Act) (w:World),wpJF F n P md ops Q S bar fuel listed a w->wpAnyIn F n P md ops Q fuel listed a w
 | 0,_,_,_,h=>h
 | fuel+1,_,_,_,h=>⟨h.1,fun i hi=>wpOpIn_mono (fun a' w' h'=>ZeO fuel _ a' w' h'.2) (h.2 i hi)⟩
theorem ZgV {i:Nat} {oi:Oper} {v:Value} (hro:F.round=none) (hi:ops[i]?=some oi) (hsel:Region.noSelect ops=true) (hQ:∀ c a w,Q (.panic c) (a.put oi.dst v) w->Q (.panic c) a w) (hbar:Zc6 md ops bar i) (hbi:bar i=false) :
  ∀ (fuel:Nat) (listed:Array Bool) (a:Act) (w:World),Zax md ops listed->
   (∀ j oj,ops[j]?=some oj->j≠i->listed.getD j true=false->(∀ e ∈ oj.after,Region.binds md e=true->e.on≠i)->oi.apart ops oj=true)->
   i ∈ Region.ready md ops listed->ZaF P ops S oi v a->S w->
   wpJF F n P md ops Q S bar fuel (listed.setIfInBounds i true) (a.put oi.dst v) w->wpJF F n P md ops Q S bar (fuel+1) listed a w
 | 0,listed,a,w,_,_,hr,hy,hS,H=>by
  refine⟨fun h=>(by rw[h] at hr;cases hr),fun j hj=>?_⟩
  by_cases hji:j=i
  ·subst hji;exact hy.wpOpIn hro hi hS ⟨.inr hS,H⟩
  ·have:=ready_mono hj hji
   rw[H.1] at this
   cases this
 | fuel+1,listed,a,w,hcl,hfree,hr,hy,hS,H=>by
  refine⟨fun h=>(by rw[h] at hr;cases hr),fun j hj=>?_⟩
  by_cases hji:j=i
  ·subst hji;exact hy.wpOpIn hro hi hS ⟨.inr hS,H⟩
  ·have hbj:bar j=false:=by
    cases hb:bar j with
    | false=>rfl
    | true=>exact Zo4 hj (ZcM hcl (mem_ready.1 hr).1 _ _ (hbar j hb hji)).2
   obtain⟨hjun,oj,hoj,hall⟩:=mem_ready.1 hj
   have hnot:∀ e ∈ oj.after,Region.binds md e=true->e.on≠i:=fun e he hb heq=>by
    have:Region.waitsFor md ops j i=true:=by
     unfold Region.waitsFor
     rw[hoj]
     exact Array.any_eq_true'.2 ⟨e,he,by simp[hb,heq]⟩
    exact ZaU hr this hj
   have h2:=Ziy hro hoj (hfree j oj hoj hji hjun hnot) (fun cs b=>Region.noSelect_spec hsel i oi cs b hi) (fun cs b=>Region.noSelect_spec hsel j oj cs b hoj) hQ hy (H.2 j (ready_mono hj hji))
   refine wpOpIn_mono (fun a' w' h3=>?_) h2
   have hS':S w':=by
    rcases h3.2.1 with h4 | h4
    ·rw[hbj] at h4;cases h4
    ·exact h4
   refine⟨.inr hS',ZgV hro hi hsel hQ hbar hbi fuel (listed.setIfInBounds j true) a' w' (hcl.step hj) (fun k ok hk hki hun hno=>?_) (ready_mono hr (Ne.symm hji)) h3.1 hS' ?_⟩
   ·refine hfree k ok hk hki ?_ hno
    by_cases hjk:j=k
    ·subst hjk;exact hjun
    ·rw[getD_set_ne true hjk] at hun;exact hun
   ·rw[Array.setIfInBounds_comm _ _ hji]
    exact h3.2.2
def ZbY (md:Region.Mode) (ops:Array Oper) (bar:Nat->Bool):List (Bool×Nat)->Array Bool->Bool
 | [],listed=>decide (Region.ready md ops listed=[])
 | (true,k)::ks,listed=>(Region.ready md ops listed).contains k && Region.free md ops listed k && !bar k && ((List.range ops.size).all fun j=>!bar j || decide (j=k) || ZcG md ops ops.size j k) && ZbY md ops bar ks (listed.setIfInBounds k true)
 | (false,k)::ks,listed=>decide (Region.ready md ops listed=[k]) && (!bar k || ks.all fun b=>!b.1) && ZbY md ops bar ks (listed.setIfInBounds k true)
def ZcD (F:Fence) (n:Nat) (P:Program) (ops:Array Oper) (Q:Exit->Act->World->Prop) (S:World->Prop) (bar:Nat->Bool):List (Bool×Nat)->Act->World->Prop
 | [],a,w=>Q .normal a w
 | (true,i)::ks,a,w=>∃ o v,ops[i]?=some o/\ZaF P ops S o v a/\ZcD F n P ops Q S bar ks (a.put o.dst v) w
 | (false,i)::ks,a,w=>∃ o,ops[i]?=some o/\Region.wanted o (yielded ops a.tmps)=true/\o.wpIn F n P a w (fun a' w'=>(bar i=true\/S w')/\ZcD F n P ops Q S bar ks a' w') Q
theorem ZcP (hro:F.round=none) (hsel:Region.noSelect ops=true) (hQ:∀ c a o v w,Q (.panic c) (a.put o v) w->Q (.panic c) a w) (hbo:∀ j,ops.size<=j->bar j=false) :
  ∀ (ks:List (Bool×Nat)) (listed:Array Bool) (a:Act) (w:World),ZbY md ops bar ks listed=true->Zax md ops listed->
   (S w\/ks.all (fun b=>!b.1)=true)->ZcD F n P ops Q S bar ks a w->wpJF F n P md ops Q S bar ks.length listed a w
 | [],listed,a,w,hB,_,_,h=>⟨of_decide_eq_true hB,h⟩
 | (true,k)::ks,listed,a,w,hB,hC,hS,h=>by
  simp only[ZbY,ZoY] at hB
  obtain⟨⟨⟨⟨hr,hf⟩,hbk⟩,hw⟩,hB'⟩:=hB
  have hSw:S w:=by
   rcases hS with hS | hS
   ·exact hS
   ·simp at hS
  obtain⟨o,v,h0,hy,hrest⟩:=h
  have hbk':bar k=false:=by simpa using hbk
  have hwait:Zc6 md ops bar k:=fun j hj hne=>by
   have hjl:j<ops.size:=by
    rcases Zow j ops.size with h' | h'
    ·exact h'
    ·rw[hbo j h'] at hj;cases hj
   rw[Zo3] at hw
   have:=hw j (List.mem_range.2 hjl)
   rw[hj] at this
   simpa[hne] using this
  have ih:=ZcP hro hsel hQ hbo ks (listed.setIfInBounds k true) (a.put o.dst v) w hB' (hC.step (by simpa using hr)) (.inl hSw) hrest
  rw[Zo0]
  exact ZgV hro h0 hsel (fun c a w=>hQ c a o.dst v w) hwait hbk' ks.length listed a w hC (Region.free_spec h0 hf) (by simpa using hr) hy hSw ih
 | (false,k)::ks,listed,a,w,hB,hC,hS,h=>by
  simp only[ZbY,ZoY,ZoZ] at hB
  obtain⟨⟨hr,hbk⟩,hB'⟩:=hB
  obtain⟨o,h0,hw,h⟩:=h
  refine⟨fun h1=>(by rw[h1] at hr;cases hr),fun i hi=>?_⟩
  rw[hr] at hi
  obtain rfl:i=k:=by simpa using hi
  have ih:=fun a' w' (hs:bar i=true\/S w') h'=>ZcP hro hsel hQ hbo ks (listed.setIfInBounds i true) a' w' hB' (hC.step (by rw[hr];simp)) (by
   rcases hs with hs | hs
   ·rw[hs] at hbk
    exact .inr (by simpa using hbk)
   ·exact .inl hs) h'
  unfold wpOpIn
  simp only[h0]
  simp only[hw,if_true]
  exact Oper.wpIn_mono (fun a' w' h'=>⟨h'.1,ih a' w' h'.1 h'.2⟩) h
def ZeD (l:List Oper) (ks:List (Bool×Nat)) (bar:Nat->Bool):Bool:=
 Region.noSelect l.toArray && decide (ks.length=l.length) && ZbY .any l.toArray bar ks (Array.replicate l.toArray.size false)
theorem Zik {id:Nat} {a:Act} {w:World} {l:List Oper} (ks:List (Bool×Nat)) (S:World->Prop) (bar:Nat->Bool) (hro:F.round=none) (hm:P.follows .mixedOrders=true)
  (hB:ZeD l ks bar=true) (hbo:∀ j,l.length<=j->bar j=false) (hQ:∀ c a o v w,Q (.panic c) (a.put o v) w->Q (.panic c) a w) (hS:S w.drew)
  (H:ZcD F n P l.toArray Q S bar ks a w.drew):(Code.region id l.toArray true).wpIn F n P Q a w:=by
 simp only[ZeD,ZoY,ZoZ] at hB
 obtain⟨⟨hsel,hn⟩,hm2⟩:=hB
 have:=ZeO _ _ _ _ (ZcP (F:=F) (n:=n) hro hsel hQ (fun j hj=>hbo j (by simpa using hj)) ks _ a w.drew hm2 Zax.start (.inl hS) H)
 rw[hn] at this
 exact wpIn_region_any hm (by simpa using this)
theorem Zjd {i:Nat} {o:Oper} {ks:List (Bool×Nat)} {a:Act} {w:World} (v:Value) (ho:ops[i]?=some o) (hw:Region.wanted o (yielded ops a.tmps)=true) (hab:∀ w,o.about P w a.eval=none) (hv:∀ w,S w->(execOp a.eval o).run P w=.ok (.value v) w)
  (h:ZcD F n P ops Q S bar ks (a.put o.dst v) w):ZcD F n P ops Q S bar ((true,i)::ks) a w:=⟨o,v,ho,⟨.inl ⟨hw,hv⟩,hab⟩,h⟩
theorem ZdN {i:Nat} {o:Oper} {ks:List (Bool×Nat)} {a:Act} {w:World} (ho:ops[i]?=some o) (hw:Region.wanted o (yielded ops a.tmps)=true)
  (h:∀ K:Act->World->Prop,(∀ a' w',(bar i=true\/S w')->ZcD F n P ops Q S bar ks a' w'->K a' w')->o.wpIn F n P a w K Q):ZcD F n P ops Q S bar ((false,i)::ks) a w:=
 ⟨o,ho,hw,h _ fun _ _ h1 h2=>⟨h1,h2⟩⟩
theorem Zgz {a:Act} {w:World} (h:Q .normal a w):ZcD F n P ops Q S bar [] a w:=h
end
end Go.Proofs.YtmpaflidennnoaaGreatDoor
namespace Go.Proofs.YtmpaflidennnoaaGreatDoor
open Go.RowKit Go.Shelf
attribute [local go_sem] Oper.semAt_some
def Zcz (b off n:Nat) (bs:List BB) (W:World):Prop:=∀ k,k<n->
 W.cell? ⟨b,off+k*4,none⟩=some (.string (bAt bs k).1.1)/\W.cell? ⟨b,off+k*4+1,none⟩=some (.string (bAt bs k).1.2)/\W.cell? ⟨b,off+k*4+2,none⟩=some (.string (bAt bs k).2.1)/\W.cell? ⟨b,off+k*4+3,none⟩=some (.string (bAt bs k).2.2)
theorem Zcz.keeps {b off n:Nat} {bs:List BB} {S:Nat->Prop} {w w':World} (h:Zcz b off n bs w) (hk:Keeps S w w') (hs:S b):Zcz b off n bs w':=
 fun k hl=>⟨hk.cellAt (h k hl).1 hs,hk.cellAt (h k hl).2.1 hs,hk.cellAt (h k hl).2.2.1 hs,hk.cellAt (h k hl).2.2.2 hs⟩
theorem ZgF (Bs b off n cap:Nat) (S:Nat->Prop) (bs:List BB) (h1:2<=n) (hl:n<=64) (hcap:n<=cap) (hmax:cap<=9223372036854775807) (w0:World) (hS:S Bs) (hSb:S b)
  (hBs:w0.cell? ⟨Bs,0,none⟩=some (.slice (some ⟨b,off,none⟩) n cap)) (hp:Zcz b off n bs w0) :
  Iter Tryz.prog 179 #[.pointer (some ⟨Bs,0,none⟩)] (fun k=>#[bV (bAt bs k),bV (bAt bs (k+1))]) (n-1) S (fun _=>True) w0:=by
 intro m l J Jx W hK hJ hJx hY h0
 have hB1:W.cell? ⟨Bs,0,none⟩=some (.slice (some ⟨b,off,none⟩) n cap):=hK.cellAt hBs hS
 have HP:Hid (Zcz b off n bs W):=hp.keeps hK hSb
 have HY:=Zpe hY
 have HJ:=Zpe hJ
 clear hp hY hBs hJ
 obtain⟨r,rfl⟩:∃ r,n=r+1:=⟨n-1,Za⟩
 rw[ZoT] at *
 have hc1:¬ cap=1:=Za
 refine callsIn_of_wp Tryz.func179 rfl trivial ?_ rfl
 simp only[Tryz.ntmps179,Nat.reduceAdd,Nat.reduceSub,Zpd]
 gi_wp2
 gi_loopw [7] (fun iv wr=>∃ k:Nat,iv=.int .i64 k/\k<=r/\J k wr/\Hid (Keeps S W wr)) (fun iv _=>r-(intOf iv).toNat)
 case atStart=>exact⟨0,rfl,ZoD _,h0,Keeps.refl _ _⟩
 case round=>
  obtain⟨k,rfl,hk,hJs,HN⟩:=hrel
  have hB2:wr.drew.cell? ⟨Bs,0,none⟩=some (.slice (some ⟨b,off,none⟩) (r+1) cap):=(HN.out.drew).cellAt hB1 hS
  by_cases hlt:k<r
  ·obtain⟨s,hs⟩:=Zpg (bAt bs k)
   obtain⟨t,ht⟩:=Zpg (bAt bs (k+1))
   obtain⟨⟨s0,s1⟩,s2,s3⟩:=s
   obtain⟨⟨t0,t1⟩,t2,t3⟩:=t
   have hcl:=HP.out.keeps HN.out.drew hSb
   obtain⟨a0,a1,a2,a3⟩:=hcl k Za
   obtain⟨b0,b1,b2,b3⟩:=hcl (k+1) Za
   rw[hs] at a0 a1 a2 a3
   rw[ht] at b0 b1 b2 b3
   simp only at a0 a1 a2 a3 b0 b1 b2 b3
   have hJd:=HJ.out _ _ _ hJs (Keeps.refl (fun _=>True) wr).drew
   obtain⟨fn,tmps,assign,body,hy,hR⟩:=HY.out k wr.drew hlt hJd
   rw[hs,ht] at hy
   simp only[bV] at hy
   clear hcl hs ht hJs hJd
   have e1:IntKind.i64.wrap ((k:Int)+1)=((k+1:Nat):Int):=by rw[Zo1 _ Za];rfl
   have i1:(k:Int)<(r:Int)+1:=Za
   have i2:((k+1:Nat):Int)<(r:Int)+1:=Za
   gi_wp2
   refine Zik [(true,0),(true,1),(true,2),(true,3),(true,4),(true,5),(true,6),(true,7),(true,8),(true,9),(false,10),(false,11)] (fun w'=>w'=wr.drew) (fun j=>j==10 || j==11) rfl Zb Zb (fun j hj=>by simp at hj ⊢;omega)
    Zi rfl ?_
   iterate 10
    refine Zjd _ rfl rfl (fun _=>rfl) (fun w' hS=>by subst hS;go_simp;first | rfl | (simp only[e1,i1,i2,Int.natCast_nonneg,Int.toNat_natCast,and_self,if_true];rfl)) ?_
    simp only[Act.put,Zm]
   refine ZdN rfl rfl fun K hK=>?_
   go_simp
   refine⟨(fun h=>by cases h),hR.mono ?_⟩
   rintro e W3 (⟨rfl,hJ3,hk3⟩ | ⟨rfl,hJx3⟩)
   ·have HN3:=Zpe (HN.out.drew.trans hk3)
    clear hk3 a0 a1 a2 a3 b0 b1 b2 b3 hy hR
    refine hK _ _ (.inl rfl) ?_
    clear hK K
    refine ZdN rfl rfl fun K hK=>?_
    go_simp
    refine hK _ _ (.inl rfl) ?_
    clear hK K
    refine Zgz ?_
    gi_wp2
    go_roundw
    case rel=>exact⟨k+1,by go_num,Za,hJ3,HN3⟩
    case measure=>exact Zj
   ·clear a0 a1 a2 a3 b0 b1 b2 b3 hy hR
    refine hK _ _ (.inl rfl) ?_
    clear hK K
    refine ZdN rfl rfl fun K hK=>?_
    go_simp
    refine hK _ _ (.inl rfl) ?_
    clear hK K
    refine Zgz ?_
    gi_wp2
    refine Zor (results_none rfl _ _ _) rfl ?_
    exact⟨⟨_,rfl⟩,.inr ⟨k,hlt,hJx3⟩⟩
  ·obtain rfl:k=r:=Za
   gi_wp2
   go_end0
   exact⟨⟨_,rfl⟩,.inl hJs⟩
theorem ZhA (p:Option Addr) (len cap:Nat) (w:World) :
  Calls Tryz.prog 132 #[.slice p len cap] w fun e w'=>e=.returned (.func (.func 179) #[] #[.pointer (some ⟨w.heap.size,0,none⟩)])/\w'=w.alloc (.cells #[.slice p len cap] 72):=by
 go_enter Tryz.func132,Tryz.ntmps132
 go_wp2
 go_ret
 exact⟨rfl,rfl⟩
end Go.Proofs.YtmpaflidennnoaaGreatDoor
namespace Go.Proofs.YtmpaflidennnoaaGreatDoor
open Go.RowKit Go.Shelf
attribute [local go_sem ↓] Go.wp_at_zero Go.wp_at_succ
abbrev S8 (g:Nat) (s0 t0 u0 v0 s1 t1 u1 v1:ByteArray) (w':World):Prop:=w'.cell? ⟨g,0,none⟩=some (.string s0)/\w'.cell? ⟨g,1,none⟩=some (.string t0)/\w'.cell? ⟨g,2,none⟩=some (.string u0)/\w'.cell? ⟨g,3,none⟩=some (.string v0)/\
 w'.cell? ⟨g+1,0,none⟩=some (.string s1)/\w'.cell? ⟨g+1,1,none⟩=some (.string t1)/\w'.cell? ⟨g+1,2,none⟩=some (.string u1)/\w'.cell? ⟨g+1,3,none⟩=some (.string v1)
theorem Znr {a b c d:Rat} {s0 t0 u0 v0 s1 t1 u1 v1 x1 y1 x2 y2 x y:ByteArray} (hc:IsP c s0 t0) (ha:IsP a u0 v0) (hd:IsP d s1 t1) (hb:IsP b u1 v1) (h1:IsP (b-a) x1 y1) (h2:IsP (d-c) x2 y2) (h3:IsP ((b-a)/(d-c)) x y) (hp:0<d-c)
  (w:World) (hT:Tabs w):Calls Tryz.prog 133 #[.agg #[.string s0,.string t0,.string u0,.string v0],.agg #[.string s1,.string t1,.string u1,.string v1]] w (ZV (pV x y) w):=by
 have HC:=Zpe hc
 have HA:=Zpe ha
 have HD:=Zpe hd
 have HBB:=Zpe hb
 have H1:=Zpe h1
 have H2:=Zpe h2
 have H3:=Zpe h3
 have HP:=Zpe hp
 have HT:=Zpe hT
 clear hc ha hd hb h1 h2 h3 hp hT
 go_enter Tryz.func133,Tryz.ntmps133
 go_wp2_with fail
 obtain⟨w0,hw0⟩:=Zpg (((w.alloc (bO s0 t0 u0 v0)).alloc (bO s1 t1 u1 v1)).alloc (pObj Zpa Zpa))
 rw[hw0]
 have HX0:Hid (Zv w.heap.size [bO s0 t0 u0 v0,bO s1 t1 u1 v1,pObj Zpa Zpa] w0.drew):=by rw[<- hw0];exact(Zv.three w _ _ _).drew
 have HB0:Hid (Below w.heap.size w w0.drew):=by rw[<- hw0];exact((((Zoq _ w).alloc Zpf _).alloc Zc _).alloc (by simp<;>omega) _).drew
 clear hw0
 have a0:=HX0.out.cell 0 0 (b:=w.heap.size) rfl rfl rfl
 have a1:=HX0.out.cell 0 1 (b:=w.heap.size) rfl rfl rfl
 have a2:=HX0.out.cell 0 2 (b:=w.heap.size) rfl rfl rfl
 have a3:=HX0.out.cell 0 3 (b:=w.heap.size) rfl rfl rfl
 have b0:=HX0.out.cell 1 0 (b:=w.heap.size+1) rfl rfl rfl
 have b1:=HX0.out.cell 1 1 (b:=w.heap.size+1) rfl rfl rfl
 have b2:=HX0.out.cell 1 2 (b:=w.heap.size+1) rfl rfl rfl
 have b3:=HX0.out.cell 1 3 (b:=w.heap.size+1) rfl rfl rfl
 have hS0:S8 w.heap.size s0 t0 u0 v0 s1 t1 u1 v1 w0.drew:=⟨a0,a1,a2,a3,b0,b1,b2,b3⟩
 refine Zaf [(true,0),(true,1),(true,2),(true,3),(true,8),(true,9),(true,10),(true,11),(false,4),(true,5),(true,6),(false,7),(false,12),(true,13),(true,14),(false,15),(false,16),(true,17),(true,18),(false,19),(false,20)] (S8 w.heap.size s0 t0 u0 v0 s1 t1 u1 v1) (fun _=>false)
  Zb Zb (fun _ _=>rfl) Zi hS0 ?_
 clear hS0
 iterate 8
  refine Zr _ rfl rfl (fun w' hS=>by obtain⟨a0,a1,a2,a3,b0,b1,b2,b3⟩:=hS;exact Zf) ?_
  simp only[Act.put,Zm]
 refine Zt rfl rfl fun K hK=>?_
 go_simp
 go_at_call 104
 refine(ZdT HBB.out HA.out H1.out rfl _ (HT.out.below HB0.out Zpf)).mono ?_
 rintro e w1 ⟨rfl,hb⟩
 have HX1:=Zpe (HX0.out.below hb HX0.out.lt)
 have HB1:Zo8 w w1:=HB0.out.trans (hb.mono HB0.out.size)
 clear a0 a1 a2 a3 b0 b1 b2 b3
 have a0:=HX1.out.cell 0 0 (b:=w.heap.size) rfl rfl rfl
 have a1:=HX1.out.cell 0 1 (b:=w.heap.size) rfl rfl rfl
 have a2:=HX1.out.cell 0 2 (b:=w.heap.size) rfl rfl rfl
 have a3:=HX1.out.cell 0 3 (b:=w.heap.size) rfl rfl rfl
 have b0:=HX1.out.cell 1 0 (b:=w.heap.size+1) rfl rfl rfl
 have b1:=HX1.out.cell 1 1 (b:=w.heap.size+1) rfl rfl rfl
 have b2:=HX1.out.cell 1 2 (b:=w.heap.size+1) rfl rfl rfl
 have b3:=HX1.out.cell 1 3 (b:=w.heap.size+1) rfl rfl rfl
 refine hK _ _ (.inr ⟨a0,a1,a2,a3,b0,b1,b2,b3⟩) ?_
 clear hK K hb
 iterate 2
  refine Zr _ rfl rfl (fun w' hS=>Zf) ?_
  simp only[Act.put,Zm]
 refine Zt rfl rfl fun K hK=>?_
 go_simp
 go_at_call 180
 refine(ZbD x1 y1 _).mono ?_
 rintro e w2 ⟨rfl,hb⟩
 have HX2:=Zpe (HX1.out.below hb HX1.out.lt)
 have HB2:Zo8 w w2:=HB1.out.trans (hb.mono HB1.out.size)
 clear a0 a1 a2 a3 b0 b1 b2 b3
 have a0:=HX2.out.cell 0 0 (b:=w.heap.size) rfl rfl rfl
 have a1:=HX2.out.cell 0 1 (b:=w.heap.size) rfl rfl rfl
 have a2:=HX2.out.cell 0 2 (b:=w.heap.size) rfl rfl rfl
 have a3:=HX2.out.cell 0 3 (b:=w.heap.size) rfl rfl rfl
 have b0:=HX2.out.cell 1 0 (b:=w.heap.size+1) rfl rfl rfl
 have b1:=HX2.out.cell 1 1 (b:=w.heap.size+1) rfl rfl rfl
 have b2:=HX2.out.cell 1 2 (b:=w.heap.size+1) rfl rfl rfl
 have b3:=HX2.out.cell 1 3 (b:=w.heap.size+1) rfl rfl rfl
 refine hK _ _ (.inr ⟨a0,a1,a2,a3,b0,b1,b2,b3⟩) ?_
 clear hK K hb
 refine Zt rfl rfl fun K hK=>?_
 go_simp
 go_at_call 104
 refine(ZdT HD.out HC.out H2.out rfl _ (HT.out.below HB2.out Zpf)).mono ?_
 rintro e w3 ⟨rfl,hb⟩
 have HX3:=Zpe (HX2.out.below hb HX2.out.lt)
 have HB3:Zo8 w w3:=HB2.out.trans (hb.mono HB2.out.size)
 clear a0 a1 a2 a3 b0 b1 b2 b3
 have a0:=HX3.out.cell 0 0 (b:=w.heap.size) rfl rfl rfl
 have a1:=HX3.out.cell 0 1 (b:=w.heap.size) rfl rfl rfl
 have a2:=HX3.out.cell 0 2 (b:=w.heap.size) rfl rfl rfl
 have a3:=HX3.out.cell 0 3 (b:=w.heap.size) rfl rfl rfl
 have b0:=HX3.out.cell 1 0 (b:=w.heap.size+1) rfl rfl rfl
 have b1:=HX3.out.cell 1 1 (b:=w.heap.size+1) rfl rfl rfl
 have b2:=HX3.out.cell 1 2 (b:=w.heap.size+1) rfl rfl rfl
 have b3:=HX3.out.cell 1 3 (b:=w.heap.size+1) rfl rfl rfl
 refine hK _ _ (.inr ⟨a0,a1,a2,a3,b0,b1,b2,b3⟩) ?_
 clear hK K hb
 iterate 2
  refine Zr _ rfl rfl (fun w' hS=>Zf) ?_
  simp only[Act.put,Zm]
 refine Zt rfl rfl fun K hK=>?_
 go_simp
 go_at_call 180
 refine(ZbD x2 y2 _).mono ?_
 rintro e w4 ⟨rfl,hb⟩
 have HX4:=Zpe (HX3.out.below hb HX3.out.lt)
 have HB4:Zo8 w w4:=HB3.out.trans (hb.mono HB3.out.size)
 clear a0 a1 a2 a3 b0 b1 b2 b3
 have a0:=HX4.out.cell 0 0 (b:=w.heap.size) rfl rfl rfl
 have a1:=HX4.out.cell 0 1 (b:=w.heap.size) rfl rfl rfl
 have a2:=HX4.out.cell 0 2 (b:=w.heap.size) rfl rfl rfl
 have a3:=HX4.out.cell 0 3 (b:=w.heap.size) rfl rfl rfl
 have b0:=HX4.out.cell 1 0 (b:=w.heap.size+1) rfl rfl rfl
 have b1:=HX4.out.cell 1 1 (b:=w.heap.size+1) rfl rfl rfl
 have b2:=HX4.out.cell 1 2 (b:=w.heap.size+1) rfl rfl rfl
 have b3:=HX4.out.cell 1 3 (b:=w.heap.size+1) rfl rfl rfl
 refine hK _ _ (.inr ⟨a0,a1,a2,a3,b0,b1,b2,b3⟩) ?_
 clear hK K hb
 refine Zt rfl rfl fun K hK=>?_
 go_simp
 go_at_call 169
 refine(ZiT H1.out H2.out H3.out HP.out rfl _ (HT.out.below HB4.out Zpf)).mono ?_
 rintro e w5 ⟨rfl,hb⟩
 have HX5:=Zpe (HX4.out.below hb HX4.out.lt)
 have HB5:Zo8 w w5:=HB4.out.trans (hb.mono HB4.out.size)
 clear a0 a1 a2 a3 b0 b1 b2 b3
 have a0:=HX5.out.cell 0 0 (b:=w.heap.size) rfl rfl rfl
 have a1:=HX5.out.cell 0 1 (b:=w.heap.size) rfl rfl rfl
 have a2:=HX5.out.cell 0 2 (b:=w.heap.size) rfl rfl rfl
 have a3:=HX5.out.cell 0 3 (b:=w.heap.size) rfl rfl rfl
 have b0:=HX5.out.cell 1 0 (b:=w.heap.size+1) rfl rfl rfl
 have b1:=HX5.out.cell 1 1 (b:=w.heap.size+1) rfl rfl rfl
 have b2:=HX5.out.cell 1 2 (b:=w.heap.size+1) rfl rfl rfl
 have b3:=HX5.out.cell 1 3 (b:=w.heap.size+1) rfl rfl rfl
 refine hK _ _ (.inr ⟨a0,a1,a2,a3,b0,b1,b2,b3⟩) ?_
 clear hK K hb
 iterate 2
  refine Zr _ rfl rfl (fun w' hS=>Zf) ?_
  simp only[Act.put,Zm]
 refine Zt rfl rfl fun K hK=>?_
 go_simp
 go_at_call 180
 refine(ZbD x y _).mono ?_
 rintro e w6 ⟨rfl,hb⟩
 have HX6:=Zpe (HX5.out.below hb HX5.out.lt)
 have HB6:Zo8 w w6:=HB5.out.trans (hb.mono HB5.out.size)
 clear a0 a1 a2 a3 b0 b1 b2 b3
 have a0:=HX6.out.cell 0 0 (b:=w.heap.size) rfl rfl rfl
 have a1:=HX6.out.cell 0 1 (b:=w.heap.size) rfl rfl rfl
 have a2:=HX6.out.cell 0 2 (b:=w.heap.size) rfl rfl rfl
 have a3:=HX6.out.cell 0 3 (b:=w.heap.size) rfl rfl rfl
 have b0:=HX6.out.cell 1 0 (b:=w.heap.size+1) rfl rfl rfl
 have b1:=HX6.out.cell 1 1 (b:=w.heap.size+1) rfl rfl rfl
 have b2:=HX6.out.cell 1 2 (b:=w.heap.size+1) rfl rfl rfl
 have b3:=HX6.out.cell 1 3 (b:=w.heap.size+1) rfl rfl rfl
 refine hK _ _ (.inr ⟨a0,a1,a2,a3,b0,b1,b2,b3⟩) ?_
 clear hK K hb
 have r0:=HX6.out.cell 2 0 (b:=w.heap.size+1+1) rfl rfl rfl
 have r1:=HX6.out.cell 2 1 (b:=w.heap.size+1+1) rfl rfl rfl
 have f0:=HX6.out.free 2 0 (b:=w.heap.size+1+1) rfl rfl
 have f1:=HX6.out.free 2 1 (b:=w.heap.size+1+1) rfl rfl
 refine Zt rfl rfl fun K hK=>?_
 go_simp
 have q:=Zu (HX6.out.block 2 (b:=w.heap.size+1+1) rfl rfl) (.string x) (.string y)
 have HBQ:=Zpe (Zs HB6.out (b:=w.heap.size+1+1) Za (.string x) (.string y))
 have hS9:S8 w.heap.size s0 t0 u0 v0 s1 t1 u1 v1 ((w6.setCell ⟨w.heap.size+1+1,0,none⟩ (.string x)).setCell ⟨w.heap.size+1+1,1,none⟩ (.string y)):=by
  refine⟨?_,?_,?_,?_,?_,?_,?_,?_⟩<;>(rw[World.cell?_setCell_other _ _ _ _ (by simp<;>omega),World.cell?_setCell_other _ _ _ _ (by simp<;>omega)];assumption)
 refine hK _ _ (.inr hS9) ?_
 clear hK K hS9 a0 a1 a2 a3 b0 b1 b2 b3
 refine ZJ ?_
 obtain⟨w9,hw9⟩:=Zpg ((w6.setCell ⟨w.heap.size+1+1,0,none⟩ (.string x)).setCell ⟨w.heap.size+1+1,1,none⟩ (.string y))
 rw[hw9] at q HBQ ⊢
 obtain⟨q0,q1⟩:=q
 clear r0 r1 f0 f1 hw9
 go_wp2
 refine Zor (v:=pV x y) (by simp[results,Tryz.f133,go_sem,q0,q1]) rfl ⟨rfl,HBQ.out⟩
theorem Zbt {P:Program} {n r id:Nat} {Q:Exit->Act->World->Prop} {a:Act} {w:World} {l:List Oper} (ks:List (Bool×Nat)) (S:World->Prop) (bar:Nat->Bool) (hm:P.follows .mixedOrders=true)
  (hB:Zec l ks bar=true) (hbo:∀ j,l.length<=j->bar j=false) (hQ:∀ c a o v w,Q (.panic c) (a.put o v) w->Q (.panic c) a w) (hout:∀ a w,¬ Q .outgrown a w) (hS:S w.drew)
  (H:Zbd P l.toArray Q S bar ks a w.drew):(Code.region id l.toArray true).wpIn (Fence.wide.inRound r) n P Q a w:=by
 have hd:Zcx l.toArray=true:=by simp only[Zec,ZoY] at hB;exact hB.2
 exact wpIn_region_any hm (Za8 hd hout _ _ _ _ (ZeT ks S bar hB hbo hQ hS H))
def Calm (Q:Exit->Act->World->Prop):Exit->Act->World->Prop
 | .panic _,_,_=>False
 | .outgrown,_,_=>False
 | e,a,w=>Q e a w
theorem Calm.of {Q:Exit->Act->World->Prop} : ∀ {e:Exit} {a:Act} {w:World},Calm Q e a w->Q e a w
 | .panic _,_,_,h=>h.elim
 | .outgrown,_,_,h=>h.elim
 | .normal,_,_,h=>h
 | .ret,_,_,h=>h
 | .exit _,_,_,h=>h
 | .goto _,_,_,h=>h
theorem Zdq {P:Program} {f:FuncId} {fn:Func} {c:Code} {args:Array Value} {w:World} {R:Ending->World->Prop} (hf:P.funcs[f]?=some fn) (hb:fn.body=some c)
  (h:c.wp P (Calm (bodyPostM Fence.wide 9 P fn R)) { tmps:=args++Array.replicate (fn.ntmps-args.size) undef,defers:=[] } w):Calls P f args w R:=
 (ZoU (n:=9)).1 (callsIn_of_wp_marks hf hb trivial (wpIn_mono (wpIn_wide.2 h) fun _ _ _ h=>h.of) rfl)
end Go.Proofs.YtmpaflidennnoaaGreatDoor
namespace Go.Proofs.YtmpaflidennnoaaGreatDoor
open Go.RowKit Go.Shelf
attribute [local go_sem ↓] Go.wp_at_zero Go.wp_at_succ
attribute [local go_sem] Oper.semAt_some
theorem ZR {P:Program} {ops:Array Oper} {Q:Exit->Act->World->Prop} {S:World->Prop} {bar:Nat->Bool} {i:Nat} {o:Oper} {ks:List (Bool×Nat)} {a:Act} {w:World} (ho:ops[i]?=some o) (hw:Region.wanted o (yielded ops a.tmps)=false)
  (h:Zbd P ops Q S bar ks (a.put o.dst undef) w):Zbd P ops Q S bar ((true,i)::ks) a w:=⟨o,undef,ho,.inr ⟨hw,rfl⟩,h⟩
theorem Z4 {P:Program} {ops:Array Oper} {Q:Exit->Act->World->Prop} {S:World->Prop} {bar:Nat->Bool} {i:Nat} {o:Oper} {ks:List (Bool×Nat)} {a:Act} {w:World} (ho:ops[i]?=some o) (hw:Region.wanted o (yielded ops a.tmps)=false) (hS:S w)
  (h:Zbd P ops Q S bar ks (a.put o.dst undef) w):Zbd P ops Q S bar ((false,i)::ks) a w:=by
 refine⟨o,ho,?_⟩
 rw[if_neg (by rw[hw];exact Bool.false_ne_true)]
 exact⟨.inr hS,h⟩
def Zct (bs:List BB) (w:World) (e:Ending) (w':World):Prop:=∃ n,e=.returned (.int .i64 n)/\ZeS bs n/\Below w.heap.size w w'
theorem Zmf {p:Option Addr} {c n:Nat} {bs:List BB} {w:World} (hn:bs.length=n) (hm:n<=9223372036854775807) (h:(decide ((2:Int)<=n) && decide ((n:Int)<=64))=false) :
  Calls Tryz.prog 80 #[.slice p n c] w (Zct bs w):=by
 have HE:Hid (ZeS bs 2):=.inr ⟨fun hc=>by
  have:=hc.len
  simp at h
  omega,rfl⟩
 have H:=Zpe h
 clear h hn
 go_enter Tryz.func80,Tryz.ntmps80
 go_wp2
 refine Zaf [(true,0),(true,1),(false,2),(true,3),(true,4),(true,5),(true,6),(true,7),(true,8),(true,9),(true,10),(true,11),(true,12)] (fun _=>True) (fun _=>false)
  Zb Zb (fun _ _=>rfl) Zi trivial ?_
 iterate 2
  refine Zr _ rfl rfl (fun w' hS=>Zf) ?_
  simp only[Act.put,Zl]
 refine Zt rfl rfl fun K hK=>?_
 go_simp
 go_at_call 128
 refine(Zbz n 2 64 _).mono ?_
 rintro e w2 ⟨rfl,hb⟩
 rw[H.out]
 have hbx:((w.alloc (.cells #[.int .i64 0] 30)).drew).heap[w.heap.size]?=some (.cells #[.int .i64 0] 30):=Zot w _
 have hb0:Below w.heap.size w ((w.alloc (.cells #[.int .i64 0] 30)).drew):=((Zoq _ w).alloc Zpf _).drew
 have hbx2:w2.heap[w.heap.size]?=some (.cells #[.int .i64 0] 30):=(hb.block _ (Zo9 hbx)).trans hbx
 have HB2:Zo8 w w2:=hb0.trans (hb.mono hb0.size)
 have c0:=Zn hbx2 0 rfl
 have f0:=Zo hbx2 0
 have HX2:=Zpe hbx2
 refine hK _ _ (.inr trivial) ?_
 clear hK K hb hbx hb0 hbx2
 iterate 2
  refine Zr _ rfl rfl (fun w' hS=>Zf) ?_
  simp only[Act.put,Zl]
 iterate 7
  refine ZR rfl rfl ?_
  simp only[Act.put,Zl]
 iterate 1
  refine Zr _ rfl rfl (fun w' hS=>Zf) ?_
  simp only[Act.put,Zl]
 refine ZJ ?_
 go_wp2
 have q:(w2.setCell ⟨w.heap.size,0,none⟩ (.int .i64 2)).cell? ⟨w.heap.size,0,none⟩=some (.int .i64 2):=Zn (Zov HX2.out _) 0 rfl
 refine Zor (v:=.int .i64 2) (by simp[results,Tryz.f80,go_sem,q]) rfl ⟨2,rfl,HE.out,HB2.out.setCell (p:=⟨w.heap.size,0,none⟩) Zpf _⟩
abbrev SF (b off:Nat) (s t u v:ByteArray) (w':World):Prop:=(w'.cell? ⟨b,off,none⟩=some (.string s)/\w'.cell? ⟨b,off+1,none⟩=some (.string t)/\w'.cell? ⟨b,off+2,none⟩=some (.string u)/\w'.cell? ⟨b,off+3,none⟩=some (.string v))/\
 w'.cell? ⟨1,0,none⟩=some (.string ⟨#[48]⟩)/\w'.cell? ⟨1,1,none⟩=some (.string ⟨#[49]⟩)
theorem ZjE {b off c n:Nat} {bs:List BB} {w:World} {s t u v:ByteArray} (hn:bs.length=n) (hm:2<=n) (hm2:n<=64) (hf:bAt bs 0=((s,t),(u,v))) (hne:Hid (s.toList=[48]->t.toList=[49]->u.toList=[48]->¬ v.toList=[49])) (hz:bAt bs 0≠Zcc)
  (hS:∀ W,Below w.heap.size w W->SF b off s t u v W) :
  Calls Tryz.prog 80 #[.slice (some ⟨b,off,none⟩) n c] w (Zct bs w):=by
 have HE:Hid (ZeS bs 2):=.inr ⟨fun hc=>hz hc.first,rfl⟩
 have H:Hid ((decide ((2:Int)<=n) && decide ((n:Int)<=64))=true):=by show _=_;simp;omega
 have HS:=Zpe hS
 clear hf hn hS hz
 go_enter Tryz.func80,Tryz.ntmps80
 go_wp2
 have hbx:((w.alloc (.cells #[.int .i64 0] 30)).drew).heap[w.heap.size]?=some (.cells #[.int .i64 0] 30):=Zot w _
 have hb0:Below w.heap.size w ((w.alloc (.cells #[.int .i64 0] 30)).drew):=((Zoq _ w).alloc Zpf _).drew
 obtain⟨w1,hw1⟩:=Zpg (w.alloc (.cells #[.int .i64 0] 30))
 rw[hw1] at hbx hb0 ⊢
 have hSF:=HS.out _ hb0
 refine Zaf [(true,0),(true,1),(false,2),(true,3),(true,4),(true,5),(true,6),(true,7),(true,8),(true,9),(true,10),(true,11),(true,12)] (SF b off s t u v) (fun _=>false)
  Zb Zb (fun _ _=>rfl) Zi hSF ?_
 iterate 2
  refine Zr _ rfl rfl (fun w' hS=>Zf) ?_
  simp only[Act.put,Zl]
 refine Zt rfl rfl fun K hK=>?_
 go_simp
 go_at_call 128
 refine(Zbz _ 2 64 _).mono ?_
 rintro e w2 ⟨rfl,hb⟩
 rw[H.out]
 have hbx2:w2.heap[w.heap.size]?=some (.cells #[.int .i64 0] 30):=(hb.block _ (Zo9 hbx)).trans hbx
 have HB2:Zo8 w w2:=hb0.trans (hb.mono hb0.size)
 have HX2:=Zpe hbx2
 have hSF2:=HS.out _ HB2.out
 refine hK _ _ (.inr hSF2) ?_
 clear hK K hb hbx hb0 hbx2 hw1 hSF hSF2
 iterate 8
  refine Zr _ rfl rfl (fun w' hS=>by obtain⟨⟨a0,a1,a2,a3⟩,z0,z1⟩:=hS;exact Ze) ?_
  simp only[Act.put,Zl]
 refine Zr (.bool true) rfl rfl (fun w' hS=>by obtain⟨⟨a0,a1,a2,a3⟩,z0,z1⟩:=hS;go_simp;exact hne.out) ?_
 simp only[Act.put,Zl]
 iterate 1
  refine Zr _ rfl rfl (fun w' hS=>by obtain⟨⟨a0,a1,a2,a3⟩,z0,z1⟩:=hS;exact Ze) ?_
  simp only[Act.put,Zl]
 refine ZJ ?_
 have c0:=Zn HX2.out 0 rfl
 have f0:=Zo HX2.out 0
 go_wp2
 have q:(w2.setCell ⟨w.heap.size,0,none⟩ (.int .i64 2)).cell? ⟨w.heap.size,0,none⟩=some (.int .i64 2):=Zn (Zov HX2.out _) 0 rfl
 refine Zor (v:=.int .i64 2) (by simp[results,Tryz.f80,go_sem,q]) rfl ⟨2,rfl,HE.out,HB2.out.setCell (p:=⟨w.heap.size,0,none⟩) Zpf _⟩
abbrev SL2 (b o:Nat) (x y:ByteArray) (w':World):Prop:=(w'.cell? ⟨b,o+2,none⟩=some (.string x)/\w'.cell? ⟨b,o+3,none⟩=some (.string y))/\
 w'.cell? ⟨2,0,none⟩=some (.string ⟨#[49]⟩)/\w'.cell? ⟨2,1,none⟩=some (.string ⟨#[49]⟩)
structure CurveIn (b off r c:Nat) (bs:List BB) (w:World):Prop where
 len:bs.length=r+1
 two:1<=r
 most:r<=63
 cap:r+1<=c/\c<=9223372036854775807
 first:bAt bs 0=Zcc
 lim:∀ x ∈ bs,(x.1.1.size<=1000000/\x.1.2.size<=1000000)/\(x.2.1.size<=1000000/\x.2.2.size<=1000000)
 lt:b<w.heap.size
 cells:∀ W,Below w.heap.size w W->Zcz b off (r+1) bs W
 det:DetV w
 tabs:Tabs w
theorem CurveIn.bl {b off r c:Nat} {bs:List BB} {w W:World} (h:CurveIn b off r c bs w) (hW:Below w.heap.size w W):BL W (.slice (some ⟨b,off,none⟩) (r+1) c) bs:=by
 have h1:=h.len
 refine⟨_,c,by rw[h1],by rw[h1];exact h.cap.1,by unfold maxLen;exact h.cap.2,fun _=>⟨b,off,rfl,Zox h.lt hW.size,fun j hj=>?_⟩⟩
 have:=h.cells W hW j Za
 rwa [Zdz hj] at this
theorem CurveIn.sf {b off r c:Nat} {bs:List BB} {w W:World} (h:CurveIn b off r c bs w) (hW:Below w.heap.size w W):SF b off ⟨#[48]⟩ ⟨#[49]⟩ ⟨#[48]⟩ ⟨#[49]⟩ W:=by
 have h1:=h.cells W hW 0 Za
 rw[h.first,Nat.zero_mul,Nat.add_zero] at h1
 have hd:=h.det.below hW Zpf
 exact⟨h1,hd.z0,hd.z1⟩
theorem CurveIn.sl {b off r c:Nat} {bs:List BB} {w W:World} (h:CurveIn b off r c bs w) (hW:Below w.heap.size w W):SL2 b (off+r*4) (bAt bs r).2.1 (bAt bs r).2.2 W:=by
 have h1:=h.cells W hW r Za
 have hd:=h.det.below hW Zpf
 exact⟨⟨h1.2.2.1,h1.2.2.2⟩,hd.o0,hd.o1⟩
def ZaX (bs:List BB) (k:Nat):Bool:=!(Zw 18 (bAt bs k).1 && Zw 18 (bAt bs k).2)
theorem CurveIn.cf {b off r c:Nat} {bs:List BB} {w W:World} (h:CurveIn b off r c bs w) (hW:Below w.heap.size w W) :
  Calls Tryz.prog 129 #[.slice (some ⟨b,off,none⟩) (r+1) c,.func (.func 130) #[] #[]] W (Zed W (r+1) (ZaX bs)):=
 Zh0 (enters_of Tryz.func130 Zb rfl) (h.bl hW) h.len fun k hk W2 _=>by
  obtain⟨⟨z1,z2⟩,z3,z4⟩:=h.lim _ (ZjW (bs:=bs) (i:=k) (by rw[h.len];exact hk))
  exact ZgA _ _ _ _ z1 z2 z3 z4 W2
end Go.Proofs.YtmpaflidennnoaaGreatDoor
namespace Go.Proofs.YtmpaflidennnoaaGreatDoor
open Go.RowKit Go.Shelf
def isPB (q:Rat) (s t:ByteArray):Bool:=decide (0<=q) && decide (s=str (numD q)) && decide (t=str (denD q)) && decide (Fits q)
theorem Zek {q:Rat} {s t:ByteArray} (h:isPB q s t=true):IsP q s t:=by
 unfold isPB at h
 simp only[ZoY,ZoZ] at h
 exact⟨h.1.1.1,h.1.1.2,h.1.2,h.2⟩
def Zh8 (k:Nat):BB:=((str (Lib.decDigits k),⟨#[49]⟩),(str (Lib.decDigits (2 ^ k-1)),str (Lib.decDigits (2 ^ k))))
def Zal (n:Nat):List BB:=(List.range (n+1)).map Zh8
theorem ZbQ (n:Nat):(Zal n).length=n+1:=by simp[Zal]
theorem Zkh (n:Nat):Zal (n+1)=Zal n++[Zh8 (n+1)]:=by
 unfold Zal
 rw[List.range_succ,List.map_append]
 rfl
theorem Zlh:Zh8 0=Zcc:=by decide +kernel
theorem Zbn:CurveP (Zal 2) where
 len:=by decide +kernel
 first:=by decide +kernel
 small:=fun i h=>by
  have h2:i<3:=by rw[ZbQ] at h;exact h
  match i,h2 with
  | 0,_=>decide +kernel
  | 1,_=>decide +kernel
  | 2,_=>decide +kernel
 top:=fun i h=>by
  have h2:i<3:=by rw[ZbQ] at h;exact h
  match i,h2 with
  | 0,_=>decide +kernel
  | 1,_=>decide +kernel
  | 2,_=>decide +kernel
 up:=fun i h=>by
  have h2:i+1<3:=by rw[ZbQ] at h;exact h
  match i,h2 with
  | 0,_=>decide +kernel
  | 1,_=>decide +kernel
 conc:=fun i h=>by
  have h2:i+2<3:=by rw[ZbQ] at h;exact h
  obtain rfl:i=0:=Za
  unfold slp
  decide +kernel
theorem Zj6 {n:Nat} {x:List UInt8} (h:Lib.decDigits n=x) (hx:x.length<=600):IsP (n:Nat) (str x) (str [49]):=by
 have h1:numD ((n:Nat):Rat)=x:=by unfold numD;rw[Rat.num_natCast,Int.toNat_natCast,h]
 have h2:denD ((n:Nat):Rat)=[49]:=by unfold denD;rw[Rat.den_natCast,ZbW]
 exact⟨Rat.natCast_nonneg,by rw[h1],by rw[h2],by unfold Fits;rw[h1,h2];exact⟨hx,Zd⟩⟩
theorem Zad:IsP 0 (⟨#[48]⟩:ByteArray) (⟨#[49]⟩:ByteArray):=by have:=Zj6 (n:=0) Zbr Zd;exact this
theorem Zfx:IsP 1 (⟨#[49]⟩:ByteArray) (⟨#[49]⟩:ByteArray):=by have:=Zj6 (n:=1) ZbW Zd;exact this
theorem IsP.num_zero {q:Rat} {s t:ByteArray} (h:IsP q s t):(s.toList==[48])=true<->q=0:=by
 have e:s.toList=s.data.toList:=ZoN ..
 rw[e,beq_iff_eq]
 constructor
 ·intro h1
  refine h.inj Zad ?_ ?_ |>.trans rfl
  ·rw[<- ZaZ s,h1];rfl
  ·have h2:q.num.toNat=0:=by rw[<- h.vals.1,h1];rfl
   have h3:=Zac h.nn
   rw[h2] at h3
   have h4:=Rat.num_eq_zero.1 h3.symm
   subst h4
   exact(h.same Zad rfl).2
 ·rintro rfl
  rw[(h.same Zad rfl).1]
theorem IsP.pos {q:Rat} {s t:ByteArray} (h:IsP q s t) (h0:q≠0):0<q:=Rat.lt_of_le_of_ne h.nn (Ne.symm h0)
theorem Own.mono {w:World} {b c:Nat} {v:Value} {ps:List PP} (h:Own w c v ps) (hb:b<=c):Own w b v ps:=by
 obtain⟨h1,h2⟩:=h
 refine⟨h1,?_⟩
 rcases h2 with h2 | ⟨g,cap,cur,hv,hb',hr⟩
 ·exact .inl h2
 ·exact .inr ⟨g,cap,cur,hv,Za,hr⟩
end Go.Proofs.YtmpaflidennnoaaGreatDoor
