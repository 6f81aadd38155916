/- The parts StepsF, Pairs, Rise, StepsIn, CheckCurve, Halv, Sum, CurveB, Range2, DTried. -/
import Derived.Test.YtmpaflidennnoaaGreatDoorH06
set_option maxRecDepth 100000
set_option maxHeartbeats 4000000
set_option linter.unusedVariables false
set_option linter.unusedSimpArgs false
namespace Go.Proofs.YtmpaflidennnoaaGreatDoor
open Go.RowKit
section
variable {F:Fence} {n:Nat} {P:Program} {ops:Array Oper} {Q:Exit->Act->World->Prop} {md:Region.Mode} {S:World->Prop} {bar:Nat->Bool}
def ZaD (P:Program) (ops:Array Oper) (S:World->Prop) (o:Oper) (v:Value) (a:Act):Prop:=YieldsIf P ops S o v a/\∀ w,o.about P w a.eval=none
theorem ZaD.wpOpIn {i:Nat} {o:Oper} {v:Value} {a:Act} (hro:F.round=none) (hi:ops[i]?=some o) (hy:ZaD P ops S o v a)
  {K:Act->World->Prop} {w:World} (hS:S w) (h:K (a.put o.dst v) w):wpOpIn F n P ops Q i K a w:=by
 unfold Go.wpOpIn
 simp only[hi]
 have hab:∀ f,o.about P w a.eval=some f->F.fn f:=fun f hf=>by rw[hy.2 w] at hf;cases hf
 rcases hy.1 with ⟨hw,hv⟩ | ⟨hw,rfl⟩
 ·simp only[hw,if_true,Oper.wpIn,hro,Oper.semAt_none,hv w hS,Oper.uponIn];exact⟨hab,h⟩
 ·simp only[hw,Bool.false_eq_true,if_false];exact⟨hab,h⟩
theorem ZaD.of_same {o:Oper} {v:Value} {a a':Act} (hy:ZaD P ops S o v a) (he:execOp a'.eval o=execOp a.eval o)
  (hw:Region.wanted o (yielded ops a'.tmps)=Region.wanted o (yielded ops a.tmps)) (hb:∀ w,o.about P w a'.eval=o.about P w a.eval):ZaD P ops S o v a':=
 ⟨hy.1.of_same he hw,fun w=>by rw[hb w];exact hy.2 w⟩
theorem ZiQ {j:Nat} {oi oj:Oper} {v:Value} (hro:F.round=none) (hj:ops[j]?=some oj) (hap:oi.apart ops oj=true)
  (hsi:∀ cs b,oi.op≠.select cs b) (hsj:∀ cs b,oj.op≠.select cs b)
  (hQ:∀ c a w,Q (.panic c) (a.put oi.dst v) w->Q (.panic c) a w) {K:Act->World->Prop} {a:Act} {w:World}
  (hy:ZaD P ops S oi v a) (h:wpOpIn F n P ops Q j K (a.put oi.dst v) w) :
  wpOpIn F n P ops Q j (fun a' w'=>ZaD P ops S oi v a'/\K (a'.put oi.dst v) w') a w:=by
 obtain⟨h1,h2,h3⟩:=Oper.apart_spec hap
 have keep:∀ (a:Act),ZaD P ops S oi v a->∀ u,ZaD P ops S oi v (a.put oj.dst u):=fun a hy u=>
  hy.of_same (execOp_put oi hsi a oj.dst u h3) (wanted_put oi a oj.dst u h3) (fun w=>about_put oi w a oj.dst u h3)
 have keepD:∀ d,ZaD P ops S oi v { a with defers:=d::a.defers }:=fun d=>hy.of_same rfl rfl (fun _=>rfl)
 unfold wpOpIn at *
 simp only[hj] at *
 rw[wanted_put oj a oi.dst v h1,about_put oj w a oi.dst v h1] at h
 split
 ·rename_i hw
  simp only[hw,if_true] at h
  unfold Oper.wpIn at *
  rw[about_put oj w a oi.dst v h1] at h
  refine⟨h.1,?_⟩
  have h:=h.2
  rw[hro,Oper.semAt_none,execOp_put oj hsj a oi.dst v h1] at h
  rw[hro,Oper.semAt_none]
  generalize (execOp a.eval oj).run P w=r at *
  cases r with
  | ok x w'=>
   cases x<;>simp only[Oper.uponIn] at h ⊢
   case value u=>exact⟨keep a hy u,by rw[<- Act.put_comm a v u h2];exact h⟩
   case skip=>exact⟨keep a hy _,by rw[<- Act.put_comm a v undef h2];exact h⟩
   case defer d=>
    refine⟨keep _ (keepD d) _,?_⟩
    rw[<- Act.put_comm _ v undef h2,<- Act.put_defers]
    exact h
   case enter f args=>
    refine⟨h.1,CallsIn.mono h.2 fun e w'' he=>?_⟩
    cases e with
    | returned u=>exact⟨keep a hy u,by rw[<- Act.put_comm a v u h2];exact he⟩
    | panicked c=>exact hQ _ _ _ he
    | outgrown=>exact he
   case row row args=>exact⟨h.1,RowsIn.mono h.2 fun u w'' he=>⟨keep a hy u,by rw[<- Act.put_comm a v u h2];exact he⟩⟩
   case round l f tmps assign body=>
    refine⟨h.1,RoundIn.mono h.2 fun e w'' he=>?_⟩
    cases e with
    | returned u=>exact⟨keep a hy u,by rw[<- Act.put_comm a v u h2];exact he⟩
    | panicked c=>exact hQ _ _ _ he
    | outgrown=>exact he
  | halt x w'=>
   cases x<;>simp only[Oper.uponIn] at h ⊢
   case panic u=>exact hQ _ _ _ h
 ·rename_i hw
  simp only[hw] at h
  exact⟨h.1,keep a hy _,by rw[<- Act.put_comm a v undef h2];exact h.2⟩
def Zcm (md:Region.Mode) (ops:Array Oper):Nat->Nat->Nat->Bool
 | 0,_,_=>false
 | f+1,j,i=>Region.waitsFor md ops j i || (List.range ops.size).any fun m=>Region.waitsFor md ops j m && Zcm md ops f m i
def Zao (md:Region.Mode) (ops:Array Oper) (listed:Array Bool):Prop:=∀ j m,listed.getD j true=true->Region.waitsFor md ops j m=true->listed.getD m true=true
theorem Zj2 {j m:Nat} (h:Region.waitsFor md ops j m=true):j<ops.size:=by
 obtain⟨oj,hoj,_⟩:=Region.waitsFor_spec h
 exact(Zpu hoj)
theorem Zb9 {listed:Array Bool} (hc:Zao md ops listed) {i:Nat} (hi:listed.getD i true=false):∀ (f j:Nat),Zcm md ops f j i=true->listed.getD j true=false/\j ∉ Region.ready md ops listed
 | 0,_,h=>by cases h
 | f+1,j,h=>by
  have key:∀ m,Region.waitsFor md ops j m=true->listed.getD m true=false->listed.getD j true=false/\j ∉ Region.ready md ops listed:=fun m hw hm=>by
   refine⟨?_,fun hj=>?_⟩
   ·cases hl:listed.getD j true with
    | false=>rfl
    | true=>rw[hc j m hl hw] at hm;cases hm
   ·obtain⟨oj,hoj,e,he,hb,hon⟩:=Region.waitsFor_spec hw
    obtain⟨_,oj',hoj',hall⟩:=mem_ready.1 hj
    have:oj'=oj:=ZoP (hoj'.symm.trans hoj)
    subst this
    have h1:=hall e he hb
    rw[hon] at h1
    rcases ZoR m listed.size with h' | h'
    ·simp[h'] at hm h1;rw[hm] at h1;cases h1
    ·simp[Array.getElem?_eq_none h'] at h1 hm
  unfold Zcm at h
  rw[Bool.or_eq_true] at h
  rcases h with h | h
  ·exact key i h hi
  ·obtain⟨m,_,hm⟩:=List.any_eq_true.1 h
   rw[Zpj] at hm
   exact key m hm.1 (Zb9 hc hi f m hm.2).1
theorem Zao.step {listed:Array Bool} (hc:Zao md ops listed) {j:Nat} (hj:j ∈ Region.ready md ops listed):Zao md ops (listed.setIfInBounds j true):=by
 intro k m hk hw
 have up:∀ m,listed.getD m true=true->(listed.setIfInBounds j true).getD m true=true:=fun m hm=>by
  by_cases e:j=m
  ·subst e
   rcases ZoR j listed.size with h' | h'
   ·simp[h']
   ·simp[h']
  ·rw[getD_set_ne true e];exact hm
 by_cases e:j=k
 ·subst e
  obtain⟨oj,hoj,x,hx,hb,hon⟩:=Region.waitsFor_spec hw
  obtain⟨_,oj',hoj',hall⟩:=mem_ready.1 hj
  have:oj'=oj:=ZoP (hoj'.symm.trans hoj)
  subst this
  have h1:=hall x hx hb
  rw[hon] at h1
  refine up m ?_
  rcases ZoR m listed.size with h' | h'
  ·simp[h'] at h1 ⊢;exact h1
  ·simp[Array.getElem?_eq_none h'] at h1 ⊢
 ·rw[getD_set_ne true e] at hk
  exact up m (hc k m hk hw)
theorem Zao.start:Zao md ops (Array.replicate ops.size false):=by
 intro j m hj hw
 have:=Zj2 hw
 simp[this] at hj
def Zcl (md:Region.Mode) (ops:Array Oper) (bar:Nat->Bool) (i:Nat):Prop:=∀ j,bar j=true->j≠i->Zcm md ops ops.size j i=true
def wpJF (F:Fence) (n:Nat) (P:Program) (md:Region.Mode) (ops:Array Oper) (Q:Exit->Act->World->Prop) (S:World->Prop) (bar:Nat->Bool):Nat->Array Bool->Act->World->Prop
 | 0,listed,a,w=>Region.ready md ops listed=[]/\Q .normal a w
 | fuel+1,listed,a,w=>(Region.ready md ops listed=[]->Q .normal a w)/\
  ∀ i ∈ Region.ready md ops listed,wpOpIn F n P ops Q i (fun a' w'=>(bar i=true\/S w')/\wpJF F n P md ops Q S bar fuel (listed.setIfInBounds i true) a' w') a w
theorem ZeZ:∀ (fuel:Nat) (listed:Array Bool) (a:Act) (w:World),wpJF F n P md ops Q S bar fuel listed a w->wpAnyIn F n P md ops Q fuel listed a w
 | 0,_,_,_,h=>h
 | fuel+1,_,_,_,h=>⟨h.1,fun i hi=>wpOpIn_mono (fun a' w' h'=>ZeZ fuel _ a' w' h'.2) (h.2 i hi)⟩
theorem Zgt {i:Nat} {oi:Oper} {v:Value} (hro:F.round=none) (hi:ops[i]?=some oi) (hsel:Region.noSelect ops=true) (hQ:∀ c a w,Q (.panic c) (a.put oi.dst v) w->Q (.panic c) a w) (hbar:Zcl md ops bar i) (hbi:bar i=false) :
  ∀ (fuel:Nat) (listed:Array Bool) (a:Act) (w:World),Zao md ops listed->
   (∀ j oj,ops[j]?=some oj->j≠i->listed.getD j true=false->(∀ e ∈ oj.after,Region.binds md e=true->e.on≠i)->oi.apart ops oj=true)->
   i ∈ Region.ready md ops listed->ZaD P ops S oi v a->S w->
   wpJF F n P md ops Q S bar fuel (listed.setIfInBounds i true) (a.put oi.dst v) w->wpJF F n P md ops Q S bar (fuel+1) listed a w
 | 0,listed,a,w,_,_,hr,hy,hS,H=>by
  refine⟨fun h=>(by rw[h] at hr;cases hr),fun j hj=>?_⟩
  by_cases hji:j=i
  ·subst hji;exact hy.wpOpIn hro hi hS ⟨.inr hS,H⟩
  ·have:=ready_mono hj hji
   rw[H.1] at this
   cases this
 | fuel+1,listed,a,w,hcl,hfree,hr,hy,hS,H=>by
  refine⟨fun h=>(by rw[h] at hr;cases hr),fun j hj=>?_⟩
  by_cases hji:j=i
  ·subst hji;exact hy.wpOpIn hro hi hS ⟨.inr hS,H⟩
  ·have hbj:bar j=false:=by
    cases hb:bar j with
    | false=>rfl
    | true=>exact Zpp hj (Zb9 hcl (mem_ready.1 hr).1 _ _ (hbar j hb hji)).2
   obtain⟨hjun,oj,hoj,hall⟩:=mem_ready.1 hj
   have hnot:∀ e ∈ oj.after,Region.binds md e=true->e.on≠i:=fun e he hb heq=>by
    have:Region.waitsFor md ops j i=true:=by
     unfold Region.waitsFor
     rw[hoj]
     exact Array.any_eq_true'.2 ⟨e,he,by simp[hb,heq]⟩
    exact Zaz hr this hj
   have h2:=ZiQ hro hoj (hfree j oj hoj hji hjun hnot) (fun cs b=>Region.noSelect_spec hsel i oi cs b hi) (fun cs b=>Region.noSelect_spec hsel j oj cs b hoj) hQ hy (H.2 j (ready_mono hj hji))
   refine wpOpIn_mono (fun a' w' h3=>?_) h2
   have hS':S w':=by
    rcases h3.2.1 with h4 | h4
    ·rw[hbj] at h4;cases h4
    ·exact h4
   refine⟨.inr hS',Zgt hro hi hsel hQ hbar hbi fuel (listed.setIfInBounds j true) a' w' (hcl.step hj) (fun k ok hk hki hun hno=>?_) (ready_mono hr (Ne.symm hji)) h3.1 hS' ?_⟩
   ·refine hfree k ok hk hki ?_ hno
    by_cases hjk:j=k
    ·subst hjk;exact hjun
    ·rw[getD_set_ne true hjk] at hun;exact hun
   ·rw[Array.setIfInBounds_comm _ _ hji]
    exact h3.2.2
def Zcd (md:Region.Mode) (ops:Array Oper) (bar:Nat->Bool):List (Bool×Nat)->Array Bool->Bool
 | [],listed=>decide (Region.ready md ops listed=[])
 | (true,k)::ks,listed=>(Region.ready md ops listed).contains k && Region.free md ops listed k && !bar k && ((List.range ops.size).all fun j=>!bar j || decide (j=k) || Zcm md ops ops.size j k) && Zcd md ops bar ks (listed.setIfInBounds k true)
 | (false,k)::ks,listed=>decide (Region.ready md ops listed=[k]) && (!bar k || ks.all fun b=>!b.1) && Zcd md ops bar ks (listed.setIfInBounds k true)
def ZcI (F:Fence) (n:Nat) (P:Program) (ops:Array Oper) (Q:Exit->Act->World->Prop) (S:World->Prop) (bar:Nat->Bool):List (Bool×Nat)->Act->World->Prop
 | [],a,w=>Q .normal a w
 | (true,i)::ks,a,w=>∃ o v,ops[i]?=some o/\ZaD P ops S o v a/\ZcI F n P ops Q S bar ks (a.put o.dst v) w
 | (false,i)::ks,a,w=>∃ o,ops[i]?=some o/\Region.wanted o (yielded ops a.tmps)=true/\o.wpIn F n P a w (fun a' w'=>(bar i=true\/S w')/\ZcI F n P ops Q S bar ks a' w') Q
theorem ZcV (hro:F.round=none) (hsel:Region.noSelect ops=true) (hQ:∀ c a o v w,Q (.panic c) (a.put o v) w->Q (.panic c) a w) (hbo:∀ j,ops.size<=j->bar j=false) :
  ∀ (ks:List (Bool×Nat)) (listed:Array Bool) (a:Act) (w:World),Zcd md ops bar ks listed=true->Zao md ops listed->
   (S w\/ks.all (fun b=>!b.1)=true)->ZcI F n P ops Q S bar ks a w->wpJF F n P md ops Q S bar ks.length listed a w
 | [],listed,a,w,hB,_,_,h=>⟨of_decide_eq_true hB,h⟩
 | (true,k)::ks,listed,a,w,hB,hC,hS,h=>by
  simp only[Zcd,Zpj] at hB
  obtain⟨⟨⟨⟨hr,hf⟩,hbk⟩,hw⟩,hB'⟩:=hB
  have hSw:S w:=by
   rcases hS with hS | hS
   ·exact hS
   ·simp at hS
  obtain⟨o,v,h0,hy,hrest⟩:=h
  have hbk':bar k=false:=by simpa using hbk
  have hwait:Zcl md ops bar k:=fun j hj hne=>by
   have hjl:j<ops.size:=by
    rcases ZoR j ops.size with h' | h'
    ·exact h'
    ·rw[hbo j h'] at hj;cases hj
   rw[Zpo] at hw
   have:=hw j (List.mem_range.2 hjl)
   rw[hj] at this
   simpa[hne] using this
  have ih:=ZcV hro hsel hQ hbo ks (listed.setIfInBounds k true) (a.put o.dst v) w hB' (hC.step (by simpa using hr)) (.inl hSw) hrest
  rw[Zpl]
  exact Zgt hro h0 hsel (fun c a w=>hQ c a o.dst v w) hwait hbk' ks.length listed a w hC (Region.free_spec h0 hf) (by simpa using hr) hy hSw ih
 | (false,k)::ks,listed,a,w,hB,hC,hS,h=>by
  simp only[Zcd,Zpj,Zpk] at hB
  obtain⟨⟨hr,hbk⟩,hB'⟩:=hB
  obtain⟨o,h0,hw,h⟩:=h
  refine⟨fun h1=>(by rw[h1] at hr;cases hr),fun i hi=>?_⟩
  rw[hr] at hi
  obtain rfl:i=k:=by simpa using hi
  have ih:=fun a' w' (hs:bar i=true\/S w') h'=>ZcV hro hsel hQ hbo ks (listed.setIfInBounds i true) a' w' hB' (hC.step (by rw[hr];simp)) (by
   rcases hs with hs | hs
   ·rw[hs] at hbk
    exact .inr (by simpa using hbk)
   ·exact .inl hs) h'
  unfold wpOpIn
  simp only[h0]
  simp only[hw,if_true]
  exact Oper.wpIn_mono (fun a' w' h'=>⟨h'.1,ih a' w' h'.1 h'.2⟩) h
def ZeR (l:List Oper) (ks:List (Bool×Nat)) (bar:Nat->Bool):Bool:=
 Region.noSelect l.toArray && decide (ks.length=l.length) && Zcd .any l.toArray bar ks (Array.replicate l.toArray.size false)
theorem Ziq {id:Nat} {a:Act} {w:World} {l:List Oper} (ks:List (Bool×Nat)) (S:World->Prop) (bar:Nat->Bool) (hro:F.round=none) (hm:P.follows .mixedOrders=true)
  (hB:ZeR l ks bar=true) (hbo:∀ j,l.length<=j->bar j=false) (hQ:∀ c a o v w,Q (.panic c) (a.put o v) w->Q (.panic c) a w) (hS:S w.drew)
  (H:ZcI F n P l.toArray Q S bar ks a w.drew):(Code.region id l.toArray true).wpIn F n P Q a w:=by
 simp only[ZeR,Zpj,Zpk] at hB
 obtain⟨⟨hsel,hn⟩,hm2⟩:=hB
 have:=ZeZ _ _ _ _ (ZcV (F:=F) (n:=n) hro hsel hQ (fun j hj=>hbo j (by simpa using hj)) ks _ a w.drew hm2 Zao.start (.inl hS) H)
 rw[hn] at this
 exact wpIn_region_any hm (by simpa using this)
theorem ZjA {i:Nat} {o:Oper} {ks:List (Bool×Nat)} {a:Act} {w:World} (v:Value) (ho:ops[i]?=some o) (hw:Region.wanted o (yielded ops a.tmps)=true) (hab:∀ w,o.about P w a.eval=none) (hv:∀ w,S w->(execOp a.eval o).run P w=.ok (.value v) w)
  (h:ZcI F n P ops Q S bar ks (a.put o.dst v) w):ZcI F n P ops Q S bar ((true,i)::ks) a w:=⟨o,v,ho,⟨.inl ⟨hw,hv⟩,hab⟩,h⟩
theorem ZdL {i:Nat} {o:Oper} {ks:List (Bool×Nat)} {a:Act} {w:World} (ho:ops[i]?=some o) (hw:Region.wanted o (yielded ops a.tmps)=true)
  (h:∀ K:Act->World->Prop,(∀ a' w',(bar i=true\/S w')->ZcI F n P ops Q S bar ks a' w'->K a' w')->o.wpIn F n P a w K Q):ZcI F n P ops Q S bar ((false,i)::ks) a w:=
 ⟨o,ho,hw,h _ fun _ _ h1 h2=>⟨h1,h2⟩⟩
theorem ZgL {a:Act} {w:World} (h:Q .normal a w):ZcI F n P ops Q S bar [] a w:=h
end
end Go.Proofs.YtmpaflidennnoaaGreatDoor
namespace Go.Proofs.YtmpaflidennnoaaGreatDoor
open Go.RowKit Go.Shelf
attribute [local go_sem] Oper.semAt_some
def ZcN (b off n:Nat) (bs:List BB) (W:World):Prop:=∀ k,k<n->
 W.cell? ⟨b,off+k*4,none⟩=some (.string (bAt bs k).1.1)/\W.cell? ⟨b,off+k*4+1,none⟩=some (.string (bAt bs k).1.2)/\W.cell? ⟨b,off+k*4+2,none⟩=some (.string (bAt bs k).2.1)/\W.cell? ⟨b,off+k*4+3,none⟩=some (.string (bAt bs k).2.2)
theorem ZcN.keeps {b off n:Nat} {bs:List BB} {S:Nat->Prop} {w w':World} (h:ZcN b off n bs w) (hk:Keeps S w w') (hs:S b):ZcN b off n bs w':=
 fun k hl=>⟨hk.cellAt (h k hl).1 hs,hk.cellAt (h k hl).2.1 hs,hk.cellAt (h k hl).2.2.1 hs,hk.cellAt (h k hl).2.2.2 hs⟩
theorem Zg1 (Bs b off n cap:Nat) (S:Nat->Prop) (bs:List BB) (h1:2<=n) (hl:n<=64) (hcap:n<=cap) (hmax:cap<=9223372036854775807) (w0:World) (hS:S Bs) (hSb:S b)
  (hBs:w0.cell? ⟨Bs,0,none⟩=some (.slice (some ⟨b,off,none⟩) n cap)) (hp:ZcN b off n bs w0) :
  Iter Tryz.prog 179 #[.pointer (some ⟨Bs,0,none⟩)] (fun k=>#[bV (bAt bs k),bV (bAt bs (k+1))]) (n-1) S (fun _=>True) w0:=by
 intro m l J Jx W hK hJ hJx hY h0
 have hB1:W.cell? ⟨Bs,0,none⟩=some (.slice (some ⟨b,off,none⟩) n cap):=hK.cellAt hBs hS
 have HP:Hid (ZcN b off n bs W):=hp.keeps hK hSb
 have HY:=Zpz hY
 have HJ:=Zpz hJ
 clear hp hY hBs hJ
 obtain⟨r,rfl⟩:∃ r,n=r+1:=⟨n-1,Za⟩
 rw[Zpe] at *
 have hc1:¬ cap=1:=Za
 refine callsIn_of_wp Tryz.func179 rfl trivial ?_ rfl
 simp only[Tryz.ntmps179,Nat.reduceAdd,Nat.reduceSub,Zpy]
 gi_wp2
 gi_loopw [7] (fun iv wr=>∃ k:Nat,iv=.int .i64 k/\k<=r/\J k wr/\Hid (Keeps S W wr)) (fun iv _=>r-(intOf iv).toNat)
 case atStart=>exact⟨0,rfl,ZoY _,h0,Keeps.refl _ _⟩
 case round=>
  obtain⟨k,rfl,hk,hJs,HN⟩:=hrel
  have hB2:wr.drew.cell? ⟨Bs,0,none⟩=some (.slice (some ⟨b,off,none⟩) (r+1) cap):=(HN.out.drew).cellAt hB1 hS
  by_cases hlt:k<r
  ·obtain⟨s,hs⟩:=ZpB (bAt bs k)
   obtain⟨t,ht⟩:=ZpB (bAt bs (k+1))
   obtain⟨⟨s0,s1⟩,s2,s3⟩:=s
   obtain⟨⟨t0,t1⟩,t2,t3⟩:=t
   have hcl:=HP.out.keeps HN.out.drew hSb
   obtain⟨a0,a1,a2,a3⟩:=hcl k Za
   obtain⟨b0,b1,b2,b3⟩:=hcl (k+1) Za
   rw[hs] at a0 a1 a2 a3
   rw[ht] at b0 b1 b2 b3
   simp only at a0 a1 a2 a3 b0 b1 b2 b3
   have hJd:=HJ.out _ _ _ hJs (Keeps.refl (fun _=>True) wr).drew
   obtain⟨fn,tmps,assign,body,hy,hR⟩:=HY.out k wr.drew hlt hJd
   rw[hs,ht] at hy
   simp only[bV] at hy
   clear hcl hs ht hJs hJd
   have e1:IntKind.i64.wrap ((k:Int)+1)=((k+1:Nat):Int):=by rw[Zpm _ Za];rfl
   have i1:(k:Int)<(r:Int)+1:=Za
   have i2:((k+1:Nat):Int)<(r:Int)+1:=Za
   gi_wp2
   refine Ziq [(true,0),(true,1),(true,2),(true,3),(true,4),(true,5),(true,6),(true,7),(true,8),(true,9),(false,10),(false,11)] (fun w'=>w'=wr.drew) (fun j=>j==10 || j==11) rfl Zb Zb (fun j hj=>by simp at hj ⊢;omega)
    Zi rfl ?_
   iterate 10
    refine ZjA _ rfl rfl (fun _=>rfl) (fun w' hS=>by subst hS;go_simp;first | rfl | (simp only[e1,i1,i2,Int.natCast_nonneg,Int.toNat_natCast,and_self,if_true];rfl)) ?_
    simp only[Act.put,Zm]
   refine ZdL rfl rfl fun K hK=>?_
   go_simp
   refine⟨(fun h=>by cases h),hR.mono ?_⟩
   rintro e W3 (⟨rfl,hJ3,hk3⟩ | ⟨rfl,hJx3⟩)
   ·have HN3:=Zpz (HN.out.drew.trans hk3)
    clear hk3 a0 a1 a2 a3 b0 b1 b2 b3 hy hR
    refine hK _ _ (.inl rfl) ?_
    clear hK K
    refine ZdL rfl rfl fun K hK=>?_
    go_simp
    refine hK _ _ (.inl rfl) ?_
    clear hK K
    refine ZgL ?_
    gi_wp2
    go_roundw
    case rel=>exact⟨k+1,by go_num,Za,hJ3,HN3⟩
    case measure=>exact Zj
   ·clear a0 a1 a2 a3 b0 b1 b2 b3 hy hR
    refine hK _ _ (.inl rfl) ?_
    clear hK K
    refine ZdL rfl rfl fun K hK=>?_
    go_simp
    refine hK _ _ (.inl rfl) ?_
    clear hK K
    refine ZgL ?_
    gi_wp2
    refine ZoM (results_none rfl _ _ _) rfl ?_
    exact⟨⟨_,rfl⟩,.inr ⟨k,hlt,hJx3⟩⟩
  ·obtain rfl:k=r:=Za
   gi_wp2
   go_end0
   exact⟨⟨_,rfl⟩,.inl hJs⟩
theorem ZhK (p:Option Addr) (len cap:Nat) (w:World) :
  Calls Tryz.prog 132 #[.slice p len cap] w fun e w'=>e=.returned (.func (.func 179) #[] #[.pointer (some ⟨w.heap.size,0,none⟩)])/\w'=w.alloc (.cells #[.slice p len cap] 72):=by
 go_enter Tryz.func132,Tryz.ntmps132
 go_wp2
 go_ret
 exact⟨rfl,rfl⟩
end Go.Proofs.YtmpaflidennnoaaGreatDoor
namespace Go.Proofs.YtmpaflidennnoaaGreatDoor
open Go.RowKit Go.Shelf
attribute [local go_sem ↓] Go.wp_at_zero Go.wp_at_succ
abbrev S8 (g:Nat) (s0 t0 u0 v0 s1 t1 u1 v1:ByteArray) (w':World):Prop:=w'.cell? ⟨g,0,none⟩=some (.string s0)/\w'.cell? ⟨g,1,none⟩=some (.string t0)/\w'.cell? ⟨g,2,none⟩=some (.string u0)/\w'.cell? ⟨g,3,none⟩=some (.string v0)/\
 w'.cell? ⟨g+1,0,none⟩=some (.string s1)/\w'.cell? ⟨g+1,1,none⟩=some (.string t1)/\w'.cell? ⟨g+1,2,none⟩=some (.string u1)/\w'.cell? ⟨g+1,3,none⟩=some (.string v1)
theorem ZnW {a b c d:Rat} {s0 t0 u0 v0 s1 t1 u1 v1 x1 y1 x2 y2 x y:ByteArray} (hc:IsP c s0 t0) (ha:IsP a u0 v0) (hd:IsP d s1 t1) (hb:IsP b u1 v1) (h1:IsP (b-a) x1 y1) (h2:IsP (d-c) x2 y2) (h3:IsP ((b-a)/(d-c)) x y) (hp:0<d-c)
  (w:World) (hT:Tabs w):Calls Tryz.prog 133 #[.agg #[.string s0,.string t0,.string u0,.string v0],.agg #[.string s1,.string t1,.string u1,.string v1]] w (Z1 (pV x y) w):=by
 have HC:=Zpz hc
 have HA:=Zpz ha
 have HD:=Zpz hd
 have HBB:=Zpz hb
 have H1:=Zpz h1
 have H2:=Zpz h2
 have H3:=Zpz h3
 have HP:=Zpz hp
 have HT:=Zpz hT
 clear hc ha hd hb h1 h2 h3 hp hT
 go_enter Tryz.func133,Tryz.ntmps133
 go_wp2_with fail
 obtain⟨w0,hw0⟩:=ZpB (((w.alloc (bO s0 t0 u0 v0)).alloc (bO s1 t1 u1 v1)).alloc (pObj Zpv Zpv))
 rw[hw0]
 have HX0:Hid (Zv w.heap.size [bO s0 t0 u0 v0,bO s1 t1 u1 v1,pObj Zpv Zpv] w0.drew):=by rw[<- hw0];exact(Zv.three w _ _ _).drew
 have HB0:Hid (Below w.heap.size w w0.drew):=by rw[<- hw0];exact((((ZoL _ w).alloc ZpA _).alloc Zc _).alloc (by simp<;>omega) _).drew
 clear hw0
 have a0:=HX0.out.cell 0 0 (b:=w.heap.size) rfl rfl rfl
 have a1:=HX0.out.cell 0 1 (b:=w.heap.size) rfl rfl rfl
 have a2:=HX0.out.cell 0 2 (b:=w.heap.size) rfl rfl rfl
 have a3:=HX0.out.cell 0 3 (b:=w.heap.size) rfl rfl rfl
 have b0:=HX0.out.cell 1 0 (b:=w.heap.size+1) rfl rfl rfl
 have b1:=HX0.out.cell 1 1 (b:=w.heap.size+1) rfl rfl rfl
 have b2:=HX0.out.cell 1 2 (b:=w.heap.size+1) rfl rfl rfl
 have b3:=HX0.out.cell 1 3 (b:=w.heap.size+1) rfl rfl rfl
 have hS0:S8 w.heap.size s0 t0 u0 v0 s1 t1 u1 v1 w0.drew:=⟨a0,a1,a2,a3,b0,b1,b2,b3⟩
 refine Zag [(true,0),(true,1),(true,2),(true,3),(true,8),(true,9),(true,10),(true,11),(false,4),(true,5),(true,6),(false,7),(false,12),(true,13),(true,14),(false,15),(false,16),(true,17),(true,18),(false,19),(false,20)] (S8 w.heap.size s0 t0 u0 v0 s1 t1 u1 v1) (fun _=>false)
  Zb Zb (fun _ _=>rfl) Zi hS0 ?_
 clear hS0
 iterate 8
  refine Zr _ rfl rfl (fun w' hS=>by obtain⟨a0,a1,a2,a3,b0,b1,b2,b3⟩:=hS;exact Zf) ?_
  simp only[Act.put,Zm]
 refine Zt rfl rfl fun K hK=>?_
 go_simp
 go_at_call 104
 refine(ZdR HBB.out HA.out H1.out rfl _ (HT.out.below HB0.out ZpA)).mono ?_
 rintro e w1 ⟨rfl,hb⟩
 have HX1:=Zpz (HX0.out.below hb HX0.out.lt)
 have HB1:Zpt w w1:=HB0.out.trans (hb.mono HB0.out.size)
 clear a0 a1 a2 a3 b0 b1 b2 b3
 have a0:=HX1.out.cell 0 0 (b:=w.heap.size) rfl rfl rfl
 have a1:=HX1.out.cell 0 1 (b:=w.heap.size) rfl rfl rfl
 have a2:=HX1.out.cell 0 2 (b:=w.heap.size) rfl rfl rfl
 have a3:=HX1.out.cell 0 3 (b:=w.heap.size) rfl rfl rfl
 have b0:=HX1.out.cell 1 0 (b:=w.heap.size+1) rfl rfl rfl
 have b1:=HX1.out.cell 1 1 (b:=w.heap.size+1) rfl rfl rfl
 have b2:=HX1.out.cell 1 2 (b:=w.heap.size+1) rfl rfl rfl
 have b3:=HX1.out.cell 1 3 (b:=w.heap.size+1) rfl rfl rfl
 refine hK _ _ (.inr ⟨a0,a1,a2,a3,b0,b1,b2,b3⟩) ?_
 clear hK K hb
 iterate 2
  refine Zr _ rfl rfl (fun w' hS=>Zf) ?_
  simp only[Act.put,Zm]
 refine Zt rfl rfl fun K hK=>?_
 go_simp
 go_at_call 180
 refine(ZbM x1 y1 _).mono ?_
 rintro e w2 ⟨rfl,hb⟩
 have HX2:=Zpz (HX1.out.below hb HX1.out.lt)
 have HB2:Zpt w w2:=HB1.out.trans (hb.mono HB1.out.size)
 clear a0 a1 a2 a3 b0 b1 b2 b3
 have a0:=HX2.out.cell 0 0 (b:=w.heap.size) rfl rfl rfl
 have a1:=HX2.out.cell 0 1 (b:=w.heap.size) rfl rfl rfl
 have a2:=HX2.out.cell 0 2 (b:=w.heap.size) rfl rfl rfl
 have a3:=HX2.out.cell 0 3 (b:=w.heap.size) rfl rfl rfl
 have b0:=HX2.out.cell 1 0 (b:=w.heap.size+1) rfl rfl rfl
 have b1:=HX2.out.cell 1 1 (b:=w.heap.size+1) rfl rfl rfl
 have b2:=HX2.out.cell 1 2 (b:=w.heap.size+1) rfl rfl rfl
 have b3:=HX2.out.cell 1 3 (b:=w.heap.size+1) rfl rfl rfl
 refine hK _ _ (.inr ⟨a0,a1,a2,a3,b0,b1,b2,b3⟩) ?_
 clear hK K hb
 refine Zt rfl rfl fun K hK=>?_
 go_simp
 go_at_call 104
 refine(ZdR HD.out HC.out H2.out rfl _ (HT.out.below HB2.out ZpA)).mono ?_
 rintro e w3 ⟨rfl,hb⟩
 have HX3:=Zpz (HX2.out.below hb HX2.out.lt)
 have HB3:Zpt w w3:=HB2.out.trans (hb.mono HB2.out.size)
 clear a0 a1 a2 a3 b0 b1 b2 b3
 have a0:=HX3.out.cell 0 0 (b:=w.heap.size) rfl rfl rfl
 have a1:=HX3.out.cell 0 1 (b:=w.heap.size) rfl rfl rfl
 have a2:=HX3.out.cell 0 2 (b:=w.heap.size) rfl rfl rfl
 have a3:=HX3.out.cell 0 3 (b:=w.heap.size) rfl rfl rfl
 have b0:=HX3.out.cell 1 0 (b:=w.heap.size+1) rfl rfl rfl
 have b1:=HX3.out.cell 1 1 (b:=w.heap.size+1) rfl rfl rfl
 have b2:=HX3.out.cell 1 2 (b:=w.heap.size+1) rfl rfl rfl
 have b3:=HX3.out.cell 1 3 (b:=w.heap.size+1) rfl rfl rfl
 refine hK _ _ (.inr ⟨a0,a1,a2,a3,b0,b1,b2,b3⟩) ?_
 clear hK K hb
 iterate 2
  refine Zr _ rfl rfl (fun w' hS=>Zf) ?_
  simp only[Act.put,Zm]
 refine Zt rfl rfl fun K hK=>?_
 go_simp
 go_at_call 180
 refine(ZbM x2 y2 _).mono ?_
 rintro e w4 ⟨rfl,hb⟩
 have HX4:=Zpz (HX3.out.below hb HX3.out.lt)
 have HB4:Zpt w w4:=HB3.out.trans (hb.mono HB3.out.size)
 clear a0 a1 a2 a3 b0 b1 b2 b3
 have a0:=HX4.out.cell 0 0 (b:=w.heap.size) rfl rfl rfl
 have a1:=HX4.out.cell 0 1 (b:=w.heap.size) rfl rfl rfl
 have a2:=HX4.out.cell 0 2 (b:=w.heap.size) rfl rfl rfl
 have a3:=HX4.out.cell 0 3 (b:=w.heap.size) rfl rfl rfl
 have b0:=HX4.out.cell 1 0 (b:=w.heap.size+1) rfl rfl rfl
 have b1:=HX4.out.cell 1 1 (b:=w.heap.size+1) rfl rfl rfl
 have b2:=HX4.out.cell 1 2 (b:=w.heap.size+1) rfl rfl rfl
 have b3:=HX4.out.cell 1 3 (b:=w.heap.size+1) rfl rfl rfl
 refine hK _ _ (.inr ⟨a0,a1,a2,a3,b0,b1,b2,b3⟩) ?_
 clear hK K hb
 refine Zt rfl rfl fun K hK=>?_
 go_simp
 go_at_call 169
 refine(Zjn H1.out H2.out H3.out HP.out rfl _ (HT.out.below HB4.out ZpA)).mono ?_
 rintro e w5 ⟨rfl,hb⟩
 have HX5:=Zpz (HX4.out.below hb HX4.out.lt)
 have HB5:Zpt w w5:=HB4.out.trans (hb.mono HB4.out.size)
 clear a0 a1 a2 a3 b0 b1 b2 b3
 have a0:=HX5.out.cell 0 0 (b:=w.heap.size) rfl rfl rfl
 have a1:=HX5.out.cell 0 1 (b:=w.heap.size) rfl rfl rfl
 have a2:=HX5.out.cell 0 2 (b:=w.heap.size) rfl rfl rfl
 have a3:=HX5.out.cell 0 3 (b:=w.heap.size) rfl rfl rfl
 have b0:=HX5.out.cell 1 0 (b:=w.heap.size+1) rfl rfl rfl
 have b1:=HX5.out.cell 1 1 (b:=w.heap.size+1) rfl rfl rfl
 have b2:=HX5.out.cell 1 2 (b:=w.heap.size+1) rfl rfl rfl
 have b3:=HX5.out.cell 1 3 (b:=w.heap.size+1) rfl rfl rfl
 refine hK _ _ (.inr ⟨a0,a1,a2,a3,b0,b1,b2,b3⟩) ?_
 clear hK K hb
 iterate 2
  refine Zr _ rfl rfl (fun w' hS=>Zf) ?_
  simp only[Act.put,Zm]
 refine Zt rfl rfl fun K hK=>?_
 go_simp
 go_at_call 180
 refine(ZbM x y _).mono ?_
 rintro e w6 ⟨rfl,hb⟩
 have HX6:=Zpz (HX5.out.below hb HX5.out.lt)
 have HB6:Zpt w w6:=HB5.out.trans (hb.mono HB5.out.size)
 clear a0 a1 a2 a3 b0 b1 b2 b3
 have a0:=HX6.out.cell 0 0 (b:=w.heap.size) rfl rfl rfl
 have a1:=HX6.out.cell 0 1 (b:=w.heap.size) rfl rfl rfl
 have a2:=HX6.out.cell 0 2 (b:=w.heap.size) rfl rfl rfl
 have a3:=HX6.out.cell 0 3 (b:=w.heap.size) rfl rfl rfl
 have b0:=HX6.out.cell 1 0 (b:=w.heap.size+1) rfl rfl rfl
 have b1:=HX6.out.cell 1 1 (b:=w.heap.size+1) rfl rfl rfl
 have b2:=HX6.out.cell 1 2 (b:=w.heap.size+1) rfl rfl rfl
 have b3:=HX6.out.cell 1 3 (b:=w.heap.size+1) rfl rfl rfl
 refine hK _ _ (.inr ⟨a0,a1,a2,a3,b0,b1,b2,b3⟩) ?_
 clear hK K hb
 have r0:=HX6.out.cell 2 0 (b:=w.heap.size+1+1) rfl rfl rfl
 have r1:=HX6.out.cell 2 1 (b:=w.heap.size+1+1) rfl rfl rfl
 have f0:=HX6.out.free 2 0 (b:=w.heap.size+1+1) rfl rfl
 have f1:=HX6.out.free 2 1 (b:=w.heap.size+1+1) rfl rfl
 refine Zt rfl rfl fun K hK=>?_
 go_simp
 have q:=Zu (HX6.out.block 2 (b:=w.heap.size+1+1) rfl rfl) (.string x) (.string y)
 have HBQ:=Zpz (Zs HB6.out (b:=w.heap.size+1+1) Za (.string x) (.string y))
 have hS9:S8 w.heap.size s0 t0 u0 v0 s1 t1 u1 v1 ((w6.setCell ⟨w.heap.size+1+1,0,none⟩ (.string x)).setCell ⟨w.heap.size+1+1,1,none⟩ (.string y)):=by
  refine⟨?_,?_,?_,?_,?_,?_,?_,?_⟩<;>(rw[World.cell?_setCell_other _ _ _ _ (by simp<;>omega),World.cell?_setCell_other _ _ _ _ (by simp<;>omega)];assumption)
 refine hK _ _ (.inr hS9) ?_
 clear hK K hS9 a0 a1 a2 a3 b0 b1 b2 b3
 refine ZI ?_
 obtain⟨w9,hw9⟩:=ZpB ((w6.setCell ⟨w.heap.size+1+1,0,none⟩ (.string x)).setCell ⟨w.heap.size+1+1,1,none⟩ (.string y))
 rw[hw9] at q HBQ ⊢
 obtain⟨q0,q1⟩:=q
 clear r0 r1 f0 f1 hw9
 go_wp2
 refine ZoM (v:=pV x y) (by simp[results,Tryz.f133,go_sem,q0,q1]) rfl ⟨rfl,HBQ.out⟩
theorem ZaO {P:Program} {n r id:Nat} {Q:Exit->Act->World->Prop} {a:Act} {w:World} {l:List Oper} (ks:List (Bool×Nat)) (S:World->Prop) (bar:Nat->Bool) (hm:P.follows .mixedOrders=true)
  (hB:Zei l ks bar=true) (hbo:∀ j,l.length<=j->bar j=false) (hQ:∀ c a o v w,Q (.panic c) (a.put o v) w->Q (.panic c) a w) (hout:∀ a w,¬ Q .outgrown a w) (hS:S w.drew)
  (H:Zbd P l.toArray Q S bar ks a w.drew):(Code.region id l.toArray true).wpIn (Fence.wide.inRound r) n P Q a w:=by
 have hd:ZcE l.toArray=true:=by simp only[Zei,Zpj] at hB;exact hB.2
 exact wpIn_region_any hm (Za7 hd hout _ _ _ _ (Zfl ks S bar hB hbo hQ hS H))
def Calm (Q:Exit->Act->World->Prop):Exit->Act->World->Prop
 | .panic _,_,_=>False
 | .outgrown,_,_=>False
 | e,a,w=>Q e a w
theorem Calm.of {Q:Exit->Act->World->Prop} : ∀ {e:Exit} {a:Act} {w:World},Calm Q e a w->Q e a w
 | .panic _,_,_,h=>h.elim
 | .outgrown,_,_,h=>h.elim
 | .normal,_,_,h=>h
 | .ret,_,_,h=>h
 | .exit _,_,_,h=>h
 | .goto _,_,_,h=>h
theorem ZcS {P:Program} {f:FuncId} {fn:Func} {c:Code} {args:Array Value} {w:World} {R:Ending->World->Prop} (hf:P.funcs[f]?=some fn) (hb:fn.body=some c)
  (h:c.wp P (Calm (bodyPostM Fence.wide 9 P fn R)) { tmps:=args++Array.replicate (fn.ntmps-args.size) undef,defers:=[] } w):Calls P f args w R:=
 (Zpf (n:=9)).1 (callsIn_of_wp_marks hf hb trivial (wpIn_mono (wpIn_wide.2 h) fun _ _ _ h=>h.of) rfl)
end Go.Proofs.YtmpaflidennnoaaGreatDoor
namespace Go.Proofs.YtmpaflidennnoaaGreatDoor
open Go.RowKit Go.Shelf
attribute [local go_sem ↓] Go.wp_at_zero Go.wp_at_succ
attribute [local go_sem] Oper.semAt_some
theorem ZR {P:Program} {ops:Array Oper} {Q:Exit->Act->World->Prop} {S:World->Prop} {bar:Nat->Bool} {i:Nat} {o:Oper} {ks:List (Bool×Nat)} {a:Act} {w:World} (ho:ops[i]?=some o) (hw:Region.wanted o (yielded ops a.tmps)=false)
  (h:Zbd P ops Q S bar ks (a.put o.dst undef) w):Zbd P ops Q S bar ((true,i)::ks) a w:=⟨o,undef,ho,.inr ⟨hw,rfl⟩,h⟩
theorem Z0 {P:Program} {ops:Array Oper} {Q:Exit->Act->World->Prop} {S:World->Prop} {bar:Nat->Bool} {i:Nat} {o:Oper} {ks:List (Bool×Nat)} {a:Act} {w:World} (ho:ops[i]?=some o) (hw:Region.wanted o (yielded ops a.tmps)=false) (hS:S w)
  (h:Zbd P ops Q S bar ks (a.put o.dst undef) w):Zbd P ops Q S bar ((false,i)::ks) a w:=by
 refine⟨o,ho,?_⟩
 rw[if_neg (by rw[hw];exact Bool.false_ne_true)]
 exact⟨.inr hS,h⟩
def ZcA (bs:List BB) (w:World) (e:Ending) (w':World):Prop:=∃ n,e=.returned (.int .i64 n)/\Zff bs n/\Below w.heap.size w w'
theorem ZmA {p:Option Addr} {c n:Nat} {bs:List BB} {w:World} (hn:bs.length=n) (hm:n<=9223372036854775807) (h:(decide ((2:Int)<=n) && decide ((n:Int)<=64))=false) :
  Calls Tryz.prog 80 #[.slice p n c] w (ZcA bs w):=by
 have HE:Hid (Zff bs 2):=.inr ⟨fun hc=>by
  have:=hc.len
  simp at h
  omega,rfl⟩
 have H:=Zpz h
 clear h hn
 go_enter Tryz.func80,Tryz.ntmps80
 go_wp2
 refine Zag [(true,0),(true,1),(false,2),(true,3),(true,4),(true,5),(true,6),(true,7),(true,8),(true,9),(true,10),(true,11),(true,12)] (fun _=>True) (fun _=>false)
  Zb Zb (fun _ _=>rfl) Zi trivial ?_
 iterate 2
  refine Zr _ rfl rfl (fun w' hS=>Zf) ?_
  simp only[Act.put,Zl]
 refine Zt rfl rfl fun K hK=>?_
 go_simp
 go_at_call 128
 refine(ZbJ n 2 64 _).mono ?_
 rintro e w2 ⟨rfl,hb⟩
 rw[H.out]
 have hbx:((w.alloc (.cells #[.int .i64 0] 30)).drew).heap[w.heap.size]?=some (.cells #[.int .i64 0] 30):=ZoO w _
 have hb0:Below w.heap.size w ((w.alloc (.cells #[.int .i64 0] 30)).drew):=((ZoL _ w).alloc ZpA _).drew
 have hbx2:w2.heap[w.heap.size]?=some (.cells #[.int .i64 0] 30):=(hb.block _ (Zpu hbx)).trans hbx
 have HB2:Zpt w w2:=hb0.trans (hb.mono hb0.size)
 have c0:=Zn hbx2 0 rfl
 have f0:=Zo hbx2 0
 have HX2:=Zpz hbx2
 refine hK _ _ (.inr trivial) ?_
 clear hK K hb hbx hb0 hbx2
 iterate 2
  refine Zr _ rfl rfl (fun w' hS=>Zf) ?_
  simp only[Act.put,Zl]
 iterate 7
  refine ZR rfl rfl ?_
  simp only[Act.put,Zl]
 iterate 1
  refine Zr _ rfl rfl (fun w' hS=>Zf) ?_
  simp only[Act.put,Zl]
 refine ZI ?_
 go_wp2
 have q:(w2.setCell ⟨w.heap.size,0,none⟩ (.int .i64 2)).cell? ⟨w.heap.size,0,none⟩=some (.int .i64 2):=Zn (ZoQ HX2.out _) 0 rfl
 refine ZoM (v:=.int .i64 2) (by simp[results,Tryz.f80,go_sem,q]) rfl ⟨2,rfl,HE.out,HB2.out.setCell (p:=⟨w.heap.size,0,none⟩) ZpA _⟩
abbrev SF (b off:Nat) (s t u v:ByteArray) (w':World):Prop:=(w'.cell? ⟨b,off,none⟩=some (.string s)/\w'.cell? ⟨b,off+1,none⟩=some (.string t)/\w'.cell? ⟨b,off+2,none⟩=some (.string u)/\w'.cell? ⟨b,off+3,none⟩=some (.string v))/\
 w'.cell? ⟨1,0,none⟩=some (.string ⟨#[48]⟩)/\w'.cell? ⟨1,1,none⟩=some (.string ⟨#[49]⟩)
theorem ZjJ {b off c n:Nat} {bs:List BB} {w:World} {s t u v:ByteArray} (hn:bs.length=n) (hm:2<=n) (hm2:n<=64) (hf:bAt bs 0=((s,t),(u,v))) (hne:Hid (s.toList=[48]->t.toList=[49]->u.toList=[48]->¬ v.toList=[49])) (hz:bAt bs 0≠Zcf)
  (hS:∀ W,Below w.heap.size w W->SF b off s t u v W) :
  Calls Tryz.prog 80 #[.slice (some ⟨b,off,none⟩) n c] w (ZcA bs w):=by
 have HE:Hid (Zff bs 2):=.inr ⟨fun hc=>hz hc.first,rfl⟩
 have H:Hid ((decide ((2:Int)<=n) && decide ((n:Int)<=64))=true):=by show _=_;simp;omega
 have HS:=Zpz hS
 clear hf hn hS hz
 go_enter Tryz.func80,Tryz.ntmps80
 go_wp2
 have hbx:((w.alloc (.cells #[.int .i64 0] 30)).drew).heap[w.heap.size]?=some (.cells #[.int .i64 0] 30):=ZoO w _
 have hb0:Below w.heap.size w ((w.alloc (.cells #[.int .i64 0] 30)).drew):=((ZoL _ w).alloc ZpA _).drew
 obtain⟨w1,hw1⟩:=ZpB (w.alloc (.cells #[.int .i64 0] 30))
 rw[hw1] at hbx hb0 ⊢
 have hSF:=HS.out _ hb0
 refine Zag [(true,0),(true,1),(false,2),(true,3),(true,4),(true,5),(true,6),(true,7),(true,8),(true,9),(true,10),(true,11),(true,12)] (SF b off s t u v) (fun _=>false)
  Zb Zb (fun _ _=>rfl) Zi hSF ?_
 iterate 2
  refine Zr _ rfl rfl (fun w' hS=>Zf) ?_
  simp only[Act.put,Zl]
 refine Zt rfl rfl fun K hK=>?_
 go_simp
 go_at_call 128
 refine(ZbJ _ 2 64 _).mono ?_
 rintro e w2 ⟨rfl,hb⟩
 rw[H.out]
 have hbx2:w2.heap[w.heap.size]?=some (.cells #[.int .i64 0] 30):=(hb.block _ (Zpu hbx)).trans hbx
 have HB2:Zpt w w2:=hb0.trans (hb.mono hb0.size)
 have HX2:=Zpz hbx2
 have hSF2:=HS.out _ HB2.out
 refine hK _ _ (.inr hSF2) ?_
 clear hK K hb hbx hb0 hbx2 hw1 hSF hSF2
 iterate 8
  refine Zr _ rfl rfl (fun w' hS=>by obtain⟨⟨a0,a1,a2,a3⟩,z0,z1⟩:=hS;exact Ze) ?_
  simp only[Act.put,Zl]
 refine Zr (.bool true) rfl rfl (fun w' hS=>by obtain⟨⟨a0,a1,a2,a3⟩,z0,z1⟩:=hS;go_simp;exact hne.out) ?_
 simp only[Act.put,Zl]
 iterate 1
  refine Zr _ rfl rfl (fun w' hS=>by obtain⟨⟨a0,a1,a2,a3⟩,z0,z1⟩:=hS;exact Ze) ?_
  simp only[Act.put,Zl]
 refine ZI ?_
 have c0:=Zn HX2.out 0 rfl
 have f0:=Zo HX2.out 0
 go_wp2
 have q:(w2.setCell ⟨w.heap.size,0,none⟩ (.int .i64 2)).cell? ⟨w.heap.size,0,none⟩=some (.int .i64 2):=Zn (ZoQ HX2.out _) 0 rfl
 refine ZoM (v:=.int .i64 2) (by simp[results,Tryz.f80,go_sem,q]) rfl ⟨2,rfl,HE.out,HB2.out.setCell (p:=⟨w.heap.size,0,none⟩) ZpA _⟩
abbrev SL2 (b o:Nat) (x y:ByteArray) (w':World):Prop:=(w'.cell? ⟨b,o+2,none⟩=some (.string x)/\w'.cell? ⟨b,o+3,none⟩=some (.string y))/\
 w'.cell? ⟨2,0,none⟩=some (.string ⟨#[49]⟩)/\w'.cell? ⟨2,1,none⟩=some (.string ⟨#[49]⟩)
structure CurveIn (b off r c:Nat) (bs:List BB) (w:World):Prop where
 len:bs.length=r+1
 two:1<=r
 most:r<=63
 cap:r+1<=c/\c<=9223372036854775807
 first:bAt bs 0=Zcf
 lim:∀ x ∈ bs,(x.1.1.size<=1000000/\x.1.2.size<=1000000)/\(x.2.1.size<=1000000/\x.2.2.size<=1000000)
 lt:b<w.heap.size
 cells:∀ W,Below w.heap.size w W->ZcN b off (r+1) bs W
 det:DetV w
 tabs:Tabs w
theorem CurveIn.bl {b off r c:Nat} {bs:List BB} {w W:World} (h:CurveIn b off r c bs w) (hW:Below w.heap.size w W):BL W (.slice (some ⟨b,off,none⟩) (r+1) c) bs:=by
 have h1:=h.len
 refine⟨_,c,by rw[h1],by rw[h1];exact h.cap.1,by unfold maxLen;exact h.cap.2,fun _=>⟨b,off,rfl,ZoS h.lt hW.size,fun j hj=>?_⟩⟩
 have:=h.cells W hW j Za
 rwa [ZdC hj] at this
theorem CurveIn.sf {b off r c:Nat} {bs:List BB} {w W:World} (h:CurveIn b off r c bs w) (hW:Below w.heap.size w W):SF b off ⟨#[48]⟩ ⟨#[49]⟩ ⟨#[48]⟩ ⟨#[49]⟩ W:=by
 have h1:=h.cells W hW 0 Za
 rw[h.first,Nat.zero_mul,Nat.add_zero] at h1
 have hd:=h.det.below hW ZpA
 exact⟨h1,hd.z0,hd.z1⟩
theorem CurveIn.sl {b off r c:Nat} {bs:List BB} {w W:World} (h:CurveIn b off r c bs w) (hW:Below w.heap.size w W):SL2 b (off+r*4) (bAt bs r).2.1 (bAt bs r).2.2 W:=by
 have h1:=h.cells W hW r Za
 have hd:=h.det.below hW ZpA
 exact⟨⟨h1.2.2.1,h1.2.2.2⟩,hd.o0,hd.o1⟩
def Za0 (bs:List BB) (k:Nat):Bool:=!(Zw 18 (bAt bs k).1 && Zw 18 (bAt bs k).2)
theorem CurveIn.cf {b off r c:Nat} {bs:List BB} {w W:World} (h:CurveIn b off r c bs w) (hW:Below w.heap.size w W) :
  Calls Tryz.prog 129 #[.slice (some ⟨b,off,none⟩) (r+1) c,.func (.func 130) #[] #[]] W (Zes W (r+1) (Za0 bs)):=
 Zh4 (enters_of Tryz.func130 Zb rfl) (h.bl hW) h.len fun k hk W2 _=>by
  obtain⟨⟨z1,z2⟩,z3,z4⟩:=h.lim _ (Zkh (bs:=bs) (i:=k) (by rw[h.len];exact hk))
  exact Zgr _ _ _ _ z1 z2 z3 z4 W2
end Go.Proofs.YtmpaflidennnoaaGreatDoor
namespace Go.Proofs.YtmpaflidennnoaaGreatDoor
open Go.RowKit Go.Shelf
def isPB (q:Rat) (s t:ByteArray):Bool:=decide (0<=q) && decide (s=str (numD q)) && decide (t=str (denD q)) && decide (Fits q)
theorem Zer {q:Rat} {s t:ByteArray} (h:isPB q s t=true):IsP q s t:=by
 unfold isPB at h
 simp only[Zpj,Zpk] at h
 exact⟨h.1.1.1,h.1.1.2,h.1.2,h.2⟩
def Zic (k:Nat):BB:=((str (Lib.decDigits k),⟨#[49]⟩),(str (Lib.decDigits (2 ^ k-1)),str (Lib.decDigits (2 ^ k))))
def Zal (n:Nat):List BB:=(List.range (n+1)).map Zic
theorem Zb6 (n:Nat):(Zal n).length=n+1:=by simp[Zal]
theorem ZkR (n:Nat):Zal (n+1)=Zal n++[Zic (n+1)]:=by
 unfold Zal
 rw[List.range_succ,List.map_append]
 rfl
theorem ZkO:Zic 0=Zcf:=by decide +kernel
theorem Zbt:CurveP (Zal 2) where
 len:=by decide +kernel
 first:=by decide +kernel
 small:=fun i h=>by
  have h2:i<3:=by rw[Zb6] at h;exact h
  match i,h2 with
  | 0,_=>decide +kernel
  | 1,_=>decide +kernel
  | 2,_=>decide +kernel
 top:=fun i h=>by
  have h2:i<3:=by rw[Zb6] at h;exact h
  match i,h2 with
  | 0,_=>decide +kernel
  | 1,_=>decide +kernel
  | 2,_=>decide +kernel
 up:=fun i h=>by
  have h2:i+1<3:=by rw[Zb6] at h;exact h
  match i,h2 with
  | 0,_=>decide +kernel
  | 1,_=>decide +kernel
 conc:=fun i h=>by
  have h2:i+2<3:=by rw[Zb6] at h;exact h
  obtain rfl:i=0:=Za
  unfold slp
  decide +kernel
theorem Zkb {n:Nat} {x:List UInt8} (h:Lib.decDigits n=x) (hx:x.length<=600):IsP (n:Nat) (str x) (str [49]):=by
 have h1:numD ((n:Nat):Rat)=x:=by unfold numD;rw[Rat.num_natCast,Int.toNat_natCast,h]
 have h2:denD ((n:Nat):Rat)=[49]:=by unfold denD;rw[Rat.den_natCast,Zcg]
 exact⟨Rat.natCast_nonneg,by rw[h1],by rw[h2],by unfold Fits;rw[h1,h2];exact⟨hx,Zd⟩⟩
theorem Zaf:IsP 0 (⟨#[48]⟩:ByteArray) (⟨#[49]⟩:ByteArray):=by have:=Zkb (n:=0) ZbD Zd;exact this
theorem ZfJ:IsP 1 (⟨#[49]⟩:ByteArray) (⟨#[49]⟩:ByteArray):=by have:=Zkb (n:=1) Zcg Zd;exact this
theorem IsP.num_zero {q:Rat} {s t:ByteArray} (h:IsP q s t):(s.toList==[48])=true<->q=0:=by
 have e:s.toList=s.data.toList:=Zo8 ..
 rw[e,beq_iff_eq]
 constructor
 ·intro h1
  refine h.inj Zaf ?_ ?_ |>.trans rfl
  ·rw[<- Za1 s,h1];rfl
  ·have h2:q.num.toNat=0:=by rw[<- h.vals.1,h1];rfl
   have h3:=Zab h.nn
   rw[h2] at h3
   have h4:=Rat.num_eq_zero.1 h3.symm
   subst h4
   exact(h.same Zaf rfl).2
 ·rintro rfl
  rw[(h.same Zaf rfl).1]
theorem IsP.pos {q:Rat} {s t:ByteArray} (h:IsP q s t) (h0:q≠0):0<q:=Rat.lt_of_le_of_ne h.nn (Ne.symm h0)
end Go.Proofs.YtmpaflidennnoaaGreatDoor
namespace Go.Proofs.YtmpaflidennnoaaGreatDoor
open Go.RowKit Go.Shelf
attribute [local go_sem ↓] Go.wp_at_zero Go.wp_at_succ
attribute [local go_sem] Oper.semAt_some
theorem Zjq {b off r c:Nat} {bs:List BB} {w:World} (hI:CurveIn b off r c bs w) (hx:∃ k,k<r+1/\Za0 bs k=true) :
  Calls Tryz.prog 80 #[.slice (some ⟨b,off,none⟩) (r+1) c] w (ZcA bs w):=by
 have hn:¬ CurveP bs:=fun hc=>by
  obtain⟨k,hk,h⟩:=hx
  have h2:=hc.small k (by rw[hI.len];exact hk)
  unfold Za0 at h
  rw[h2.1,h2.2] at h
  cases h
 have HE:Hid (Zff bs 2):=.inr ⟨hn,rfl⟩
 have HX:=Zpz hx
 have HI:=Zpz hI
 have hr:=hI.most
 have e1:Hid (IntKind.i64.wrap (r:Int)=(r:Int)):=Zpm _ Za
 clear hI hx
 go_enter Tryz.func80,Tryz.ntmps80
 have HS:Hid (∀ W,Below w.heap.size w W->SF b off ⟨#[48]⟩ ⟨#[49]⟩ ⟨#[48]⟩ ⟨#[49]⟩ W):=fun W hW=>HI.out.sf hW
 have H:Hid ((decide ((2:Int)<=(r:Int)+1) && decide ((r:Int)+1<=64))=true):=by show _=_;have:=HI.out.two;have:=HI.out.most;simp;omega
 go_wp2
 have hbx:((w.alloc (.cells #[.int .i64 0] 30)).drew).heap[w.heap.size]?=some (.cells #[.int .i64 0] 30):=ZoO w _
 have hb0:Below w.heap.size w ((w.alloc (.cells #[.int .i64 0] 30)).drew):=((ZoL _ w).alloc ZpA _).drew
 obtain⟨w1,hw1⟩:=ZpB (w.alloc (.cells #[.int .i64 0] 30))
 rw[hw1] at hbx hb0 ⊢
 have hSF:=HS.out _ hb0
 refine Zag [(true,0),(true,1),(false,2),(true,3),(true,4),(true,5),(true,6),(true,7),(true,8),(true,9),(true,10),(true,11),(true,12)] (SF b off ⟨#[48]⟩ ⟨#[49]⟩ ⟨#[48]⟩ ⟨#[49]⟩) (fun _=>false)
  Zb Zb (fun _ _=>rfl) Zi hSF ?_
 iterate 2
  refine Zr _ rfl rfl (fun w' hS=>Zf) ?_
  simp only[Act.put,Zl]
 refine Zt rfl rfl fun K hK=>?_
 go_simp
 go_at_call 128
 refine(ZbJ _ 2 64 _).mono ?_
 rintro e w2 ⟨rfl,hb⟩
 rw[H.out]
 have hbx2:w2.heap[w.heap.size]?=some (.cells #[.int .i64 0] 30):=(hb.block _ (Zpu hbx)).trans hbx
 have HB2:Zpt w w2:=hb0.trans (hb.mono hb0.size)
 have HX2:=Zpz hbx2
 have hSF2:=HS.out _ HB2.out
 refine hK _ _ (.inr hSF2) ?_
 clear hK K hb hbx hb0 hbx2 hw1 hSF hSF2
 iterate 10
  refine Zr _ rfl rfl (fun w' hS=>by obtain⟨⟨a0,a1,a2,a3⟩,z0,z1⟩:=hS;exact Ze) ?_
  simp only[Act.put,Zl]
 refine ZI ?_
 go_wp2
 refine Zag [(true,0),(false,1),(true,2),(true,3),(true,4),(true,5),(true,6),(true,7),(true,8),(true,9),(true,10),(false,11),(true,12),(true,13)] (SL2 b (off+r*4) (bAt bs r).2.1 (bAt bs r).2.2) (fun _=>false)
  Zb Zb (fun _ _=>rfl) Zi (HI.out.sl HB2.out.drew) ?_
 iterate 1
  refine Zr _ rfl rfl (fun w' hS=>by obtain⟨⟨a0,a1⟩,z0,z1⟩:=hS;go_simp;(try simp only[e1.out,Int.toNat_natCast]);first | rfl | (rw[if_pos Za])) ?_
  simp only[Act.put,Zl]
 refine Zt rfl rfl fun K hK=>?_
 go_simp
 go_at_call 129
 refine(HI.out.cf HB2.out.drew).mono ?_
 rintro e w3 ⟨q,rfl,hE,hb⟩
 have HB3:Zpt w w3:=HB2.out.drew.trans (hb.mono HB2.out.drew.size)
 have HX3:Hid (w3.heap[w.heap.size]?=some (.cells #[.int .i64 0] 30)):=(hb.block _ (Zpu HX2.out)).trans HX2.out
 rcases hE with ⟨rfl,_⟩ | ⟨_,h⟩
 rotate_left
 ·obtain⟨k,hk,h2⟩:=HX.out
  rw[h k hk] at h2
  cases h2
 have hSL:=HI.out.sl HB3.out
 refine hK _ _ (.inr hSL) ?_
 clear hK K hb
 iterate 1
  refine Zr _ rfl rfl (fun w' hS=>by obtain⟨⟨a0,a1⟩,z0,z1⟩:=hS;go_simp;(try simp only[e1.out,Int.toNat_natCast]);first | rfl | (rw[if_pos Za])) ?_
  simp only[Act.put,Zl]
 iterate 8
  refine ZR rfl rfl ?_
  simp only[Act.put,Zl]
 refine Z0 rfl rfl hSL ?_
 simp only[Act.put,Zl]
 clear hSL
 iterate 1
  refine ZR rfl rfl ?_
  simp only[Act.put,Zl]
 iterate 1
  refine Zr _ rfl rfl (fun w' hS=>by obtain⟨⟨a0,a1⟩,z0,z1⟩:=hS;go_simp;(try simp only[e1.out,Int.toNat_natCast]);first | rfl | (rw[if_pos Za])) ?_
  simp only[Act.put,Zl]
 refine ZI ?_
 have c0:=Zn HX3.out 0 rfl
 have f0:=Zo HX3.out 0
 go_wp2
 have q:(w3.setCell ⟨w.heap.size,0,none⟩ (.int .i64 2)).cell? ⟨w.heap.size,0,none⟩=some (.int .i64 2):=Zn (ZoQ HX3.out _) 0 rfl
 refine ZoM (v:=.int .i64 2) (by simp[results,Tryz.f80,go_sem,q]) rfl ⟨2,rfl,HE.out,HB3.out.setCell (p:=⟨w.heap.size,0,none⟩) ZpA _⟩
theorem ZlY {b off r c:Nat} {bs:List BB} {w:World} (hI:CurveIn b off r c bs w) (hs:∀ k,k<r+1->Za0 bs k=false) (hx:1<hR bs r) :
  Calls Tryz.prog 80 #[.slice (some ⟨b,off,none⟩) (r+1) c] w (ZcA bs w):=by
 have hn:¬ CurveP bs:=fun hc=>by
  have:=hc.top r (by rw[hI.len];omega)
  grind
 have HE:Hid (Zff bs 2):=.inr ⟨hn,rfl⟩
 have hsm:=hs r Za
 unfold Za0 at hsm
 simp only[Bool.not_eq_false',Zpj] at hsm
 have HP:=Zpz (ZbF hsm.2).1
 have HG:Hid (sgnR (hR bs r) 1=1):=by
  show sgnR _ _=_
  unfold sgnR
  rw[if_neg Zk,if_neg Zk]
 have HS0:=Zpz hs
 have HI:=Zpz hI
 have hr:=hI.most
 have e1:Hid (IntKind.i64.wrap (r:Int)=(r:Int)):=Zpm _ Za
 clear hI hx hs hsm
 go_enter Tryz.func80,Tryz.ntmps80
 have HS:Hid (∀ W,Below w.heap.size w W->SF b off ⟨#[48]⟩ ⟨#[49]⟩ ⟨#[48]⟩ ⟨#[49]⟩ W):=fun W hW=>HI.out.sf hW
 have H:Hid ((decide ((2:Int)<=(r:Int)+1) && decide ((r:Int)+1<=64))=true):=by show _=_;have:=HI.out.two;have:=HI.out.most;simp;omega
 go_wp2
 have hbx:((w.alloc (.cells #[.int .i64 0] 30)).drew).heap[w.heap.size]?=some (.cells #[.int .i64 0] 30):=ZoO w _
 have hb0:Below w.heap.size w ((w.alloc (.cells #[.int .i64 0] 30)).drew):=((ZoL _ w).alloc ZpA _).drew
 obtain⟨w1,hw1⟩:=ZpB (w.alloc (.cells #[.int .i64 0] 30))
 rw[hw1] at hbx hb0 ⊢
 have hSF:=HS.out _ hb0
 refine Zag [(true,0),(true,1),(false,2),(true,3),(true,4),(true,5),(true,6),(true,7),(true,8),(true,9),(true,10),(true,11),(true,12)] (SF b off ⟨#[48]⟩ ⟨#[49]⟩ ⟨#[48]⟩ ⟨#[49]⟩) (fun _=>false)
  Zb Zb (fun _ _=>rfl) Zi hSF ?_
 iterate 2
  refine Zr _ rfl rfl (fun w' hS=>Zf) ?_
  simp only[Act.put,Zl]
 refine Zt rfl rfl fun K hK=>?_
 go_simp
 go_at_call 128
 refine(ZbJ _ 2 64 _).mono ?_
 rintro e w2 ⟨rfl,hb⟩
 rw[H.out]
 have hbx2:w2.heap[w.heap.size]?=some (.cells #[.int .i64 0] 30):=(hb.block _ (Zpu hbx)).trans hbx
 have HB2:Zpt w w2:=hb0.trans (hb.mono hb0.size)
 have HX2:=Zpz hbx2
 have hSF2:=HS.out _ HB2.out
 refine hK _ _ (.inr hSF2) ?_
 clear hK K hb hbx hb0 hbx2 hw1 hSF hSF2
 iterate 10
  refine Zr _ rfl rfl (fun w' hS=>by obtain⟨⟨a0,a1,a2,a3⟩,z0,z1⟩:=hS;exact Ze) ?_
  simp only[Act.put,Zl]
 refine ZI ?_
 go_wp2
 refine Zag [(true,0),(false,1),(true,2),(true,3),(true,4),(true,5),(true,6),(true,7),(true,8),(true,9),(true,10),(false,11),(true,12),(true,13)] (SL2 b (off+r*4) (bAt bs r).2.1 (bAt bs r).2.2) (fun _=>false)
  Zb Zb (fun _ _=>rfl) Zi (HI.out.sl HB2.out.drew) ?_
 iterate 1
  refine Zr _ rfl rfl (fun w' hS=>by obtain⟨⟨a0,a1⟩,z0,z1⟩:=hS;go_simp;(try simp only[e1.out,Int.toNat_natCast]);first | rfl | (rw[if_pos Za])) ?_
  simp only[Act.put,Zl]
 refine Zt rfl rfl fun K hK=>?_
 go_simp
 go_at_call 129
 refine(HI.out.cf HB2.out.drew).mono ?_
 rintro e w3 ⟨q,rfl,hE,hb⟩
 have HB3:Zpt w w3:=HB2.out.drew.trans (hb.mono HB2.out.drew.size)
 have HX3:Hid (w3.heap[w.heap.size]?=some (.cells #[.int .i64 0] 30)):=(hb.block _ (Zpu HX2.out)).trans HX2.out
 rcases hE with ⟨_,k,hk,h2⟩ | ⟨rfl,_⟩
 ·rw[HS0.out k hk] at h2
  cases h2
 refine hK _ _ (.inr (HI.out.sl HB3.out)) ?_
 clear hK K hb
 iterate 9
  refine Zr _ rfl rfl (fun w' hS=>by obtain⟨⟨a0,a1⟩,z0,z1⟩:=hS;go_simp;(try simp only[e1.out,Int.toNat_natCast]);first | rfl | (rw[if_pos Za])) ?_
  simp only[Act.put,Zl]
 refine Zt rfl rfl fun K hK=>?_
 go_simp
 go_at_call 22
 refine(ZbC HP.out ZfJ HG.out _).mono ?_
 rintro e w4 ⟨rfl,hb⟩
 have HB4:Zpt w w4:=HB3.out.trans (hb.mono HB3.out.size)
 have HX4:Hid (w4.heap[w.heap.size]?=some (.cells #[.int .i64 0] 30)):=(hb.block _ (Zpu HX3.out)).trans HX3.out
 refine hK _ _ (.inr (HI.out.sl HB4.out)) ?_
 clear hK K hb
 iterate 2
  refine Zr _ rfl rfl (fun w' hS=>by obtain⟨⟨a0,a1⟩,z0,z1⟩:=hS;go_simp;(try simp only[e1.out,Int.toNat_natCast]);first | rfl | (rw[if_pos Za])) ?_
  simp only[Act.put,Zl]
 refine ZI ?_
 have c0:=Zn HX4.out 0 rfl
 have f0:=Zo HX4.out 0
 go_wp2
 have q:(w4.setCell ⟨w.heap.size,0,none⟩ (.int .i64 2)).cell? ⟨w.heap.size,0,none⟩=some (.int .i64 2):=Zn (ZoQ HX4.out _) 0 rfl
 refine ZoM (v:=.int .i64 2) (by simp[results,Tryz.f80,go_sem,q]) rfl ⟨2,rfl,HE.out,HB4.out.setCell (p:=⟨w.heap.size,0,none⟩) ZpA _⟩
end Go.Proofs.YtmpaflidennnoaaGreatDoor
namespace Go.Proofs.YtmpaflidennnoaaGreatDoor
open Go.RowKit Go.Shelf
def ZhD (S:Nat->Prop) (D:Nat) (I:Nat->World->Prop) (Ix:Code->Nat->World->Prop) (k:Nat) (W:World):Exit->Act->World->Prop
 | .normal,_,W'=>Keeps (fun b=>S b\/b=D\/b=D+1) W W'/\I (k+1) W'
 | .ret,_,W'=>Keeps (fun b=>b=D\/b=D+1) W W'/\Ix .ret k W'
 | .exit id,_,W'=>Keeps (fun b=>b=D\/b=D+1) W W'/\Ix (.exit id) k W'
 | .goto t,_,W'=>Keeps (fun b=>b=D\/b=D+1) W W'/\Ix (.goto t) k W'
 | .panic _,_,_=>False
 | .outgrown,_,_=>False
theorem ZdT.to3 {S:Nat->Prop} {D:Nat} {I:Nat->World->Prop} {Ix:Code->Nat->World->Prop} {k:Nat} {W:World} : ∀ {e:Exit} {a:Act} {w:World},ZdT S D I Ix k W e a w->ZhD S D I Ix k W e a w
 | .normal,_,_,h=>h
 | .ret,_,_,h=>⟨h.1.mono fun _ _ hb=>.inr hb,h.2⟩
 | .exit _,_,_,h=>⟨h.1.mono fun _ _ hb=>.inr hb,h.2⟩
 | .goto _,_,_,h=>⟨h.1.mono fun _ _ hb=>.inr hb,h.2⟩
 | .panic _,_,_,h=>h
 | .outgrown,_,_,h=>h
theorem Zhy {P:Program} {n:Nat} {g:Operand} {ps:Array Tmp} {assign body:Code} {Q:Exit->Act->World->Prop} {a:Act} {w:World}
  {gf:Nat} {lb:Array Value} {f:Nat->Array Value} {N:Nat} {S T:Nat->Prop} (D:Nat) (hD:w.heap.size=D)
  (hg:a.eval g=.func (.func gf) #[] lb) (eg:∀ args w,(callFunc gf args).run P w=.ok (.enter gf args) w) (hps:∀ k,(f k).size=ps.size)
  (hit:Iter P gf lb f N S T w) (hSD:∀ b,S b->b<D) (hTD:T D/\T (D+1))
  (I:Nat->World->Prop) (Ix:Code->Nat->World->Prop)
  (hI:∀ k W1 W2,I k W1->Keeps (fun b=>T b/\b≠D/\b≠D+1) W1 W2->I k W2)
  (hIx:∀ c k W1 W2,Ix c k W1->Keeps (fun b=>T b/\b≠D/\b≠D+1) W1 W2->Ix c k W2)
  (h0:I 0 w) (B:Nat->Act->World->Prop)
  (hB:∀ k a' W1 W2,B k a' W1->Keeps (fun b=>b≠D/\b≠D+1) W1 W2->B k a' W2)
  (hassign:∀ (l k:Nat) (W:World),k<N->D+2<=W.heap.size->
   assign.wpIn (Fence.wide.inRound l) (n-1-1) P (Exit.then (fun a' W'=>Keeps (fun _=>True) W W'/\B k a' W') (fun _ _ _=>False)) { tmps:=(ps.zip (f k)).foldl (fun t (p,v)=>t.setIfInBounds p v) a.tmps,defers:=[] } W)
  (hbody:∀ (l k:Nat) (a':Act) (W:World),k<N->I k W->B k a' W->D+2<=W.heap.size->body.wpIn (Fence.wide.inRound l) (n-1-1) P (ZhD S D I Ix k W) a' W)
  (hdone:∀ W:World,I N W->W.heap[D]?=some (.deferred (some []))->Q .normal { a with defers:={ target:=.collected D,args:=#[] }::a.defers } W)
  (hstop:∀ (c:Code) (k:Nat) (W:World),k<N->Ix c k W->W.heap[D]?=some (.deferred (some []))->c.wpIn Fence.wide n P Q { a with defers:={ target:=.collected D,args:=#[] }::a.defers } W) :
  (Code.rangeFunc g ps assign body).wpIn Fence.wide n P Q a w:=by
 subst hD
 refine wpIn_rangeFunc fun fn _=>?_
 let rec0:LoopState->Option Code->Loop:=fun st pe=>{ state:=st,pending:=pe,fn,tmps:=a.tmps,params:=ps,assign,body,defers:=w.heap.size }
 obtain⟨mk,hmk⟩:∃ mk:LoopState->Option Code->Loop,mk=rec0:=⟨_,rfl⟩
 obtain⟨W1,hW1⟩:=ZpB ((w.alloc (.deferred (some []))).alloc (.loop (mk .ready none)))
 have hrec1:W1.heap[w.heap.size+1]?=some (.loop (mk .ready none)):=by
  have:=ZoO (w.alloc (.deferred (some []))) (.loop (mk .ready none))
  rwa [Zpa,hW1] at this
 have hdef1:W1.heap[w.heap.size]?=some (.deferred (some [])):=by
  rw[<- hW1];exact(Zo1 _ _ _ Zc).trans (ZoO w _)
 have keepAny:∀ S':Nat->Prop,Keeps S' w W1:=fun S'=>by rw[<- hW1];exact((Keeps.refl S' w).alloc _).alloc _
 refine⟨w.heap.size+1,[{ target:=.collected w.heap.size,args:=#[] }],W1,{ target:=.fn (.func gf) lb,args:=#[.func (.yield (w.heap.size+1)) #[] #[]] },W1,gf,
  #[.func (.yield (w.heap.size+1)) #[] #[]]++lb,W1,?_,?_,fun _ _=>trivial,?_,(fun h=>by cases h),?_⟩
 ·rw[<- hW1,hmk];exact run_enterLoop_outer _ _ _ _ _
 ·simp only[resolve,hg]
  simp[go_sem]
 ·simp[invoke,go_sem,eg]
 ·-- the record between two rounds,and when one has said 'no more'
  have turn:∀ {k:Nat} {W2:World} (l:Loop),I k W2->W2.heap[w.heap.size]?=some (.deferred (some []))->w.heap.size+1<W2.heap.size->
    I k (W2.putObj (w.heap.size+1) (.loop l))/\(W2.putObj (w.heap.size+1) (.loop l)).heap[w.heap.size]?=some (.deferred (some []))/\(W2.putObj (w.heap.size+1) (.loop l)).heap[w.heap.size+1]?=some (.loop l):=
   fun l hi hd hlt=>⟨hI _ _ _ hi ((Keeps.refl _ _).putObj (fun h=>h.2.2 rfl) _),(Zo4 Za).trans hd,World.putObj_heap_same hlt⟩
  have turnx:∀ {c:Code} {k:Nat} {W2:World} (l:Loop),Ix c k W2->W2.heap[w.heap.size]?=some (.deferred (some []))->w.heap.size+1<W2.heap.size->
    Ix c k (W2.putObj (w.heap.size+1) (.loop l))/\(W2.putObj (w.heap.size+1) (.loop l)).heap[w.heap.size]?=some (.deferred (some []))/\(W2.putObj (w.heap.size+1) (.loop l)).heap[w.heap.size+1]?=some (.loop l):=
   fun l hi hd hlt=>⟨hIx _ _ _ _ hi ((Keeps.refl _ _).putObj (fun h=>h.2.2 rfl) _),(Zo4 Za).trans hd,World.putObj_heap_same hlt⟩
  have ltOf:∀ {W2:World} {o:Obj},W2.heap[w.heap.size+1]?=some o->w.heap.size+1<W2.heap.size:=fun h=>(Zpu h)
  have stay:∀ {k:Nat} {A B:World} {l:Loop},(A.heap[w.heap.size+1]?=some (.loop l)/\A.heap[w.heap.size]?=some (.deferred (some [])))->Keeps T A B->
    B.heap[w.heap.size+1]?=some (.loop l)/\B.heap[w.heap.size]?=some (.deferred (some [])):=fun {k A B l} h hk=>
   ⟨(hk.block _ (ltOf h.1) hTD.2).trans h.1,(hk.block _ (by have:=ltOf h.1;omega) hTD.1).trans h.2⟩
  refine(hit (n-1) (w.heap.size+1)
   (fun k W=>I k W/\(W.heap[w.heap.size+1]?=some (.loop (mk .ready none))/\W.heap[w.heap.size]?=some (.deferred (some []))))
   (fun k W=>∃ c,Ix c k W/\(W.heap[w.heap.size+1]?=some (.loop (mk .done (some c)))/\W.heap[w.heap.size]?=some (.deferred (some []))))
   W1 (keepAny S)
   (fun k A B h hk=>⟨hI _ _ _ h.1 (hk.mono fun b _ hb=>hb.1),stay (k:=k) h.2 hk⟩)
   (fun k A B h hk=>by obtain⟨c,h1,h2⟩:=h;exact⟨c,hIx _ _ _ _ h1 (hk.mono fun b _ hb=>hb.1),stay (k:=k) h2 hk⟩)
   ?_ ⟨hI _ _ _ h0 (keepAny _),hrec1,hdef1⟩).mono ?_
  ·rintro k W hk ⟨hi,hl,hd⟩
   have hlt:=ltOf hl
   have hy:=run_yield (P:=P) (args:=f k) hl (by rw[hmk];exact hps k)
   rw[hmk] at hy
   refine⟨fn,_,assign,body,hy,roundIn_of_wpIn (F:=Fence.wide) trivial (wpIn_mono (hassign _ k W hk Za) ?_)⟩
   rintro e a9 W9 hp9
   cases e<;>try exact hp9
   obtain⟨hk9,hb9⟩:=hp9
   have hl9:W9.heap[w.heap.size+1]?=some (.loop (mk .ready none)):=(hk9.block _ hlt trivial).trans hl
   have hd9:W9.heap[w.heap.size]?=some (.deferred (some [])):=(hk9.block _ Za trivial).trans hd
   have hi9:I k W9:=hI _ _ _ hi (hk9.mono fun _ _ _=>trivial)
   have keep9:Keeps S W W9:=hk9.mono fun _ _ _=>trivial
   clear hk9 hl hd hi hlt
   have hlt:=ltOf hl9
   refine⟨_,run_beginRound hl9 (by rw[hmk]),?_⟩
   obtain⟨hi2,hd2,hl2⟩:=turn { mk .ready none with state:=.busy } hi9 hd9 hlt
   have hb2:=hB _ _ _ (W9.putObj (w.heap.size+1) (.loop { mk .ready none with state:=.busy })) hb9 ((Keeps.refl _ _).putObj (fun h=>h.2 rfl) _)
   have keepSame:Keeps S W (W9.putObj (w.heap.size+1) (.loop { mk .ready none with state:=.busy })):=keep9.putObj (fun h=>by have:=hSD _ h;omega) _
   refine wpIn_mono (hbody _ k _ _ hk hi2 hb2 (by simp;omega)) ?_
   generalize hV:W9.putObj (w.heap.size+1) (.loop { mk .ready none with state:=.busy })=V at hi2 hd2 hl2 keepSame
   have fin:∀ (jump:Option Code) (W3:World),Keeps (fun b=>b=w.heap.size\/b=w.heap.size+1) V W3->
     (Instr.endRound (w.heap.size+1) jump).run P W3=.ok (.bool jump.isNone) (W3.putObj (w.heap.size+1) (.loop (mk (if jump.isNone then .ready else .done) jump)))/\
      W3.heap[w.heap.size]?=some (.deferred (some []))/\w.heap.size+1<W3.heap.size:=fun jump W3 hk3=>by
    have hl3:W3.heap[w.heap.size+1]?=some (.loop { mk .ready none with state:=.busy }):=(hk3.block _ (ltOf hl2) (.inr rfl)).trans hl2
    have hd3:=(hk3.block _ (by have:=ltOf hl2;omega) (.inl rfl)).trans hd2
    have:=run_endRound (P:=P) jump hl3
    rw[hmk] at this ⊢
    exact⟨this,hd3,ltOf hl3⟩
   rintro e a3 W3 hp
   cases e with
   | normal=>
    obtain⟨hk3,hi3⟩:=hp
    obtain⟨hr,hd3,hlt3⟩:=fin none W3 (hk3.mono fun _ _ hb=>.inr hb)
    obtain⟨x1,x2,x3⟩:=turn (mk .ready none) hi3 hd3 hlt3
    exact⟨_,_,hr,.inl ⟨rfl,⟨x1,x3,x2⟩,(keepSame.trans (hk3.mono fun b _ hb=>.inl hb)).putObj (fun h=>by have:=hSD _ h;omega) _⟩⟩
   | ret=>
    obtain⟨hk3,hi3⟩:=hp
    obtain⟨hr,hd3,hlt3⟩:=fin (some .ret) W3 hk3
    obtain⟨x1,x2,x3⟩:=turnx (mk .done (some .ret)) hi3 hd3 hlt3
    exact⟨_,_,hr,.inr ⟨rfl,.ret,x1,x3,x2⟩⟩
   | exit id=>
    obtain⟨hk3,hi3⟩:=hp
    obtain⟨hr,hd3,hlt3⟩:=fin (some (.exit id)) W3 hk3
    obtain⟨x1,x2,x3⟩:=turnx (mk .done (some (.exit id))) hi3 hd3 hlt3
    exact⟨_,_,hr,.inr ⟨rfl,.exit id,x1,x3,x2⟩⟩
   | goto t=>
    obtain⟨hk3,hi3⟩:=hp
    obtain⟨hr,hd3,hlt3⟩:=fin (some (.goto t)) W3 hk3
    obtain⟨x1,x2,x3⟩:=turnx (mk .done (some (.goto t))) hi3 hd3 hlt3
    exact⟨_,_,hr,.inr ⟨rfl,.goto t,x1,x3,x2⟩⟩
   | panic ch=>exact hp.elim
   | outgrown=>exact hp.elim
  ·rintro e W2 ⟨⟨v,rfl⟩,(⟨hi,hl,hd⟩ | ⟨k,hk,c,hi,hl,hd⟩)⟩
   ·have he:=run_endLoop (P:=P) hl (by rw[hmk];simp[rec0])
    obtain⟨x1,x2,_⟩:=turn { mk .ready none with state:=.exhausted } hi hd (ltOf hl)
    refine⟨none,_,by rw[hmk] at he ⊢;exact he,hdone _ x1 x2⟩
   ·have he:=run_endLoop (P:=P) hl (by rw[hmk];simp[rec0])
    obtain⟨x1,x2,_⟩:=turnx { mk .done (some c) with state:=.exhausted } hi hd (ltOf hl)
    refine⟨some c,_,by rw[hmk] at he ⊢;exact he,hstop c k _ hk x1 x2⟩
theorem Zec {P:Program} {n:Nat} {g:Operand} {ps:Array Tmp} {assign body:Code} {Q:Exit->Act->World->Prop} {a:Act} {w:World}
  {gf:Nat} {lb:Array Value} {f:Nat->Array Value} {N:Nat} {S T:Nat->Prop} (D:Nat) (hD:w.heap.size=D)
  (hg:a.eval g=.func (.func gf) #[] lb) (eg:∀ args w,(callFunc gf args).run P w=.ok (.enter gf args) w) (hps:∀ k,(f k).size=ps.size)
  (hit:Iter P gf lb f N S T w) (hSD:∀ b,S b->b<D) (hTD:T D/\T (D+1))
  (I:Nat->World->Prop) (Ix:Code->Nat->World->Prop)
  (hI:∀ k W1 W2,I k W1->Keeps (fun b=>T b/\b≠D/\b≠D+1) W1 W2->I k W2)
  (hIx:∀ c k W1 W2,Ix c k W1->Keeps (fun b=>T b/\b≠D/\b≠D+1) W1 W2->Ix c k W2)
  (h0:I 0 w) (B:Nat->Act->World->Prop)
  (hB:∀ k a' W1 W2,B k a' W1->Keeps (fun b=>b≠D/\b≠D+1) W1 W2->B k a' W2)
  (hassign:∀ (l k:Nat) (W:World),k<N->D+2<=W.heap.size->
   assign.wpIn (Fence.wide.inRound l) (n-1-1) P (Exit.then (fun a' W'=>Keeps (fun _=>True) W W'/\B k a' W') (fun _ _ _=>False)) { tmps:=(ps.zip (f k)).foldl (fun t (p,v)=>t.setIfInBounds p v) a.tmps,defers:=[] } W)
  (hbody:∀ (l k:Nat) (a':Act) (W:World),k<N->I k W->B k a' W->D+2<=W.heap.size->body.wpIn (Fence.wide.inRound l) (n-1-1) P (ZdT S D I Ix k W) a' W)
  (hdone:∀ W:World,I N W->W.heap[D]?=some (.deferred (some []))->Q .normal { a with defers:={ target:=.collected D,args:=#[] }::a.defers } W)
  (hstop:∀ (c:Code) (k:Nat) (W:World),k<N->Ix c k W->W.heap[D]?=some (.deferred (some []))->c.wpIn Fence.wide n P Q { a with defers:={ target:=.collected D,args:=#[] }::a.defers } W) :
  (Code.rangeFunc g ps assign body).wpIn Fence.wide n P Q a w:=
 Zhy D hD hg eg hps hit hSD hTD I Ix hI hIx h0 B hB hassign (fun l k a' W h1 h2 h3 h4=>wpIn_mono (hbody l k a' W h1 h2 h3 h4) fun _ _ _ h=>h.to3) hdone hstop
theorem Zj0 (n:Int) (w:World):(Instr.typeAssert (.iface 258 (.agg #[.int .i64 n])) 20 258 true).run Tryz.prog w=.ok (.tuple #[.agg #[.int .i64 n],.bool true]) w:=Zb
theorem ZjX (w:World):(Instr.typeAssert .nilIface 20 258 true).run Tryz.prog w=.ok (.tuple #[.agg #[.int .i64 0],.bool false]) w:=Zb
abbrev eO (n:Int):Obj:=.cells #[.int .i64 n] 30
abbrev mO (n:Int):Obj:=.cells #[.int .i64 n] 258
theorem ZfK (b c:Nat) (hne:b≠c) (n:Int) (older:List PanicEntry) (w:World) (hb:w.heap[b]?=some (pObj Zpv Zpv)) (hc:w.heap[c]?=some (eO 0)) :
  CallsD Tryz.prog 217 #[.pointer (some ⟨b,0,none⟩),.pointer (some ⟨c,0,none⟩)] (.panicking ({ v:=.iface 258 (.agg #[.int .i64 n]),recovered:=false }::older)) w fun e u' w'=>
   e=.returned (.tuple #[])/\u'=.panicking ({ v:=.iface 258 (.agg #[.int .i64 n]),recovered:=true }::older)/\w'.heap[b]?=some (pObj Zpv Zpv)/\w'.heap[c]?=some (eO n)/\Keeps (fun i=>i≠b/\i≠c) w w':=by
 have c0:=Zn hc 0 rfl
 have f0:=Zo hc 0
 have b0:=Zn hb 0 rfl
 have b1:=Zn hb 1 rfl
 have g0:=Zo hb 0
 have g1:=Zo hb 1
 have hta:=Zj0 n
 have hbl:=(Zpu hb)
 have hcl:=(Zpu hc)
 refine callsD_of_wpS Tryz.func217 rfl fun c₀ cs hu=>?_
 apply wpS_seq
 apply wpS_region
 simp[wpOpsS,go_sem,recoverD,hu,Tryz.ntmps217,Exit.thenS]
 refine wpS_of_wp ?_
 simp only[Array.replicate_succ,Array.replicate_zero,List.push_toArray,List.append_toArray,Zps,List.cons_append,List.setIfInBounds_toArray,List.set_cons_zero,List.set_cons_succ]
 go_wp2
 obtain⟨w0,hw0⟩:=ZpB (w.alloc (mO n))
 have hb0:w0.heap[b]?=some (pObj Zpv Zpv):=by rw[<- hw0];exact(Zo1 w _ b hbl).trans hb
 have hc0:w0.heap[c]?=some (eO 0):=by rw[<- hw0];exact(Zo1 w _ c hcl).trans hc
 have hm0:w0.heap[w.heap.size]?=some (mO n):=by rw[<- hw0];exact ZoO w _
 have HK0:Hid (Keeps (fun i=>i≠b/\i≠c) w w0):=by rw[<- hw0];exact(Keeps.refl _ w).alloc _
 rw[hw0]
 obtain⟨g,hg⟩:=ZpB w.heap.size
 rw[hg] at hm0 hbl hcl ⊢
 have hgb:g≠b:=Za
 have hgc:g≠c:=Za
 clear hw0 hb hc b0 b1 c0 f0 g0 g1 hta hg hbl hcl
 have mc:w0.cell? ⟨g,0,none⟩=some (.int .i64 n):=Zn hm0 0 rfl
 have b0:w0.cell? ⟨b,0,none⟩=some (.string Zpv):=Zn hb0 0 rfl
 have b1:w0.cell? ⟨b,1,none⟩=some (.string Zpv):=Zn hb0 1 rfl
 have g0:w0.frozen? ⟨b,0,none⟩=false:=Zo hb0 0
 have g1:w0.frozen? ⟨b,1,none⟩=false:=Zo hb0 1
 refine Zag [(true,0),(true,1),(true,2),(false,3),(false,4)] (fun w'=>w'.cell? ⟨g,0,none⟩=some (.int .i64 n)) (fun _=>false)
  Zb Zb (fun _ _=>rfl) Zi mc ?_
 iterate 3
  refine Zr _ rfl rfl (fun w' hS=>Zf) ?_
  simp only[Act.put,Zm]
 have b0:w0.drew.cell? ⟨b,0,none⟩=some (.string Zpv):=b0
 have b1:w0.drew.cell? ⟨b,1,none⟩=some (.string Zpv):=b1
 have g0:w0.drew.frozen? ⟨b,0,none⟩=false:=g0
 have g1:w0.drew.frozen? ⟨b,1,none⟩=false:=g1
 refine Zt rfl rfl fun K hK=>?_
 go_simp
 obtain⟨w1,hw1⟩:=ZpB (((w0.setCell ⟨b,0,none⟩ (.string Zpv)).setCell ⟨b,1,none⟩ (.string Zpv)).drew)
 have hb1:w1.heap[b]?=some (pObj Zpv Zpv):=by rw[<- hw1];exact ZoQ (ZoQ hb0 _) _
 have hc1:w1.heap[c]?=some (eO 0):=by
  rw[<- hw1]
  exact((ZoN _ _ _ _ (Ne.symm hne)).trans (ZoN _ _ _ _ (Ne.symm hne))).trans hc0
 have hm1:w1.heap[g]?=some (mO n):=by
  rw[<- hw1]
  exact((ZoN _ _ _ _ hgb).trans (ZoN _ _ _ _ hgb)).trans hm0
 have HK1:Hid (Keeps (fun i=>i≠b/\i≠c) w w1):=by
  rw[<- hw1]
  exact((HK0.out.setCell (p:=⟨b,0,none⟩) (fun h=>h.1 rfl) _).setCell (p:=⟨b,1,none⟩) (fun h=>h.1 rfl) _).drew
 rw[hw1]
 refine hK _ _ (.inr (Zn hm1 0 rfl)) ?_
 clear hK K hw1 b0 b1 g0 g1 mc hb0 hc0 hm0 HK0
 have c0:w1.cell? ⟨c,0,none⟩=some (.int .i64 0):=Zn hc1 0 rfl
 have f0:w1.frozen? ⟨c,0,none⟩=false:=Zo hc1 0
 refine Zt rfl rfl fun K hK=>?_
 go_simp
 obtain⟨w2,hw2⟩:=ZpB ((w1.setCell ⟨c,0,none⟩ (.int .i64 n)))
 have hb2:w2.heap[b]?=some (pObj Zpv Zpv):=by rw[<- hw2];exact(ZoN _ _ _ _ hne).trans hb1
 have hc2:w2.heap[c]?=some (eO n):=by rw[<- hw2];exact ZoQ hc1 _
 have hm2:w2.heap[g]?=some (mO n):=by rw[<- hw2];exact(ZoN _ _ _ _ hgc).trans hm1
 have HK2:Hid (Keeps (fun i=>i≠b/\i≠c) w w2):=by rw[<- hw2];exact HK1.out.setCell (p:=⟨c,0,none⟩) (fun h=>h.2 rfl) _
 rw[hw2]
 refine hK _ _ (.inr (Zn hm2 0 rfl)) ?_
 clear hK K hw2
 refine ZI ?_
 exact⟨rfl,_,rfl,.tuple #[],by simp[results,Tryz.f217,go_sem],rfl,rfl,hb2,hc2,HK2.out⟩
theorem Zin (b c:Nat) (w:World) :
  CallsD Tryz.prog 217 #[.pointer (some ⟨b,0,none⟩),.pointer (some ⟨c,0,none⟩)] .returning w fun e u' w'=>
   e=.returned (.tuple #[])/\u'=.returning/\w'=w.alloc (mO 0):=by
 have hta:=ZjX
 refine callsD_of_wpS Tryz.func217 rfl fun c₀ cs hu=>?_
 apply wpS_seq
 apply wpS_region
 simp[wpOpsS,go_sem,recoverD,hu,Tryz.ntmps217,Exit.thenS]
 refine wpS_of_wp ?_
 simp only[Array.replicate_succ,Array.replicate_zero,List.push_toArray,List.append_toArray,Zps,List.cons_append,List.setIfInBounds_toArray,List.set_cons_zero,List.set_cons_succ]
 go_wp2
 exact⟨rfl,.returning,by cases c₀;simp_all,.tuple #[],by simp[results,Tryz.f217,go_sem],rfl,rfl,rfl⟩
def Zny (A:ByteArray->ByteArray->Int->Prop) (w:World) (e:Ending) (w':World):Prop:=
 ∃ x y n,((n=0/\e=.returned (pV x y))\/(n≠0/\x=Zpv/\y=Zpv/\e=Zip n))/\A x y n/\Below w.heap.size w w'
theorem Keeps.below_of {w w':World} {S:Nat->Prop} (h:Keeps S w w') {B:Nat} (hB:∀ i,i<B->S i) (hw:B<=w.heap.size):Below B w w':=
 ⟨h.os,h.tape,h.output,h.size,fun k hk=>h.block k Za (hB k hk)⟩
theorem Zlp {f:Nat} {caps:Array Value} (hent:∀ args w,(callFunc f args).run Tryz.prog w=.ok (.enter f args) w) {A:ByteArray->ByteArray->Int->Prop} {w:World}
  (hdo:∀ W,Below w.heap.size w W->Calls Tryz.prog f caps W (Zny A W)) :
  Calls Tryz.prog 183 #[.func (.func f) #[] caps] w (ZL A w):=by
 have hmf:∀ (fn:Fn) (first cap:Array Value) (w:World),(Instr.makeFunc fn first cap).run Tryz.prog w=.ok (.func fn first cap) w:=fun _ _ _ _=>rfl
 have HD:=Zpz hdo
 clear hdo
 go_enter_defers Tryz.func183,Tryz.ntmps183
 go_wp2_with fail
 have hB0:Below w.heap.size w ((w.alloc (pObj Zpv Zpv)).alloc (eO 0)):=((ZoL _ w).alloc ZpA _).alloc Zc _
 have hp0:((w.alloc (pObj Zpv Zpv)).alloc (eO 0)).heap[w.heap.size]?=some (pObj Zpv Zpv):=(Zo1 _ _ _ Zc).trans (ZoO w _)
 have he0:((w.alloc (pObj Zpv Zpv)).alloc (eO 0)).heap[w.heap.size+1]?=some (eO 0):=by
  have:=ZoO (w.alloc (pObj Zpv Zpv)) (eO 0)
  rwa [Zpa] at this
 have hsz:((w.alloc (pObj Zpv Zpv)).alloc (eO 0)).heap.size=w.heap.size+2:=Zc
 refine(HD.out _ hB0).mono ?_
 obtain⟨w1,hw1⟩:=ZpB ((w.alloc (pObj Zpv Zpv)).alloc (eO 0))
 rw[hw1] at hB0 hp0 he0 hsz ⊢
 clear hw1 HD
 rintro e w2 ⟨x,y,n,hE,hA,hb⟩
 rw[hsz] at hb
 have HB2:Hid (Below (w.heap.size) w w2):=hB0.trans (hb.mono Za)
 have hp2:w2.heap[w.heap.size]?=some (pObj Zpv Zpv):=(hb.block _ Za).trans hp0
 have he2:w2.heap[w.heap.size+1]?=some (eO 0):=(hb.block _ Za).trans he0
 have HA:=Zpz hA
 obtain⟨p,hpp⟩:=ZpB w.heap.size
 rw[hpp] at hp2 he2 ⊢
 have HPP:=Zpz hpp
 clear hB0 hp0 he0 hsz hb hA hpp
 rcases hE with ⟨rfl,rfl⟩ | ⟨hn,rfl,rfl,rfl⟩
 ·have c0:=Zn hp2 0 rfl
  have c1:=Zn hp2 1 rfl
  have f0:=Zo hp2 0
  have f1:=Zo hp2 1
  have d0:=Zn he2 0 rfl
  have g0:=Zo he2 0
  have HP2:=Zpz hp2
  have HE2:=Zpz he2
  clear hp2 he2
  go_wp2
  obtain⟨w3,hw3⟩:=ZpB ((((w2.setCell ⟨p,0,none⟩ (.string x)).setCell ⟨p,1,none⟩ (.string y)).setCell ⟨p+1,0,none⟩ (.int .i64 0)))
  have hp3:w3.heap[p]?=some (pObj x y):=by rw[<- hw3];exact(ZoN _ _ _ _ (by show p≠p+1;omega)).trans (ZoQ (ZoQ HP2.out _) _)
  have he3:w3.heap[p+1]?=some (eO 0):=by
   rw[<- hw3]
   exact ZoQ (((ZoN _ _ _ _ (by show p+1≠p;omega)).trans (ZoN _ _ _ _ (by show p+1≠p;omega))).trans HE2.out) _
  have HB3:Hid (Below p w w3):=by
   have hb2:=HB2.out
   rw[HPP.out] at hb2
   rw[<- hw3]
   exact((hb2.setCell (p:=⟨p,0,none⟩) ZpA _).setCell (p:=⟨p,1,none⟩) ZpA _).setCell (p:=⟨p+1,0,none⟩) (Nat.le_succ _) _
  rw[hw3]
  clear hw3 c0 c1 f0 f1 d0 g0
  have hl3:=(Zpu he3)
  refine leaves_cons (f:=217) (args:=#[.pointer (some ⟨p,0,none⟩),.pointer (some ⟨p+1,0,none⟩)]) Zc (by simp[go_sem]) ?_
  refine(Zin p (p+1) _).mono ?_
  rintro e u' w'' ⟨rfl,rfl,rfl⟩
  have q0:(w3.alloc (mO 0)).cell? ⟨p,0,none⟩=some (.string x):=(Zai _ _ _ Za).trans (Zn hp3 0 rfl)
  have q1:(w3.alloc (mO 0)).cell? ⟨p,1,none⟩=some (.string y):=(Zai _ _ _ Za).trans (Zn hp3 1 rfl)
  have q2:(w3.alloc (mO 0)).cell? ⟨p+1,0,none⟩=some (.int .i64 0):=(Zai _ _ _ hl3).trans (Zn he3 0 rfl)
  refine⟨.tuple #[pV x y,.int .i64 0],by simp[results,Tryz.f183,go_sem,q0,q1,q2],x,y,0,rfl,HA.out,?_⟩
  rw[HPP.out]
  exact HB3.out.alloc (by rw[<- HPP.out];exact HB3.out.size) _
 ·unfold Zip
  refine leaves_cons (f:=217) (args:=#[.pointer (some ⟨p,0,none⟩),.pointer (some ⟨p+1,0,none⟩)]) Zc (by simp[go_sem]) ?_
  refine(ZfK p (p+1) Za n [] _ hp2 he2).mono ?_
  rintro e u' w3 ⟨rfl,rfl,hp3,he3,hk⟩
  have q0:w3.cell? ⟨p,0,none⟩=some (.string Zpv):=Zn hp3 0 rfl
  have q1:w3.cell? ⟨p,1,none⟩=some (.string Zpv):=Zn hp3 1 rfl
  have q2:w3.cell? ⟨p+1,0,none⟩=some (.int .i64 n):=Zn he3 0 rfl
  refine⟨.tuple #[pV Zpv Zpv,.int .i64 n],by simp[results,Tryz.f183,go_sem,q0,q1,q2],Zpv,Zpv,n,rfl,HA.out,?_⟩
  have hb2:=HB2.out
  rw[HPP.out] at hb2 ⊢
  exact hb2.trans (hk.below_of (fun i hi=>⟨Za,Za⟩) (by have:=(Zpu hp2);omega))
end Go.Proofs.YtmpaflidennnoaaGreatDoor
