/- The parts Reads, Short, Times, Compare, Greater. -/
import Derived.Test.YtjmckebecpjjfaaGreatDoorH02
import Derived.OrdersHeld
import Derived.Deep.QuietTactic
import Derived.BigQuiet
import Derived.Laws.Externs
set_option maxRecDepth 100000
set_option maxHeartbeats 4000000
set_option linter.unusedVariables false
set_option linter.unusedSimpArgs false
namespace Go.Proofs.YtjmckebecpjjfaaGreatDoor
open Go.RowKit
section
variable {P:Program} {ops:Array Oper} {Q:Exit->Act->World->Prop} {md:Region.Mode} {S:World->Prop} {bar:Nat->Bool}
def wpJ (P:Program) (md:Region.Mode) (ops:Array Oper) (Q:Exit->Act->World->Prop) (S:World->Prop) (bar:Nat->Bool):Nat->Array Bool->Act->World->Prop
 | 0,listed,a,w=>Region.ready md ops listed=[]/\Q .normal a w
 | fuel+1,listed,a,w=>(Region.ready md ops listed=[]->Q .normal a w)/\
  ∀ i ∈ Region.ready md ops listed,wpOp P ops Q i (fun a' w'=>(bar i=true\/S w')/\wpJ P md ops Q S bar fuel (listed.setIfInBounds i true) a' w') a w
theorem ZbN:∀ (fuel:Nat) (listed:Array Bool) (a:Act) (w:World),wpJ P md ops Q S bar fuel listed a w->wpAny P md ops Q fuel listed a w
 | 0,_,_,_,h=>h
 | fuel+1,_,_,_,h=>⟨h.1,fun i hi=>wpOp_mono (fun a' w' h'=>ZbN fuel _ a' w' h'.2) (h.2 i hi)⟩
def Zi9 (md:Region.Mode) (ops:Array Oper) (bar:Nat->Bool) (i:Nat):Prop:=∀ j,bar j=true->j≠i->Region.waitsFor md ops j i=true
theorem Zbw {i j:Nat} {listed:Array Bool} (hi:i ∈ Region.ready md ops listed) (hw:Region.waitsFor md ops j i=true):j ∉ Region.ready md ops listed:=by
 intro hj
 obtain⟨oj,hoj,e,he,hb,hon⟩:=Region.waitsFor_spec hw
 obtain⟨_,oj',hoj',hall⟩:=mem_ready.1 hj
 have:oj'=oj:=ZpZ (hoj'.symm.trans hoj)
 subst this
 have h1:=hall e he hb
 have h0:=(mem_ready.1 hi).1
 rw[hon] at h1
 rcases Zp1 i listed.size with h' | h'
 ·simp[h'] at h0 h1;rw[h0] at h1;cases h1
 ·simp[Array.getElem?_eq_none h'] at h1
theorem Zfy {i:Nat} {oi:Oper} {v:Value} (hi:ops[i]?=some oi) (hsel:Region.noSelect ops=true) (hQ:∀ c a w,Q (.panic c) (a.put oi.dst v) w->Q (.panic c) a w) (hbar:Zi9 md ops bar i) (hbi:bar i=false) :
  ∀ (fuel:Nat) (listed:Array Bool) (a:Act) (w:World),
   (∀ j oj,ops[j]?=some oj->j≠i->listed.getD j true=false->(∀ e ∈ oj.after,Region.binds md e=true->e.on≠i)->oi.apart ops oj=true)->
   i ∈ Region.ready md ops listed->YieldsIf P ops S oi v a->S w->
   wpJ P md ops Q S bar fuel (listed.setIfInBounds i true) (a.put oi.dst v) w->wpJ P md ops Q S bar (fuel+1) listed a w
 | 0,listed,a,w,_,hr,hy,hS,H=>by
  refine⟨fun h=>(by rw[h] at hr;cases hr),fun j hj=>?_⟩
  by_cases hji:j=i
  ·subst hji;exact hy.wpOp hi hS ⟨.inr hS,H⟩
  ·have:=ready_mono hj hji
   rw[H.1] at this
   cases this
 | fuel+1,listed,a,w,hfree,hr,hy,hS,H=>by
  refine⟨fun h=>(by rw[h] at hr;cases hr),fun j hj=>?_⟩
  by_cases hji:j=i
  ·subst hji;exact hy.wpOp hi hS ⟨.inr hS,H⟩
  ·have hbj:bar j=false:=by
    cases hb:bar j with
    | false=>rfl
    | true=>exact Zqx hj (Zbw hr (hbar j hb hji))
   obtain⟨hjun,oj,hoj,hall⟩:=mem_ready.1 hj
   have hnot:∀ e ∈ oj.after,Region.binds md e=true->e.on≠i:=fun e he hb heq=>by
    have:Region.waitsFor md ops j i=true:=by
     unfold Region.waitsFor
     rw[hoj]
     exact Array.any_eq_true'.2 ⟨e,he,by simp[hb,heq]⟩
    exact Zbw hr this hj
   have h2:=wpOp_putIf hoj (hfree j oj hoj hji hjun hnot) (fun cs b=>Region.noSelect_spec hsel i oi cs b hi) (fun cs b=>Region.noSelect_spec hsel j oj cs b hoj) hQ hy (H.2 j (ready_mono hj hji))
   refine wpOp_mono (fun a' w' h3=>?_) h2
   have hS':S w':=by
    rcases h3.2.1 with h4 | h4
    ·rw[hbj] at h4;cases h4
    ·exact h4
   refine⟨.inr hS',Zfy hi hsel hQ hbar hbi fuel (listed.setIfInBounds j true) a' w' (fun k ok hk hki hun hno=>?_) (ready_mono hr (Ne.symm hji)) h3.1 hS' ?_⟩
   ·refine hfree k ok hk hki ?_ hno
    by_cases hjk:j=k
    ·subst hjk;exact hjun
    ·rw[getD_set_ne true hjk] at hun;exact hun
   ·rw[Array.setIfInBounds_comm _ _ hji]
    exact h3.2.2
def ZeV (P:Program) (ops:Array Oper) (S:World->Prop) (L:Act->Prop):List Oper->Act->Prop
 | [],a=>L a
 | o::l,a=>∃ v,YieldsIf P ops S o v a/\ZeV P ops S L l (a.put o.dst v)
def Zch (P:Program) (ops:Array Oper) (Q:Exit->Act->World->Prop) (S:World->Prop) (bar:Nat->Bool):Nat->List Oper->Act->World->Prop
 | _,[],a,w=>Q .normal a w
 | k,o::l,a,w=>(if Region.wanted o (yielded ops a.tmps) then o.wp P a w (fun a' w'=>(bar k=true\/S w')/\Zch P ops Q S bar (k+1) l a' w') Q
   else (bar k=true\/S w)/\Zch P ops Q S bar (k+1) l (a.put o.dst undef) w)
theorem Zfb:∀ (l:List Oper) (k:Nat) (listed:Array Bool) (a:Act) (w:World),(∀ j,l[j]?=ops[k+j]?)->Region.seqB md ops l.length k listed=true->
  Zch P ops Q S bar k l a w->wpJ P md ops Q S bar l.length listed a w
 | [],_,_,_,_,_,hB,h=>⟨by simpa[Region.seqB] using hB,h⟩
 | o::l,k,listed,a,w,hl,hB,h=>by
  have h0:ops[k]?=some o:=by simpa using (hl 0).symm
  simp only[Zqv,Region.seqB,Zqt,Zqu] at hB
  refine⟨fun h1=>(by rw[hB.1] at h1;cases h1),fun i hi=>?_⟩
  rw[hB.1] at hi
  obtain rfl:i=k:=by simpa using hi
  have ih:=fun a' w' h'=>Zfb l (i+1) (listed.setIfInBounds i true) a' w' (fun j=>by have:=hl (j+1);simpa[Nat.add_assoc,Nat.add_comm 1 j] using this) hB.2 h'
  unfold wpOp
  simp only[h0]
  unfold Zch at h
  split at h
  ·rename_i hw;simp only[hw,if_true];exact .inl (Oper.wp_mono (fun a' w' h'=>⟨h'.1,ih a' w' h'.2⟩) h)
  ·rename_i hw;simp only[hw];exact⟨h.1,ih _ _ h.2⟩
def ZhI (md:Region.Mode) (ops:Array Oper) (h:Nat) (bar:Nat->Bool):Bool:=
 Region.noSelect ops && decide (h<=ops.size) && Region.lexHead md ops (ops.size-h) h 0 (Array.replicate ops.size false) &&
  ((List.range ops.size).all fun j=>!bar j || (decide (h<=j) && (List.range h).all fun i=>Region.waitsFor md ops j i)) && ZdB ops
theorem Zfx (hsel:Region.noSelect ops=true) (hQ:∀ c a o v w,Q (.panic c) (a.put o v) w->Q (.panic c) a w) (g h:Nat) (hbar:∀ i,i<h->Zi9 md ops bar i/\bar i=false) {w:World} (hS:S w) (tl:List Oper) (htl:tl.length=g)
  (htail:∀ j,tl[j]?=ops[h+j]?) :
  ∀ (l:List Oper) (k:Nat) (listed:Array Bool) (a:Act),(∀ j,j<l.length->l[j]?=ops[k+j]?)->k+l.length=h->Region.lexHead md ops g l.length k listed=true->
   ZeV P ops S (fun a'=>Zch P ops Q S bar h tl a' w) l a->wpJ P md ops Q S bar (l.length+g) listed a w
 | [],k,listed,a,_,hk,hB,h'=>by
  obtain rfl:k=h:=by simpa using hk
  rw[List.length_nil,Nat.zero_add,<- htl]
  exact Zfb tl k listed a w htail (by rw[htl];simpa[Region.lexHead] using hB) h'
 | o::l,k,listed,a,hl,hk,hB,h'=>by
  have h0:ops[k]?=some o:=by simpa using (hl 0 Zc).symm
  simp only[Zqv,Region.lexHead,Zqt] at hB
  obtain⟨⟨hr,hf⟩,hB'⟩:=hB
  have hkh:k<h:=by simp only[Zqv] at hk;omega
  obtain⟨v,hy,hrest⟩:=h'
  have ih:=Zfx hsel hQ g h hbar hS tl htl htail l (k+1) (listed.setIfInBounds k true) (a.put o.dst v) (fun j hj=>by have:=hl (j+1) (by simp;omega);simpa[Nat.add_assoc,Nat.add_comm 1 j] using this) (by simp only[Zqv] at hk;omega) hB' hrest
  have:=Zfy h0 hsel (fun c a w=>hQ c a o.dst v w) (hbar k hkh).1 (hbar k hkh).2 (l.length+g) listed a w (Region.free_spec h0 hf) (by simpa using hr) hy hS ih
  rw[Zqv,Nat.add_right_comm]
  exact this
theorem Zj6 {l:List Oper} (h:Nat) (S:World->Prop) (bar:Nat->Bool) (hB:ZhI .any l.toArray h bar=true) (hbo:∀ j,l.length<=j->bar j=false) (hQ:∀ c a o v w,Q (.panic c) (a.put o v) w->Q (.panic c) a w) {a:Act} {w:World} (hS:S w)
  (H:ZeV P l.toArray S (fun a'=>Zch P l.toArray Q S bar h (l.drop h) a' w) (l.take h) a):wpAny P .any l.toArray Q l.toArray.size (Array.replicate l.toArray.size false) a w:=by
 simp only[ZhI,Zqt,Zqu] at hB
 obtain⟨⟨⟨⟨hsel,hn⟩,hlex⟩,hbar⟩,_⟩:=hB
 have hn':h<=l.length:=by simpa using hn
 have htake:(l.take h).length=h:=by simp;omega
 have hdrop:(l.drop h).length=l.toArray.size-h:=Zc
 rw[Zqw] at hbar
 have hw:∀ i,i<h->Zi9 .any l.toArray bar i/\bar i=false:=fun i hi=>by
  have key:∀ j,bar j=true->h<=j/\∀ i,i<h->Region.waitsFor .any l.toArray j i=true:=fun j hj=>by
   have hjl:j<l.length:=by
    rcases Zp1 j l.length with h' | h'
    ·exact h'
    ·rw[hbo j h'] at hj;cases hj
   have:=hbar j (by simpa using hjl)
   rw[hj] at this
   simp only[Bool.not_true,Bool.false_or,Zqt,Zqu,Zqw,List.mem_range] at this
   exact this
  refine⟨fun j hj _=>(key j hj).2 i hi,?_⟩
  cases hb:bar i with
  | false=>rfl
  | true=>have:=(key i hb).1;omega
 have:=Zfx (md:=.any) (P:=P) (S:=S) (Q:=Q) hsel hQ (l.toArray.size-h) h hw hS (l.drop h) hdrop (fun j=>by simp[List.getElem?_drop]) (l.take h) 0 (Array.replicate l.toArray.size false) a (fun j hj=>by rw[htake] at hj;simp[hj]) (by simpa using htake) (by rw[htake];exact hlex) H
 rw[htake,show h+(l.toArray.size-h)=l.toArray.size by omega] at this
 exact ZbN _ _ _ _ this
end
theorem ZlW {P:Program} {ops:Array Oper} {S:World->Prop} {L:Act->Prop} {o:Oper} {l:List Oper} {a:Act} (v:Value) (hw:Region.wanted o (yielded ops a.tmps)=true) (hv:∀ w,S w->(execOp a.eval o).run P w=.ok (.value v) w)
  (h:ZeV P ops S L l (a.put o.dst v)):ZeV P ops S L (o::l) a:=⟨v,.inl ⟨hw,hv⟩,h⟩
theorem ZmM {P:Program} {ops:Array Oper} {S:World->Prop} {L:Act->Prop} {a:Act} (h:L a):ZeV P ops S L [] a:=h
theorem Zf9 {P:Program} {ops:Array Oper} {Q:Exit->Act->World->Prop} {S:World->Prop} {bar:Nat->Bool} {k:Nat} {o:Oper} {l:List Oper} {a:Act} {w:World} (hw:Region.wanted o (yielded ops a.tmps)=true)
  (h:∀ K:Act->World->Prop,(∀ a' w',(bar k=true\/S w')->Zch P ops Q S bar (k+1) l a' w'->K a' w')->o.wp P a w K Q):Zch P ops Q S bar k (o::l) a w:=by
 unfold Zch
 rw[if_pos hw]
 exact h _ fun _ _ h1 h2=>⟨h1,h2⟩
theorem Zmi {P:Program} {ops:Array Oper} {Q:Exit->Act->World->Prop} {S:World->Prop} {bar:Nat->Bool} {k:Nat} {a:Act} {w:World} (h:Q .normal a w):Zch P ops Q S bar k [] a w:=h
theorem ZhP {P:Program} {n r id:Nat} {Q:Exit->Act->World->Prop} {a:Act} {w:World} {l:List Oper} (h:Nat) (S:World->Prop) (bar:Nat->Bool) (hm:P.follows .mixedOrders=true)
  (hB:ZhI .any l.toArray h bar=true) (hbo:∀ j,l.length<=j->bar j=false) (hQ:∀ c a o v w,Q (.panic c) (a.put o v) w->Q (.panic c) a w) (hout:∀ a w,¬ Q .outgrown a w) (hS:S w.drew)
  (H:ZeV P l.toArray S (fun a'=>Zch P l.toArray Q S bar h (l.drop h) a' w.drew) (l.take h) a):(Code.region id l.toArray true).wpIn (Fence.wide.inRound r) n P Q a w:=by
 have hd:ZdB l.toArray=true:=by simp only[ZhI,Zqt] at hB;exact hB.2
 exact wpIn_region_any hm (ZbM hd hout _ _ _ _ (Zj6 h S bar hB hbo hQ hS H))
end Go.Proofs.YtjmckebecpjjfaaGreatDoor
namespace Go.Proofs.YtjmckebecpjjfaaGreatDoor
open Go.RowKit Go.Shelf
attribute [local go_sem] Oper.semAt_some
theorem Zgv (p1:Option Addr) (c1:Nat) (xs:List Nat) (hl:xs.length<=1000000) (d:Nat) (hd1:1<=d) (hd2:d<=1000000000) (w:World)
  (hp1:xs≠[]->∃ b off,p1=some ⟨b,off,none⟩/\b<w.heap.size/\At .u64 w b off xs) (hx:∀ x ∈ xs,x<1000000000) :
  Calls Tryz.prog 145 #[.slice p1 xs.length c1,.int .u64 d] w fun e w'=>
   ∃ v,e=.returned (.tuple #[v,.int .u64 (val 1000000000 xs % d:Nat)])/\Zdl w.heap.size w' v (val 1000000000 xs/d)/\Below w.heap.size w w':=by
 obtain⟨i0,hi,hz0,hz1,hz2⟩:=info_parts ZdM
 have HP1:=ZqH hp1
 have HX:=ZqH hx
 clear hp1 hx
 have hfn:∀ k,Fence.wide.fn k:=fun _=>trivial
 refine(Zqp (n:=9)).1 ?_
 refine callsIn_of_wp_marks Tryz.func145 rfl trivial ?_ rfl
 simp only[Tryz.ntmps145,Nat.reduceAdd,Nat.reduceSub,ZqG]
 gi_wp2_with (gi_at_make;refine ZoN _ rfl _ _ 105 rfl w.heap.size 146 i0 (.int .u64 0) 1 Tryz.underlying105 hi hz0 hz1 _ _ _ _ xs.length rfl rfl rfl rfl ?b2 ?b3 Zc ?_)
 case b2=>rw[hz2];omega
 case b3=>unfold maxLen;omega
 intro w0 hsz0 hown0 hgrow0
 have HR0:=ZqH (Row.full (k:=.u64) hown0)
 have hg0:=HR0.out.lt.2
 have HB0:=ZqH (((ZpV w.heap.size w).alloc ZqI _).grown hgrow0 Zc (fun k h=>by cases h))
 have HBY:Hid (w0.cell? ⟨w.heap.size,0,none⟩=some (.int .u64 d)):=by
  show _=_
  rw[Zqd (w:=w.alloc (.cells #[.int .u64 d] 146)) (hgrow0.block _ Zc Zc)]
  exact ZP _ _ _ _ rfl
 clear hown0 hgrow0
 gi_wp2_with (gi_at_call 103;refine(Zij Fence.wide _ trivial rfl _ _ _ _).mono ?_;rintro e w' ⟨rfl,rfl⟩)
 obtain⟨w3,hw3⟩:=ZqJ (((w0.alloc (.cells #[.slice (some ⟨w.heap.size+1,0,none⟩) xs.length xs.length] 105)).alloc (.cells #[.int .u64 0] 146)).alloc (.cells #[.slice p1 xs.length c1] 105))
 rw[hw3]
 have hD:w3.heap.size=w0.heap.size+3:=by rw[<- hw3];simp
 have HB3:ZqB w0 w3:=by rw[<- hw3];exact(((ZpV _ w0).alloc ZqI _).alloc Zc _).alloc (by simp<;>omega) _
 have HBY3:Hid (w3.cell? ⟨w.heap.size,0,none⟩=some (.int .u64 d)):=by show _=_;rw[HB3.out.cell (by simp<;>omega)];exact HBY.out
 have HOV3:Hid (w3.cell? ⟨w0.heap.size,0,none⟩=some (.slice (some ⟨w.heap.size+1,0,none⟩) xs.length xs.length)):=by
  show _=_;rw[<- hw3,Z8 _ _ _ (by simp<;>omega),Z8 _ _ _ Zc];exact ZP _ _ _ _ rfl
 have HRV3:Hid (w3.cell? ⟨w0.heap.size+1,0,none⟩=some (.int .u64 0)/\w3.frozen? ⟨w0.heap.size+1,0,none⟩=false):=by
  rw[<- hw3,Z8 _ _ _ Zc,ZcL _ _ _ Zc];exact⟨ZP _ _ _ _ Zc,Zcq _ _ _ _ Zc⟩
 have HR3:=ZqH (HR0.out.below HB3.out hg0)
 refine ZgM (w0.heap.size+3) hD (gf:=143) (lb:=#[.pointer (some ⟨w0.heap.size+2,0,none⟩)])
  (f:=fun k=>#[.int .i64 (bk xs.length k:Nat),.int .u64 (lim xs (bk xs.length k):Nat)]) (N:=xs.length) (S:=fun b=>b<w0.heap.size+3/\b≠w.heap.size+1/\b≠w0.heap.size+1) (T:=fun _=>True)
  rfl (enters_of Tryz.func143 Zb rfl) (fun _=>rfl) ?iter (fun b h=>h.1) ⟨trivial,trivial⟩
  (fun k W=>(∃ o r,Row .u64 146 W w.heap.size (w.heap.size+1) xs.length o/\ShortInv 1000000000 xs d (xs.length-k) o r/\W.cell? ⟨w0.heap.size+1,0,none⟩=some (.int .u64 (r:Nat))/\W.frozen? ⟨w0.heap.size+1,0,none⟩=false)/\Keeps (fun b=>b<w0.heap.size+3/\b≠w.heap.size+1/\b≠w0.heap.size+1) w3 W)
  (fun _ _ _=>False)
  (fun k W1 W2 h hk=>?ci)
  (fun c k W1 W2 h hk=>h.elim) ⟨⟨_,0,HR3.out,by rw[Nat.sub_zero];exact ShortInv.start Za xs hd1,HRV3.out.1,HRV3.out.2⟩,Keeps.refl _ _⟩ ?a1 ?assign ?body ?done ?stop
 case ci=>
  obtain⟨⟨o,r,h1,h2,h3,h4⟩,h5⟩:=h
  refine⟨⟨o,r,h1.kept (hk.block _ h1.lt.2 ⟨trivial,Za,Za⟩),h2,hk.cellAt h3 ⟨trivial,Zc,Zc⟩,?_⟩,h5.trans (hk.mono fun b hb1 hb2=>⟨trivial,Za,Za⟩)⟩
  rw[hk.frozen (Zqf W1 _ h3) ⟨trivial,Zc,Zc⟩];exact h4
 case iter=>
  refine Zfp (w0.heap.size+2) _ p1 c1 xs hl w3 ⟨Za,Za,Za⟩ ?_ ?_
  ·rw[<- hw3];exact ZP _ _ _ _ Zc
  ·intro hne
   obtain⟨b,off,h1,h2,h3⟩:=HP1.out hne
   exact⟨b,off,h1,⟨Za,Za,Za⟩,(h3.below HB0.out h2).below HB3.out Za⟩
 case assign=>
  intro l k W K hK
  gi_wp2
  exact hK
 case stop=>
  intro c k W _ h
  exact h.elim
 case body=>
  rintro l k W hk ⟨⟨o,r,HR,HI,hr1,hr2⟩,HK⟩ hW
  have cb:W.cell? ⟨w.heap.size,0,none⟩=some (.int .u64 d):=HK.cellAt HBY3.out ⟨by simp<;>omega,Zc,by simp<;>omega⟩
  have co:W.cell? ⟨w0.heap.size,0,none⟩=some (.slice (some ⟨w.heap.size+1,0,none⟩) xs.length xs.length):=HK.cellAt HOV3.out ⟨by simp<;>omega,by simp<;>omega,Zc⟩
  have hrl:r<d:=HI.rest
  obtain⟨i,hi⟩:=ZqJ (bk xs.length k)
  have hil:i<xs.length:=by unfold bk at hi;omega
  have hik:Hid (xs.length-k=i+1/\xs.length-(k+1)=i):=by unfold bk at hi;exact⟨Za,Za⟩
  obtain⟨x,hx⟩:=ZqJ (lim xs i)
  have hxl:x<1000000000:=by rw[<- hx];exact ZM Za HX.out i
  have hol:o.length=xs.length:=HI.len
  obtain⟨z,hz⟩:=ZqJ (o.getD i 0)
  have cz:W.cell? ⟨w.heap.size+1,i,none⟩=some (.int .u64 (z:Nat)):=HR.cell Za hz
  have fz:W.frozen? ⟨w.heap.size+1,i,none⟩=false:=HR.frozen _
  rw[hi,hx]
  have HKh:=ZqH HK
  have HRh:=ZqH HR
  have HIh:=ZqH HI
  have Hi:=ZqH hi
  have Hx:=ZqH hx
  clear hi hx HK HR HI hol hz
  have hdi:(1:Int)<=(d:Int):=Za
  gi_wp2
  have hS0:W.drew.cell? ⟨w0.heap.size+1,0,none⟩=some (.int .u64 (r:Nat))/\W.drew.cell? ⟨w.heap.size,0,none⟩=some (.int .u64 d)/\W.drew.cell? ⟨w0.heap.size,0,none⟩=some (.slice (some ⟨w.heap.size+1,0,none⟩) xs.length xs.length):=⟨hr1,cb,co⟩
  refine ZhP 15 (fun w'=>w'.cell? ⟨w0.heap.size+1,0,none⟩=some (.int .u64 (r:Nat))/\w'.cell? ⟨w.heap.size,0,none⟩=some (.int .u64 d)/\w'.cell? ⟨w0.heap.size,0,none⟩=some (.slice (some ⟨w.heap.size+1,0,none⟩) xs.length xs.length)) (fun j=>j==16)
   Zb Zb (fun j hj=>by simp at hj ⊢;omega) (fun _ _ _ _ _ h=>h) (fun _ _ h=>h) hS0 ?_
  simp only[List.take_succ_cons,List.take_zero,List.drop_succ_cons,List.drop_zero]
  obtain⟨s,hs⟩:=ZqJ (r*1000000000+x)
  have hrb:r<=999999999:=Za
  have e1:IntKind.u64.wrap ((r:Int)*1000000000)=(r:Int)*1000000000:=IntWalk.u64_in _ Za
  have e2:IntKind.u64.wrap ((r:Int)*1000000000+x)=(s:Int):=by
   have h:=IntWalk.u64_in ((r:Int)*1000000000+x) Za
   rw[h];omega
  obtain⟨q,hq⟩:=ZqJ (s/d)
  obtain⟨m,hm⟩:=ZqJ (s % d)
  have e3:((s:Int).tdiv d)=(q:Int):=by rw[<- hq];rfl
  have e4:((s:Int).tmod d)=(m:Int):=by rw[<- hm];rfl
  have hqb:q<=999999999999999999:=by rw[<- hq];exact Zp4 (Nat.div_le_self _ _) Za
  have e5:IntKind.u64.wrap (q:Int)=(q:Int):=IntWalk.u64_in _ Za
  have hdn:¬ d=0:=Za
  have HS:Hid (ShortInv 1000000000 xs d (xs.length-(k+1)) (o.set i q) m):=by
   have h1:=HIh.out
   rw[hik.out.1] at h1
   have h2:=h1.step HX.out hil (show s=r*1000000000+xs.getD i 0 by rw[<- hs];rw[show xs.getD i 0=x from Hx.out])
   rw[hq,hm] at h2
   show ShortInv _ _ _ _ _ _
   rw[hik.out.2]
   exact h2
  clear hs hq hm
  iterate 15
   refine ZlW _ rfl (fun w' hS=>by obtain⟨s1,s2,s3⟩:=hS;exact Zf) ?_
   simp only[Act.put,Zm]
  refine ZmM ?_
  refine Zf9 rfl fun K hK=>?_
  go_simp
  refine hK _ _ ?_ ?_
  ·right
   show ((W.setCell ⟨w.heap.size+1,i,none⟩ (.int .u64 (q:Nat))).drew).cell? _=_/\((W.setCell ⟨w.heap.size+1,i,none⟩ (.int .u64 (q:Nat))).drew).cell? _=_/\((W.setCell ⟨w.heap.size+1,i,none⟩ (.int .u64 (q:Nat))).drew).cell? _=_
   exact⟨(Zqd (ZpX W _ _ _ (by simp<;>omega))).trans hr1,(Zqd (ZpX W _ _ _ Zc)).trans cb,(Zqd (ZpX W _ _ _ (by simp<;>omega))).trans co⟩
  clear hK K
  refine Zf9 rfl fun K hK=>?_
  go_simp
  refine hK _ _ (.inl rfl) ?_
  clear hK K
  refine Zmi ?_
  have k1:∀ S':Nat->Prop,¬ S' (w.heap.size+1)->¬ S' (w0.heap.size+1)->Keeps S' W ((W.setCell ⟨w.heap.size+1,i,none⟩ (.int .u64 (q:Nat))).setCell ⟨w0.heap.size+1,0,none⟩ (.int .u64 (m:Nat))).drew:=
   fun S' n1 n2=>(((Keeps.refl _ _).setCell (p:=⟨w.heap.size+1,i,none⟩) n1 _).setCell (p:=⟨w0.heap.size+1,0,none⟩) n2 _).drew
  refine⟨k1 _ (by simp<;>omega) Zc,⟨⟨o.set i q,m,?_,HS.out,?_,?_⟩,HKh.out.trans (k1 _ Zc Zc)⟩⟩
  ·exact((HRh.out.set i q).setOther (a:=⟨w0.heap.size+1,0,none⟩) (by simp<;>omega) _).drew
  ·exact World.cell?_setCell_same' _ _ _ (by rw[Zqd (ZpX W _ _ _ (by simp<;>omega)),hr1];rfl)
  ·show ((W.setCell ⟨w.heap.size+1,i,none⟩ (.int .u64 (q:Nat))).setCell ⟨w0.heap.size+1,0,none⟩ (.int .u64 (m:Nat))).frozen? ⟨w0.heap.size+1,0,none⟩=false
   rw[World.frozen?_setCell,World.frozen?_setCell];exact hr2
 case done=>
  rintro W ⟨⟨o,r,HR,HI,hr1,hr2⟩,HK⟩ hdef
  rw[Nat.sub_self] at HI
  have HV:=ZqH HI.done
  have HLT:Hid (∀ z ∈ o,z<1000000000):=HI.lt
  have HLN:Hid (o.length=xs.length):=HI.len
  have co:W.cell? ⟨w0.heap.size,0,none⟩=some (.slice (some ⟨w.heap.size+1,0,none⟩) xs.length xs.length):=HK.cellAt HOV3.out ⟨by simp<;>omega,by simp<;>omega,Zc⟩
  have HKh:=ZqH HK
  have HRh:=ZqH HR
  have Hdef:=ZqH hdef
  clear HK HR HI hdef
  gi_wp2
  refine wpIn_wide.2 ?_
  go_quiet ((go_at_call 102;exact Calls.quiet_of_same ((Zdb (w:=_) (by exact HRh.out) HLT.out _ HLN.out.symm _ HV.out.1).mono fun e w' h=>⟨h.2.1,h.1.symm⟩)))
  gi_wp2
  have hB:Below w.heap.size w (W.drewN nq):=by
   refine HB0.out.trans ?_
   refine(show Below w.heap.size w0 w3 from ⟨HB3.out.os,HB3.out.tape,HB3.out.output,HB3.out.size,fun k hk=>HB3.out.block k Za⟩).trans ?_
   exact⟨HKh.out.os,HKh.out.tape,HKh.out.output,HKh.out.size,fun k hk=>HKh.out.block k Za ⟨Za,Za,Za⟩⟩
  have hRow:Row .u64 146 ((W.drewN nq).putObj (w0.heap.size+3) (.deferred none)) w.heap.size (w.heap.size+1) xs.length (Zp 1000000000 (val 1000000000 xs/d)):=by
   have h1:=HRh.out.take (Zp 1000000000 (val 1000000000 o)).length
   rw[<- Zci Za HLT.out,HV.out.1] at h1
   refine h1.kept ?_
   exact Zqe (w:=W.drewN nq) Za
  have hdef':(W.drewN nq).heap[w0.heap.size+3]?=some (.deferred (some [])):=Hdef.out
  refine⟨Zc,.inl ⟨_,_,rfl,run_takeDeferred hdef',?_⟩⟩
  refine⟨.tuple #[.slice (some ⟨w.heap.size+1,0,none⟩) (Zp 1000000000 (val 1000000000 xs/d)).length xs.length,.int .u64 (r:Nat)],by simp[results,Tryz.f145,go_sem],_,by rw[HV.out.2],⟨_,_,rfl,hRow⟩,?_⟩
  refine hB.trans ?_
  exact⟨rfl,rfl,rfl,Zc,fun k hk=>Zqe (w:=W.drewN nq) Za⟩
end Go.Proofs.YtjmckebecpjjfaaGreatDoor
namespace Go.Proofs.YtjmckebecpjjfaaGreatDoor
open Go.RowKit
theorem ZfJ {v1 v2:Value} {n m:Nat} {w:World} (h1:Num w v1 n) (h2:Num w v2 m) (hl1:(Zp 1000000000 n).length<=1000000) (hl2:(Zp 1000000000 m).length<=1000000) :
  Calls Tryz.prog 48 #[v1,v2] w fun e w'=>∃ v,e=.returned v/\Zdl w.heap.size w' v (n*m)/\Below w.heap.size w w':=by
 obtain⟨p1,c1,rfl,_,_,hp1⟩:=h1
 obtain⟨p2,c2,rfl,_,_,hp2⟩:=h2
 obtain⟨xs,hxs⟩:=ZqJ (Zp 1000000000 n)
 obtain⟨ys,hys⟩:=ZqJ (Zp 1000000000 m)
 rw[hxs] at hl1 hp1 ⊢
 rw[hys] at hl2 hp2 ⊢
 have HX:Hid (∀ x ∈ xs,x<1000000000):=by rw[<- hxs];exact ZR Za n
 have HY:Hid (∀ x ∈ ys,x<1000000000):=by rw[<- hys];exact ZR Za m
 have HV:Hid (val 1000000000 xs=n/\val 1000000000 ys=m):=by rw[<- hxs,<- hys];exact⟨ZO Za n,ZO Za m⟩
 have HP1:=ZqH hp1
 have HP2:=ZqH hp2
 clear hxs hys hp1 hp2
 obtain⟨i0,hi,hz0,hz1,hz2⟩:=info_parts ZdM
 go_enter Tryz.func48,Tryz.ntmps48
 go_wp2_with (at_make;refine wpList_make_full _ rfl _ _ 105 rfl w.heap.size 146 i0 (.int .u64 0) 1 Tryz.underlying105 hi hz0 hz1 _ _ _ _ (xs.length+ys.length) rfl rfl Za Za ?b2 ?b3 ZqI ?_)
 case b2=>rw[hz2];omega
 case b3=>unfold maxLen;omega
 intro w0 hown0 hgrow0
 have HB0:=ZqH ((ZpV w.heap.size w).grown hgrow0 ZqI (fun k h=>by cases h))
 have HR0:=ZqH (Row.full (k:=.u64) hown0)
 clear hgrow0 hown0
 go_wp2
 go_loopw [19] (fun i wr=>∃ (k:Nat) (o:List Nat),k<=xs.length/\i=.int .i64 k/\Hid (Row .u64 146 wr w.heap.size w.heap.size (xs.length+ys.length) o)/\
   Hid (RowsInv 1000000000 (xs.length+ys.length) xs ys k o)/\ZqB w wr) (fun i _=>xs.length-(intOf i).toNat)
 case atStart=>exact⟨0,_,Zp8 _,rfl,HR0,RowsInv.start Za _ _ _,HB0⟩
 case round=>
  obtain⟨i,o,hk,rfl,HR,HI,HB⟩:=hrel
  by_cases hlt:i<xs.length
  ·obtain⟨b1,off1,rfl,hb1,ha1⟩:=HP1.out (Zp3 Za)
   obtain⟨x,hx⟩:=ZqJ (xs.getD i 0)
   have hxl:x<1000000000:=by rw[<- hx];exact ZM Za HX.out i
   have cx:wr.cell? ⟨b1,off1+i,none⟩=some (.int .u64 (x:Nat)):=(HB.out.cell (p:=⟨b1,off1+i,none⟩) hb1).trans (ha1.getD hlt hx)
   have Hx:=ZqH hx
   have HT:=ZqH (HI.out.inner Za x)
   clear hx ha1 HI
   go_wp2
   obtain⟨wo,hwo⟩:∃ wo:World,wo=wr:=⟨_,rfl⟩
   go_loopw [8,26] (fun c kk wr=>∃ (k:Nat) (o:List Nat) (cr:Nat),k<=ys.length/\kk=.int .i64 k/\c=.int .u64 cr/\Hid (Row .u64 146 wr w.heap.size w.heap.size (xs.length+ys.length) o)/\
     Hid (TimesInv 1000000000 (xs.length+ys.length) i (val 1000000000 (xs.take i)*val 1000000000 ys) x ys k o cr)/\ZqB w wr) (fun _ kk _=>ys.length-(intOf kk).toNat)
   case atStart=>exact⟨0,_,0,Zp8 _,rfl,rfl,HR,HT,HB⟩
   case round=>
    clear HT HR HB cx hwo
    obtain⟨k,o,cr,hk2,rfl,rfl,HR,HT,HB⟩:=hrel
    have hcr:=HT.out.carry
    by_cases hlt2:k<ys.length
    ·obtain⟨b2,off2,rfl,hb2,ha2⟩:=HP2.out (Zp3 Za)
     obtain⟨y,hy⟩:=ZqJ (ys.getD k 0)
     have hyl:y<1000000000:=by rw[<- hy];exact ZM Za HY.out k
     have cy:wr.cell? ⟨b2,off2+k,none⟩=some (.int .u64 (y:Nat)):=(HB.out.cell (p:=⟨b2,off2+k,none⟩) hb2).trans (ha2.getD hlt2 hy)
     obtain⟨z,hz⟩:=ZqJ (o.getD (i+k) 0)
     have hzl:z<1000000000:=by rw[<- hz];exact ZM Za HT.out.lt _
     have hlen:=HT.out.len
     have cz:wr.cell? ⟨w.heap.size,i+k,none⟩=some (.int .u64 (z:Nat)):=HR.out.cell Za hz
     have fz:wr.frozen? ⟨w.heap.size,i+k,none⟩=false:=HR.out.frozen _
     have Hlen:=ZqH hlen
     have Hy:=ZqH hy
     have Hz:=ZqH hz
     have hmul:x*y<=999999999*999999999:=Nat.mul_le_mul Za Za
     have hmul':((x*y:Nat):Int)=(x:Int)*y:=Zc
     have hm0:0<=(x:Int)*y:=Za
     have hm1:(x:Int)*y<=999999998000000001:=Za
     have e3:((cr+z+x*y:Nat):Int)=(cr:Int)+(z+x*y):=by simp;omega
     have E1:Hid (((cr:Int)+(z+x*y)) % 1000000000=((cr+z+x*y) % 1000000000:Nat)):=by show _=_;omega
     have E2:Hid (((cr:Int)+(z+x*y))/1000000000=((cr+z+x*y)/1000000000:Nat)):=by show _=_;omega
     have HS:=ZqH (HT.out.step Za HY.out hxl hlt2 Za (show cr+z+x*y=cr+o.getD (i+k) 0+x*ys.getD k 0 by rw[Hy.out,Hz.out]))
     clear hy hz hlen ha2 hmul hmul' e3
     go_wp2
     go_roundw
     case rel=>exact⟨k+1,_,_,Za,by go_num,by rw[E2.out],by rw[E1.out];exact HR.out.set _ _,HS,HB.out.setCell ZqI _⟩
     case measure=>exact Zj
    ·obtain rfl:k=ys.length:=Za
     have hlen:=HT.out.len
     have hz:o.getD (i+ys.length) 0=0:=HT.out.zero _ ZqI
     have cz:wr.cell? ⟨w.heap.size,i+ys.length,none⟩=some (.int .u64 (0:Nat)):=HR.out.cell Za hz
     have fz:wr.frozen? ⟨w.heap.size,i+ys.length,none⟩=false:=HR.out.frozen _
     have HS:=ZqH (HT.out |> RowsInv.step (x:=x) (n:=xs) Za Hx.out.symm)
     have Hlen:=ZqH hlen
     clear hz hlen
     go_wp2
     go_roundw
     case rel=>exact⟨i+1,_,Za,by go_num,HR.out.set _ _,HS,HB.out.setCell ZqI _⟩
     case measure=>exact Zj
  ·obtain rfl:i=xs.length:=Za
   have HL:Hid (∀ z ∈ o,z<1000000000):=HI.out.lt
   have HD:Hid (val 1000000000 o=n*m):=by show _=_;rw[HI.out.done,HV.out.1,HV.out.2]
   go_wp2_with fail
   refine(Zdb HR.out HL.out _ HI.out.len.symm _ HD.out).mono ?_
   rintro e w' ⟨rfl,rfl,hr2⟩
   have HR2:=ZqH hr2
   clear hr2
   go_wp2
   go_ret
   exact⟨_,rfl,⟨_,_,rfl,HR2.out⟩,HB.out⟩
end Go.Proofs.YtjmckebecpjjfaaGreatDoor
namespace Go.Proofs.YtjmckebecpjjfaaGreatDoor
open Go.RowKit Go.Shelf
attribute [local go_sem] Oper.semAt_some
def Sign (n m:Nat) (r:Int):Prop:=(r<0<->n<m)/\(r=0<->n=m)/\-1000000<=r/\r<=1000000
def Zlp (w:World) (n m:Nat) (e:Ending) (w':World):Prop:=∃ r:Int,e=.returned (.int .i64 r)/\Sign n m r/\Below w.heap.size w w'
def ZfV (xs ys:List Nat) (k:Nat):Prop:=∀ j,xs.length-k<=j->j<xs.length->lim xs j=lim ys j
theorem ZdA {xs:List Nat} {i:Nat} (h:i<xs.length):lim xs i=xs[i]:=by simp[lim,List.getD,h]
theorem ZkX {xs ys:List Nat} (hlen:ys.length=xs.length) (h:ZfV xs ys xs.length):xs=ys:=by
 refine List.ext_getElem hlen.symm fun j h1 h2=>?_
 have:=h j Za h1
 rwa [ZdA h1,ZdA h2] at this
theorem Zkb {xs ys:List Nat} (hlen:ys.length=xs.length) (hx:∀ x ∈ xs,x<1000000000) (hy:∀ x ∈ ys,x<1000000000) {k:Nat} (hk:k<xs.length) (h:ZfV xs ys k)
  {r:Int} (hs:Sign (lim xs (bk xs.length k)) (lim ys (bk xs.length k)) r) (hr:r≠0):Sign (val 1000000000 xs) (val 1000000000 ys) r:=by
 obtain⟨i,hi⟩:=ZqJ (bk xs.length k)
 have hil:i<xs.length:=by unfold bk at hi;omega
 have hdrop:xs.drop (i+1)=ys.drop (i+1):=by
  refine List.ext_getElem (by simp[hlen]) fun j h1 h2=>?_
  have h3:i+1+j<xs.length:=by simp at h1;omega
  have:=h (i+1+j) (by unfold bk at hi;omega) h3
  rw[ZdA h3,ZdA Za] at this
  simpa using this
 rw[hi,ZdA hil,ZdA Za] at hs
 obtain⟨s1,s2,s3,s4⟩:=hs
 have hne:xs[i]≠ys[i]'Za:=fun e=>hr (s2.2 e)
 rcases Nat.lt_or_gt_of_ne hne with h1 | h1
 ·have:=Ze9 (B:=1000000000) hx hil hlen.symm hdrop h1
  have h2:=s1.2 h1
  exact⟨⟨fun _=>this,fun _=>h2⟩,⟨fun e=>Za,fun e=>Za⟩,s3,s4⟩
 ·have:=Ze9 (B:=1000000000) hy Za hlen hdrop.symm h1
  have h2:¬ r<0:=fun h=>by have:=s1.1 h;omega
  exact⟨⟨fun e=>Zqx e h2,fun e=>Za⟩,⟨fun e=>Zqx e hr,fun e=>Za⟩,s3,s4⟩
theorem Zkc (p1 p2:Option Addr) (c1 c2:Nat) (l1 l2:Nat) (h1:l1<=1000000) (h2:l2<=1000000) (hne:l1≠l2) (w:World) :
  Calls Tryz.prog 49 #[.slice p1 l1 c1,.slice p2 l2 c2] w fun e w'=>e=.returned (.int .i64 ((l1:Int)-l2))/\Below w.heap.size w w':=by
 have hb:((l1:Int) !=l2)=true:=by rw[bne_iff_ne];omega
 clear hne
 go_enter Tryz.func49,Tryz.ntmps49
 go_wp2
 refine ZpW (v:=.int .i64 ((l1:Int)-l2)) ?_ rfl ⟨rfl,?_⟩
 ·simp[results,Tryz.f49,go_sem]
 exact((ZpV _ _).alloc ZqI _).alloc Zc _
theorem Zj2 (p1 p2:Option Addr) (c1 c2:Nat) (xs ys:List Nat) (hl:xs.length<=1000000) (hlen:ys.length=xs.length) (w:World)
  (hp1:xs≠[]->∃ b off,p1=some ⟨b,off,none⟩/\b<w.heap.size/\At .u64 w b off xs) (hp2:ys≠[]->∃ b off,p2=some ⟨b,off,none⟩/\b<w.heap.size/\At .u64 w b off ys)
  (hx:∀ x ∈ xs,x<1000000000) (hy:∀ x ∈ ys,x<1000000000) :
  Calls Tryz.prog 49 #[.slice p1 xs.length c1,.slice p2 xs.length c2] w (Zlp w (val 1000000000 xs) (val 1000000000 ys)):=by
 have HL:=ZqH hlen
 have HP1:=ZqH hp1
 have HP2:=ZqH hp2
 have HX:=ZqH hx
 have HY:=ZqH hy
 clear hlen hp1 hp2 hx hy
 have hfn:∀ k,Fence.wide.fn k:=fun _=>trivial
 refine(Zqp (n:=9)).1 ?_
 refine callsIn_of_wp_marks Tryz.func49 rfl trivial ?_ rfl
 simp only[Tryz.ntmps49,Nat.reduceAdd,Nat.reduceSub,ZqG]
 gi_wp2_with (gi_at_call 103;refine(Zij Fence.wide _ trivial rfl _ _ _ _).mono ?_;rintro e w' ⟨rfl,rfl⟩)
 obtain⟨w3,hw3⟩:=ZqJ (((w.alloc (.cells #[.slice p2 xs.length c2] 105)).alloc (.cells #[.int .i64 0] 3)).alloc (.cells #[.slice p1 xs.length c1] 105))
 rw[hw3]
 have hD:w3.heap.size=w.heap.size+3:=by rw[<- hw3];simp
 have HB3:ZqB w w3:=by rw[<- hw3];exact(((ZpV _ w).alloc ZqI _).alloc Zc _).alloc (by simp;omega) _
 refine ZgM (w.heap.size+3) hD (gf:=143) (lb:=#[.pointer (some ⟨w.heap.size+2,0,none⟩)])
  (f:=fun k=>#[.int .i64 (bk xs.length k:Nat),.int .u64 (lim xs (bk xs.length k):Nat)]) (N:=xs.length) (S:=fun b=>b<w.heap.size+3/\b≠w.heap.size+1) (T:=fun _=>True)
  rfl (enters_of Tryz.func143 Zb rfl) (fun _=>rfl) ?iter (fun b h=>h.1) ⟨trivial,trivial⟩
  (fun k W=>ZfV xs ys k/\Keeps (fun b=>b<w.heap.size+3) w3 W)
  (fun c k W=>c=.ret/\ZfV xs ys k/\(∃ r:Int,W.cell? ⟨w.heap.size+1,0,none⟩=some (.int .i64 r)/\Hid (Sign (lim xs (bk xs.length k)) (lim ys (bk xs.length k)) r/\r≠0))/\Keeps (fun b=>b<w.heap.size+3/\b≠w.heap.size+1) w3 W)
  (fun k W1 W2 h hk=>⟨h.1,h.2.trans (hk.mono fun b hb1 hb2=>⟨trivial,Za,Za⟩)⟩)
  (fun c k W1 W2 h hk=>?ix) ⟨fun j h1 h2=>Za,Keeps.refl _ _⟩ ?a1 ?assign ?body ?done ?stop
 case ix=>
  obtain⟨h1,h2,⟨r,h3,h4⟩,h5⟩:=h
  exact⟨h1,h2,⟨r,hk.cellAt h3 ⟨trivial,Zc,Zc⟩,h4⟩,h5.trans (hk.mono fun b hb1 hb2=>⟨trivial,Za,Za⟩)⟩
 case iter=>
  refine Zfp (w.heap.size+2) _ p1 c1 xs hl w3 ⟨Za,Za⟩ ?_ ?_
  ·rw[<- hw3];exact ZP _ _ _ _ Zc
  ·intro hne
   obtain⟨b,off,h1,h2,h3⟩:=HP1.out hne
   refine⟨b,off,h1,⟨Za,Za⟩,?_⟩
   exact h3.below HB3.out h2
 case assign=>
  intro l k W K hK
  gi_wp2
  exact hK
 case body=>
  rintro l k W hk ⟨HE,HK⟩ hW
  have cm:W.cell? ⟨w.heap.size,0,none⟩=some (.slice p2 xs.length c2):=HK.cellAt (by rw[<- hw3,Z8 _ _ _ (by simp;omega),Z8 _ _ _ Zc];exact ZP _ _ _ _ rfl) Zc
  have cr:W.cell? ⟨w.heap.size+1,0,none⟩=some (.int .i64 0):=HK.cellAt (by rw[<- hw3,Z8 _ _ _ Zc];exact ZP _ _ _ _ Zc) Zc
  have fr:W.frozen? ⟨w.heap.size+1,0,none⟩=false:=by rw[HK.frozen (by rw[hD];simp) Zc,<- hw3,ZcL _ _ _ Zc];exact Zcq _ _ _ _ Zc
  have HKh:=ZqH HK
  obtain⟨i,hi⟩:=ZqJ (bk xs.length k)
  have hil:i<xs.length:=by unfold bk at hi;omega
  have hik:Hid (xs.length-k=i+1/\xs.length-(k+1)=i):=by unfold bk at hi;exact⟨Za,Za⟩
  obtain⟨b,off,rfl,hb,ha⟩:=HP2.out (Zp3 (by rw[HL.out];omega))
  obtain⟨y,hy⟩:=ZqJ (lim ys i)
  obtain⟨x,hx⟩:=ZqJ (lim xs i)
  have ha3:=ha.below HB3.out hb
  have cy:W.cell? ⟨b,off+i,none⟩=some (.int .u64 (y:Nat)):=HK.cellAt (ha3.getD (by rw[HL.out];exact hil) hy) (by simp;omega)
  rw[hi,hx]
  clear HK ha ha3
  have Hi:=ZqH hi
  have Hx:=ZqH hx
  have Hy:=ZqH hy
  clear hi hx hy
  by_cases hxy:x=y
  ·have hb0:((x:Int) !=y)=false:=by subst hxy;simp
   have HXY:=ZqH hxy
   clear hxy
   gi_wp2
   refine⟨Keeps.refl _ _,fun j h1 h2=>?_,HKh.out⟩
   have hik1:=hik.out
   rcases Zp1 i j with h3 | h3
   ·exact HE j Za h2
   ·obtain rfl:j=i:=Za
    rw[Hx.out,Hy.out,HXY.out]
  ·have hb0:((x:Int) !=y)=true:=by rw[bne_iff_ne];omega
   have HS1:Hid (x<y->Sign (lim xs (bk xs.length k)) (lim ys (bk xs.length k)) (-1)/\(-1:Int)≠0):=fun h=>by
    rw[Hi.out,Hx.out,Hy.out];exact⟨⟨Za,Za,Za,Za⟩,Za⟩
   have HS2:Hid (¬ x<y->Sign (lim xs (bk xs.length k)) (lim ys (bk xs.length k)) 1/\(1:Int)≠0):=fun h=>by
    rw[Hi.out,Hx.out,Hy.out];exact⟨⟨Za,Za,Za,Za⟩,Za⟩
   have hS3:¬ (fun b=>(b<w.heap.size+3/\b≠w.heap.size+1)\/b=w.heap.size+3\/b=w.heap.size+3+1) (w.heap.size+1):=Zc
   have HS3:=ZqH hS3
   clear hxy hS3
   by_cases hlt:x<y
   ·gi_wp2
    exact⟨(Keeps.refl _ _).setCell (p:=⟨w.heap.size+1,0,none⟩) HS3.out _,rfl,HE,⟨-1,World.cell?_setCell_same' _ _ _ (by rw[cr];rfl),HS1.out hlt⟩,(HKh.out.mono (fun b _ hb=>hb.1)).setCell (p:=⟨w.heap.size+1,0,none⟩) Zc _⟩
   ·gi_wp2
    exact⟨(Keeps.refl _ _).setCell (p:=⟨w.heap.size+1,0,none⟩) HS3.out _,rfl,HE,⟨1,World.cell?_setCell_same' _ _ _ (by rw[cr];rfl),HS2.out hlt⟩,(HKh.out.mono (fun b _ hb=>hb.1)).setCell (p:=⟨w.heap.size+1,0,none⟩) Zc _⟩
 case done=>
  rintro W ⟨HE,HK⟩ hdef
  have cr:W.cell? ⟨w.heap.size+1,0,none⟩=some (.int .i64 0):=HK.cellAt (by rw[<- hw3,Z8 _ _ _ Zc];exact ZP _ _ _ _ Zc) Zc
  have fr:W.frozen? ⟨w.heap.size+1,0,none⟩=false:=by rw[HK.frozen (by rw[hD];simp) Zc,<- hw3,ZcL _ _ _ Zc];exact Zcq _ _ _ _ Zc
  have HKh:=ZqH HK
  clear HK
  gi_wp2
  have hdef':(W.setCell ⟨w.heap.size+1,0,none⟩ (.int .i64 0)).heap[w.heap.size+3]?=some (.deferred (some [])):=(ZpX _ _ _ _ Zc).trans hdef
  have hc5:((W.setCell ⟨w.heap.size+1,0,none⟩ (.int .i64 0)).putObj (w.heap.size+3) (.deferred none)).cell? ⟨w.heap.size+1,0,none⟩=some (.int .i64 0):=
   (Zqd (Zqe Zc)).trans (World.cell?_setCell_same' _ _ _ (by rw[cr];rfl))
  refine⟨Zc,.inl ⟨_,_,rfl,run_takeDeferred hdef',?_⟩⟩
  refine⟨.int .i64 0,by simp[results,Tryz.f49,go_sem,hc5],0,rfl,?_,?_⟩
  ·rw[ZkX HL.out HE]
   exact⟨Zc,Zc,Za,Za⟩
  ·refine HB3.out.trans ?_
   have h1:=((HKh.out.mono (S':=fun b=>b<w.heap.size) (fun b _ hb=>Za)).setCell (p:=⟨w.heap.size+1,0,none⟩) Zc (.int .i64 0)).putObj (r:=w.heap.size+3) Zc (.deferred none)
   exact⟨h1.os,h1.tape,h1.output,h1.size,fun k hk=>h1.block k Za hk⟩
 case stop=>
  rintro c k W hk ⟨rfl,HE,⟨r,cr,HS⟩,HK⟩ hdef
  have HKh:=ZqH HK
  clear HK
  gi_wp2
  have hc5:(W.putObj (w.heap.size+3) (.deferred none)).cell? ⟨w.heap.size+1,0,none⟩=some (.int .i64 r):=(Zqd (Zqe Zc)).trans cr
  refine⟨Zc,.inl ⟨_,_,rfl,run_takeDeferred hdef,?_⟩⟩
  refine⟨.int .i64 r,by simp[results,Tryz.f49,go_sem,hc5],r,rfl,Zkb HL.out HX.out HY.out hk HE HS.out.1 HS.out.2,?_⟩
  refine HB3.out.trans ?_
  have h1:=(HKh.out.mono (S':=fun b=>b<w.heap.size) (fun b _ hb=>Za)).putObj (r:=w.heap.size+3) Zc (.deferred none)
  exact⟨h1.os,h1.tape,h1.output,h1.size,fun k hk=>h1.block k Za hk⟩
theorem Zdh {v1 v2:Value} {n m:Nat} {w:World} (h1:Num w v1 n) (h2:Num w v2 m) (hl1:(Zp 1000000000 n).length<=1000000) (hl2:(Zp 1000000000 m).length<=1000000) :
  Calls Tryz.prog 49 #[v1,v2] w (Zlp w n m):=by
 obtain⟨p1,c1,rfl,_,_,hp1⟩:=h1
 obtain⟨p2,c2,rfl,_,_,hp2⟩:=h2
 by_cases hlen:(Zp 1000000000 n).length=(Zp 1000000000 m).length
 ·rw[<- hlen]
  have:=Zj2 p1 p2 c1 c2 _ _ hl1 hlen.symm w hp1 hp2 (ZR Za n) (ZR Za m)
  rwa [ZO Za,ZO Za] at this
 ·refine(Zkc p1 p2 c1 c2 _ _ hl1 hl2 hlen w).mono ?_
  rintro e w' ⟨rfl,hb⟩
  refine⟨_,rfl,?_,hb⟩
  rcases Nat.lt_or_gt_of_ne hlen with h | h
  ·have:=ZdW (B:=1000000000) Za h
   exact⟨⟨fun _=>this,fun _=>Za⟩,⟨fun e=>Za,fun e=>Za⟩,Za,Za⟩
  ·have:=ZdW (B:=1000000000) Za h
   exact⟨⟨fun e=>Za,fun e=>Za⟩,⟨fun e=>Za,fun e=>Za⟩,Za,Za⟩
end Go.Proofs.YtjmckebecpjjfaaGreatDoor
namespace Go.Proofs.YtjmckebecpjjfaaGreatDoor
open Go.RowKit
theorem Zgl (x y p:Nat) (hp:x*y=p) (hx:x<18446744073709551616) (hy:y<18446744073709551616) (h:p<18446744073709551616) (w:World) :
  Calls Tryz.prog 183 #[.int .u64 x,.int .u64 y] w fun e w'=>w=w'/\e=.returned (.tuple #[.int .u64 0,.int .u64 (p:Nat)]):=by
 refine(Tryz.bits_Mul64 x y hx hy w).mono ?_
 rintro e w' ⟨rfl,rfl⟩
 refine⟨rfl,?_⟩
 rw[hp,Nat.div_eq_of_lt h,Nat.mod_eq_of_lt h]
 rfl
theorem Zl8 (x p:Nat) (hp:x*1000000000=p) (hx:x<18446744073709551616) (h:p<18446744073709551616) (w:World) :
  Calls Tryz.prog 183 #[.int .u64 x,.int .u64 1000000000] w fun e w'=>w=w'/\e=.returned (.tuple #[.int .u64 0,.int .u64 (p:Nat)]):=
 Zgl x 1000000000 p hp hx Za h w
theorem ZlD (x y s:Nat) (hs:x+y=s) (h:s<18446744073709551616) (w:World) :
  (callFunc 184 #[.int .u64 x,.int .u64 y,.int .u64 0]).run Tryz.prog w=.ok (.value (.tuple #[.int .u64 (s:Nat),.int .u64 0])) w:=by
 have:=run_callFunc_extern (P:=Tryz.prog) Tryz.func184 Zb Zb Zb (e:=add64Entry) Zb (args:=#[.int .u64 x,.int .u64 y,.int .u64 0]) (w:=w)
 rw[this]
 rw[run_add64 x y 0 Za Za Za Za (P:=Tryz.prog) (w:=w)]
 subst hs
 simp only[Result.andThen]
 have h1:((x:Int)+y+0) % 18446744073709551616=((x+y:Nat):Int):=Za
 have h2:((x:Int)+y+0)/18446744073709551616=0:=Za
 rw[h1,h2]
theorem Zgt (g s l n:Nat) (hg:g<=1000000001) (hs:s<1000000000) (hl:l<1000000000) (hn:n<1000000000) (w:World) :
  Calls Tryz.prog 146 #[.int .u64 g,.int .u64 s,.int .u64 l,.int .u64 n] w fun e w'=>w=w'/\e=.returned (.bool (decide (l*1000000000+n<g*s))):=by
 obtain⟨p,hp⟩:=ZqJ (g*s)
 have hpl:p<2000000000000000000:=by
  have:g*s<=1000000001*999999999:=Nat.mul_le_mul hg Za
  omega
 have HP:=ZqH hp
 clear hp
 obtain⟨q,hq⟩:=ZqJ (l*1000000000)
 obtain⟨r,hr⟩:=ZqJ (q+n)
 have hql:q<1000000000000000000:=Za
 have hrl:r<2000000000000000000:=Za
 have HQ:=ZqH hq
 have HRR:=ZqH hr
 clear hq hr
 go_enter Tryz.func146,Tryz.ntmps146
 go_wp2_with fail
 refine(Zgl g s p HP.out Za Za Za _).mono ?_
 rintro e w' ⟨rfl,rfl⟩
 go_wp2_with fail
 refine(Zl8 l q HQ.out Za Za _).mono ?_
 rintro e w' ⟨rfl,rfl⟩
 have ha:=fun w=>ZlD q n r HRR.out Za w
 have E2:Hid (decide (l*1000000000+n<g*s)=decide (r<p)):=by
  show _=_
  rw[HP.out,HQ.out,HRR.out]
 go_wp2_with (simp only[ha])
 go_ret
 exact⟨rfl,by rw[E2.out];rfl⟩
end Go.Proofs.YtjmckebecpjjfaaGreatDoor
