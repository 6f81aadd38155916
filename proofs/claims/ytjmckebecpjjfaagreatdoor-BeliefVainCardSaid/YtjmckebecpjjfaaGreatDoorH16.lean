/- The parts StepsT, StepsP, FloatZ, BelA. -/
import Derived.Test.YtjmckebecpjjfaaGreatDoorH15
set_option maxRecDepth 100000
set_option maxHeartbeats 4000000
set_option linter.unusedVariables false
set_option linter.unusedSimpArgs false
namespace Go.Proofs.YtjmckebecpjjfaaGreatDoor
open Go.RowKit Go.Shelf
attribute [local go_sem ↓] Go.wp_at_zero Go.wp_at_succ
section
variable {P:Program} {ops:Array Oper} {Q:Exit->Act->World->Prop} {md:Region.Mode} {S:World->Prop} {bar:Nat->Bool}
theorem Ze2 {i:Nat} {oi:Oper} {v:Value} (hi:ops[i]?=some oi) (hsel:Region.noSelect ops=true) (hQ:∀ c a w,Q (.panic c) (a.put oi.dst v) w->Q (.panic c) a w) (hbar:Zj7 md ops bar i) (hbi:bar i=false) :
  ∀ (fuel:Nat) (listed:Array Bool) (a:Act) (w:World),ZbH md ops listed->
   (∀ j oj,ops[j]?=some oj->j≠i->listed.getD j true=false->(∀ e ∈ oj.after,Region.binds md e=true->e.on≠i)->oi.apart ops oj=true)->
   i ∈ Region.ready md ops listed->YieldsIf P ops S oi v a->S w->
   wpJ P md ops Q S bar fuel (listed.setIfInBounds i true) (a.put oi.dst v) w->wpJ P md ops Q S bar (fuel+1) listed a w
 | 0,listed,a,w,_,_,hr,hy,hS,H=>by
  refine⟨fun h=>(by rw[h] at hr;cases hr),fun j hj=>?_⟩
  by_cases hji:j=i
  ·subst hji;exact hy.wpOp hi hS ⟨.inr hS,H⟩
  ·have:=ready_mono hj hji
   rw[H.1] at this
   cases this
 | fuel+1,listed,a,w,hcl,hfree,hr,hy,hS,H=>by
  refine⟨fun h=>(by rw[h] at hr;cases hr),fun j hj=>?_⟩
  by_cases hji:j=i
  ·subst hji;exact hy.wpOp hi hS ⟨.inr hS,H⟩
  ·have hbj:bar j=false:=by
    cases hb:bar j with
    | false=>rfl
    | true=>exact Zqx hj (Zel hcl (mem_ready.1 hr).1 _ _ (hbar j hb hji)).2
   obtain⟨hjun,oj,hoj,hall⟩:=mem_ready.1 hj
   have hnot:∀ e ∈ oj.after,Region.binds md e=true->e.on≠i:=fun e he hb heq=>by
    have:Region.waitsFor md ops j i=true:=by
     unfold Region.waitsFor
     rw[hoj]
     exact Array.any_eq_true'.2 ⟨e,he,by simp[hb,heq]⟩
    exact Zbw hr this hj
   have h2:=wpOp_putIf hoj (hfree j oj hoj hji hjun hnot) (fun cs b=>Region.noSelect_spec hsel i oi cs b hi) (fun cs b=>Region.noSelect_spec hsel j oj cs b hoj) hQ hy (H.2 j (ready_mono hj hji))
   refine wpOp_mono (fun a' w' h3=>?_) h2
   have hS':S w':=by
    rcases h3.2.1 with h4 | h4
    ·rw[hbj] at h4;cases h4
    ·exact h4
   refine⟨.inr hS',Ze2 hi hsel hQ hbar hbi fuel (listed.setIfInBounds j true) a' w' (hcl.step hj) (fun k ok hk hki hun hno=>?_) (ready_mono hr (Ne.symm hji)) h3.1 hS' ?_⟩
   ·refine hfree k ok hk hki ?_ hno
    by_cases hjk:j=k
    ·subst hjk;exact hjun
    ·rw[getD_set_ne true hjk] at hun;exact hun
   ·rw[Array.setIfInBounds_comm _ _ hji]
    exact h3.2.2
end
section
variable {P:Program} {ops:Array Oper} {Q:Exit->Act->World->Prop} {md:Region.Mode} {S:World->Prop} {bar:Nat->Bool}
theorem Zfk {i:Nat} {oi:Oper} {v:Value} (hi:ops[i]?=some oi) (hsel:Region.noSelect ops=true) (hQ:∀ c a w,Q (.panic c) (a.put oi.dst v) w->Q (.panic c) a w) (hbi:bar i=true) :
  ∀ (fuel:Nat) (listed:Array Bool) (a:Act) (w:World),
   (∀ j oj,ops[j]?=some oj->j≠i->listed.getD j true=false->(∀ e ∈ oj.after,Region.binds md e=true->e.on≠i)->oi.apart ops oj=true)->
   i ∈ Region.ready md ops listed->YieldsIf P ops (fun _=>True) oi v a->
   wpJ P md ops Q S bar fuel (listed.setIfInBounds i true) (a.put oi.dst v) w->wpJ P md ops Q S bar (fuel+1) listed a w
 | 0,listed,a,w,_,hr,hy,H=>by
  refine⟨fun h=>(by rw[h] at hr;cases hr),fun j hj=>?_⟩
  by_cases hji:j=i
  ·subst hji;exact hy.wpOp hi trivial ⟨.inl hbi,H⟩
  ·have:=ready_mono hj hji
   rw[H.1] at this
   cases this
 | fuel+1,listed,a,w,hfree,hr,hy,H=>by
  refine⟨fun h=>(by rw[h] at hr;cases hr),fun j hj=>?_⟩
  by_cases hji:j=i
  ·subst hji;exact hy.wpOp hi trivial ⟨.inl hbi,H⟩
  ·obtain⟨hjun,oj,hoj,hall⟩:=mem_ready.1 hj
   have hnot:∀ e ∈ oj.after,Region.binds md e=true->e.on≠i:=fun e he hb heq=>by
    have:Region.waitsFor md ops j i=true:=by
     unfold Region.waitsFor
     rw[hoj]
     exact Array.any_eq_true'.2 ⟨e,he,by simp[hb,heq]⟩
    exact Zbw hr this hj
   have h2:=wpOp_putIf hoj (hfree j oj hoj hji hjun hnot) (fun cs b=>Region.noSelect_spec hsel i oi cs b hi) (fun cs b=>Region.noSelect_spec hsel j oj cs b hoj) hQ hy (H.2 j (ready_mono hj hji))
   refine wpOp_mono (fun a' w' h3=>?_) h2
   refine⟨h3.2.1,Zfk hi hsel hQ hbi fuel (listed.setIfInBounds j true) a' w' (fun k ok hk hki hun hno=>?_) (ready_mono hr (Ne.symm hji)) h3.1 ?_⟩
   ·refine hfree k ok hk hki ?_ hno
    by_cases hjk:j=k
    ·subst hjk;exact hjun
    ·rw[getD_set_ne true hjk] at hun;exact hun
   ·rw[Array.setIfInBounds_comm _ _ hji]
    exact h3.2.2
def Zak (P:Program) (ops:Array Oper) (Q:Exit->Act->World->Prop) (S:World->Prop) (bar:Nat->Bool):List (Nat×Nat)->Act->World->Prop
 | [],a,w=>Q .normal a w
 | (0,i)::ks,a,w=>∃ o,ops[i]?=some o/\(if Region.wanted o (yielded ops a.tmps) then o.wp P a w (fun a' w'=>(bar i=true\/S w')/\Zak P ops Q S bar ks a' w') Q
   else (bar i=true\/S w)/\Zak P ops Q S bar ks (a.put o.dst undef) w)
 | (1,i)::ks,a,w=>∃ o v,ops[i]?=some o/\YieldsIf P ops S o v a/\Zak P ops Q S bar ks (a.put o.dst v) w
 | (_+2,i)::ks,a,w=>∃ o v,ops[i]?=some o/\YieldsIf P ops (fun _=>True) o v a/\Zak P ops Q S bar ks (a.put o.dst v) w
def Zb4 (md:Region.Mode) (ops:Array Oper) (bar:Nat->Bool):List (Nat×Nat)->Array Bool->Bool
 | [],listed=>decide (Region.ready md ops listed=[])
 | (0,k)::ks,listed=>decide (Region.ready md ops listed=[k]) && (!bar k || ks.all fun b=>b.1 !=1) && Zb4 md ops bar ks (listed.setIfInBounds k true)
 | (1,k)::ks,listed=>(Region.ready md ops listed).contains k && Region.free md ops listed k && !bar k && ((List.range ops.size).all fun j=>!bar j || decide (j=k) || Zek md ops ops.size j k) && Zb4 md ops bar ks (listed.setIfInBounds k true)
 | (_+2,k)::ks,listed=>(Region.ready md ops listed).contains k && Region.free md ops listed k && bar k && Zb4 md ops bar ks (listed.setIfInBounds k true)
theorem Za6 (hsel:Region.noSelect ops=true) (hQ:∀ c a o v w,Q (.panic c) (a.put o v) w->Q (.panic c) a w) (hbo:∀ j,ops.size<=j->bar j=false) :
  ∀ (ks:List (Nat×Nat)) (listed:Array Bool) (a:Act) (w:World),Zb4 md ops bar ks listed=true->ZbH md ops listed->
   (S w\/ks.all (fun b=>b.1 !=1)=true)->Zak P ops Q S bar ks a w->wpJ P md ops Q S bar ks.length listed a w
 | [],listed,a,w,hB,_,_,h=>⟨of_decide_eq_true hB,h⟩
 | (1,k)::ks,listed,a,w,hB,hC,hS,h=>by
  simp only[Zb4,Zqt] at hB
  obtain⟨⟨⟨⟨hr,hf⟩,hbk⟩,hw⟩,hB'⟩:=hB
  have hSw:S w:=by
   rcases hS with hS | hS
   ·exact hS
   ·simp at hS
  obtain⟨o,v,h0,hy,hrest⟩:=h
  have hbk':bar k=false:=by simpa using hbk
  have hwait:Zj7 md ops bar k:=fun j hj hne=>by
   have hjl:j<ops.size:=by
    rcases Zp1 j ops.size with h' | h'
    ·exact h'
    ·rw[hbo j h'] at hj;cases hj
   rw[Zqw] at hw
   have:=hw j (List.mem_range.2 hjl)
   rw[hj] at this
   simpa[hne] using this
  have ih:=Za6 hsel hQ hbo ks (listed.setIfInBounds k true) (a.put o.dst v) w hB' (hC.step (by simpa using hr)) (.inl hSw) hrest
  rw[Zqv]
  exact Ze2 h0 hsel (fun c a w=>hQ c a o.dst v w) hwait hbk' ks.length listed a w hC (Region.free_spec h0 hf) (by simpa using hr) hy hSw ih
 | (n+2,k)::ks,listed,a,w,hB,hC,hS,h=>by
  simp only[Zb4,Zqt] at hB
  obtain⟨⟨⟨hr,hf⟩,hbk⟩,hB'⟩:=hB
  obtain⟨o,v,h0,hy,hrest⟩:=h
  have ih:=Za6 hsel hQ hbo ks (listed.setIfInBounds k true) (a.put o.dst v) w hB' (hC.step (by simpa using hr)) (by
   rcases hS with hS | hS
   ·exact .inl hS
   ·exact .inr (by simp only[List.all_cons,Zqt] at hS;exact hS.2)) hrest
  rw[Zqv]
  exact Zfk h0 hsel (fun c a w=>hQ c a o.dst v w) hbk ks.length listed a w (Region.free_spec h0 hf) (by simpa using hr) hy ih
 | (0,k)::ks,listed,a,w,hB,hC,hS,h=>by
  simp only[Zb4,Zqt,Zqu] at hB
  obtain⟨⟨hr,hbk⟩,hB'⟩:=hB
  obtain⟨o,h0,h⟩:=h
  refine⟨fun h1=>(by rw[hr] at h1;cases h1),fun i hi=>?_⟩
  rw[hr] at hi
  obtain rfl:i=k:=by simpa using hi
  have ih:=fun a' w' (hs:bar i=true\/S w') h'=>Za6 hsel hQ hbo ks (listed.setIfInBounds i true) a' w' hB' (hC.step (by rw[hr];simp)) (by
   rcases hs with hs | hs
   ·rw[hs] at hbk
    exact .inr (by simpa using hbk)
   ·exact .inl hs) h'
  unfold wpOp
  simp only[h0]
  split at h
  ·rename_i hw;simp only[hw,if_true];exact .inl (Oper.wp_mono (fun a' w' h'=>⟨h'.1,ih a' w' h'.1 h'.2⟩) h)
  ·rename_i hw;simp only[hw];exact⟨h.1,ih _ _ h.1 h.2⟩
def ZeE (l:List Oper) (ks:List (Nat×Nat)) (bar:Nat->Bool):Bool:=
 Region.noSelect l.toArray && decide (ks.length=l.length) && Zb4 .any l.toArray bar ks (Array.replicate l.toArray.size false)
theorem ZA {id:Nat} {a:Act} {w:World} {l:List Oper} (ks:List (Nat×Nat)) (S:World->Prop) (bar:Nat->Bool) (hm:P.follows .mixedOrders=true)
  (hB:ZeE l ks bar=true) (hbo:∀ j,l.length<=j->bar j=false) (hQ:∀ c a o v w,Q (.panic c) (a.put o v) w->Q (.panic c) a w) (hS:S w.drew)
  (H:Zak P l.toArray Q S bar ks a w.drew):(Code.region id l.toArray true).wp P Q a w:=by
 simp only[ZeE,Zqt,Zqu] at hB
 obtain⟨⟨hsel,hn⟩,hm2⟩:=hB
 have:=ZbN _ _ _ _ (Za6 hsel hQ (fun j hj=>hbo j (by simpa using hj)) ks _ a w.drew hm2 ZbH.start (.inl hS) H)
 rw[hn] at this
 exact wp_region_any hm (by simpa using this)
theorem Zq {i:Nat} {o:Oper} {ks:List (Nat×Nat)} {a:Act} {w:World} (v:Value) (ho:ops[i]?=some o) (hw:Region.wanted o (yielded ops a.tmps)=true) (hv:∀ w,S w->(execOp a.eval o).run P w=.ok (.value v) w)
  (h:Zak P ops Q S bar ks (a.put o.dst v) w):Zak P ops Q S bar ((1,i)::ks) a w:=⟨o,v,ho,.inl ⟨hw,hv⟩,h⟩
theorem Zgd {i:Nat} {o:Oper} {ks:List (Nat×Nat)} {a:Act} {w:World} (v:Value) (ho:ops[i]?=some o) (hw:Region.wanted o (yielded ops a.tmps)=true) (hv:∀ w,True->(execOp a.eval o).run P w=.ok (.value v) w)
  (h:Zak P ops Q S bar ks (a.put o.dst v) w):Zak P ops Q S bar ((2,i)::ks) a w:=⟨o,v,ho,.inl ⟨hw,hv⟩,h⟩
theorem ZG {i:Nat} {o:Oper} {ks:List (Nat×Nat)} {a:Act} {w:World} (ho:ops[i]?=some o) (hw:Region.wanted o (yielded ops a.tmps)=true)
  (h:∀ K:Act->World->Prop,(∀ a' w',(bar i=true\/S w')->Zak P ops Q S bar ks a' w'->K a' w')->o.wp P a w K Q):Zak P ops Q S bar ((0,i)::ks) a w:=by
 refine⟨o,ho,?_⟩
 rw[if_pos hw]
 exact h _ fun _ _ h1 h2=>⟨h1,h2⟩
theorem Zac {i:Nat} {o:Oper} {ks:List (Nat×Nat)} {a:Act} {w:World} (ho:ops[i]?=some o) (hw:Region.wanted o (yielded ops a.tmps)=false)
  (h:Zak P ops Q S bar ks (a.put o.dst undef) w):Zak P ops Q S bar ((1,i)::ks) a w:=⟨o,undef,ho,.inr ⟨hw,rfl⟩,h⟩
theorem ZbI {i:Nat} {o:Oper} {ks:List (Nat×Nat)} {a:Act} {w:World} (ho:ops[i]?=some o) (hw:Region.wanted o (yielded ops a.tmps)=false) (hS:bar i=true\/S w)
  (h:Zak P ops Q S bar ks (a.put o.dst undef) w):Zak P ops Q S bar ((0,i)::ks) a w:=by
 refine⟨o,ho,?_⟩
 rw[if_neg (by rw[hw];exact Bool.false_ne_true)]
 exact⟨hS,h⟩
theorem Zz {a:Act} {w:World} (h:Q .normal a w):Zak P ops Q S bar [] a w:=h
end
theorem Zfn (a:Act) (d:Nat):a.put (some d) (a.tmps.getD d undef)=a:=by
 obtain⟨t,ds⟩:=a
 simp only[Act.put]
 congr 1
 rcases Zp1 d t.size with h | h
 ·simp[Array.getD,h,Array.setIfInBounds]
 ·simp[Array.setIfInBounds,Nat.not_lt.2 h]
theorem Zgp (a:Act) (d:Nat) (u v:Value):(a.put (some d) u).put (some d) v=a.put (some d) v:=by
 simp[Act.put]
theorem ZaW (a:Act) (d:Nat) (e:Option Tmp) (h:e≠some d) (u v:Value):(a.put (some d) u).put e v=(a.put e v).put (some d) u:=by
 cases e with
 | none=>rfl
 | some e=>
  have he:d≠e:=fun h2=>h (by rw[h2])
  simp only[Act.put]
  congr 1
  exact Array.setIfInBounds_comm _ _ he
section
variable {P:Program} {ops:Array Oper} {Q:Exit->Act->World->Prop} {md:Region.Mode} {ι:Type} {S:ι->Option Nat->World->Prop} {bar:Nat->Bool}
def AnyS (S:ι->Option Nat->World->Prop) (w:World):Prop:=∃ j g,S j g w
def Zbk (P:Program) (ops:Array Oper) (Q:Exit->Act->World->Prop) (S:ι->Option Nat->World->Prop) (bar:Nat->Bool) (d:Nat) (tl:List (Nat×Nat)):List (Nat×Nat)->ι->Act->Prop
 | [],j,a=>∀ G w,S j (some G) w->Zak P ops Q (AnyS S) bar tl (a.put (some d) (.pointer (some ⟨G,0,none⟩))) w
 | (1,i)::ks,j,a=>∃ o v,ops[i]?=some o/\(∀ z,YieldsIf P ops (AnyS S) o v (a.put (some d) z))/\Zbk P ops Q S bar d tl ks j (a.put o.dst v)
 | (0,i)::ks,j,a=>∃ o,ops[i]?=some o/\(((∀ z,Region.wanted o (yielded ops (a.put (some d) z).tmps)=true)/\∀ z g w,S j g w->o.wp P (a.put (some d) z) w (fun a' w'=>∃ v j',a'=(a.put (some d) z).put o.dst v/\S j' g w'/\Zbk P ops Q S bar d tl ks j' (a.put o.dst v)) Q)\/
   ((∀ z,Region.wanted o (yielded ops (a.put (some d) z).tmps)=false)/\Zbk P ops Q S bar d tl ks j (a.put o.dst undef)))
 | (_+2,i)::ks,j,a=>∃ o v,ops[i]?=some o/\(∀ z,YieldsIf P ops (fun _=>True) o v (a.put (some d) z))/\Zbk P ops Q S bar d tl ks j (a.put o.dst v)
def Zeg (ops:Array Oper) (fl d:Nat):Bool:=(List.range ops.size).all fun i=>decide (i=fl) || match ops[i]? with | some o=>decide (o.dst≠some d) | none=>true
theorem ZaX {fl d i:Nat} {o:Oper} (h:Zeg ops fl d=true) (hi:ops[i]?=some o) (hne:i≠fl):o.dst≠some d:=by
 unfold Zeg at h
 rw[Zqw] at h
 have:=h i (List.mem_range.2 (ZqC hi))
 rw[hi] at this
 simpa[hne] using this
theorem Zbl {fl d:Nat} (hs:Zeg ops fl d=true) {tl:List (Nat×Nat)} : ∀ (ks:List (Nat×Nat)) (j:ι) (a:Act) (G:Nat) (w:World),(ks.all fun k=>decide (k.2≠fl))=true->S j (some G) w->Zbk P ops Q S bar d tl ks j a->
  Zak P ops Q (AnyS S) bar (ks++tl) (a.put (some d) (.pointer (some ⟨G,0,none⟩))) w
 | [],j,a,G,w,_,hS,h=>h G w hS
 | (1,i)::ks,j,a,G,w,hk,hS,h=>by
  simp only[List.all_cons,Zqt,Zqu] at hk
  obtain⟨o,v,h0,hy,hrest⟩:=h
  refine⟨o,v,h0,hy _,?_⟩
  rw[ZaW _ _ _ (ZaX hs h0 hk.1)]
  exact Zbl hs ks j _ G w hk.2 hS hrest
 | (0,i)::ks,j,a,G,w,hk,hS,h=>by
  simp only[List.all_cons,Zqt,Zqu] at hk
  obtain⟨o,h0,h⟩:=h
  refine⟨o,h0,?_⟩
  rcases h with ⟨hw,h⟩ | ⟨hw,h⟩
  ·rw[if_pos (hw _)]
   refine Oper.wp_mono (fun a' w' h'=>?_) (h _ _ _ hS)
   obtain⟨v,j',rfl,hS',hrest⟩:=h'
   refine⟨.inr ⟨_,_,hS'⟩,?_⟩
   rw[ZaW _ _ _ (ZaX hs h0 hk.1)]
   exact Zbl hs ks j' _ G w' hk.2 hS' hrest
  ·rw[if_neg (by rw[hw];exact Bool.false_ne_true)]
   refine⟨.inr ⟨_,_,hS⟩,?_⟩
   rw[ZaW _ _ _ (ZaX hs h0 hk.1)]
   exact Zbl hs ks j _ G w hk.2 hS h
 | (n+2,i)::ks,j,a,G,w,hk,hS,h=>by
  simp only[List.all_cons,Zqt,Zqu] at hk
  obtain⟨o,v,h0,hy,hrest⟩:=h
  refine⟨o,v,h0,hy _,?_⟩
  rw[ZaW _ _ _ (ZaX hs h0 hk.1)]
  exact Zbl hs ks j _ G w hk.2 hS hrest
def Zcj (md:Region.Mode) (ops:Array Oper) (bar:Nat->Bool) (fl:Nat) (tl:List (Nat×Nat)):List (Nat×Nat)->Array Bool->Bool
 | [],listed=>decide (Region.ready md ops listed=[fl]) && Zb4 md ops bar tl (listed.setIfInBounds fl true)
 | (1,k)::ks,listed=>(Region.ready md ops listed).contains k && Region.free md ops listed k && !bar k && ((List.range ops.size).all fun j=>!bar j || decide (j=k) || Zek md ops ops.size j k) && Zcj md ops bar fl tl ks (listed.setIfInBounds k true)
 | (0,k)::ks,listed=>(Region.ready md ops listed).contains k && (Region.ready md ops listed).all (fun j=>decide (j=k) || decide (j=fl)) && Zb4 md ops bar (((0,k)::ks)++tl) (listed.setIfInBounds fl true) && Zcj md ops bar fl tl ks (listed.setIfInBounds k true)
 | (_+2,k)::ks,listed=>(Region.ready md ops listed).contains k && Region.free md ops listed k && bar k && Zcj md ops bar fl tl ks (listed.setIfInBounds k true)
theorem ZgX {i:Nat} {o:Oper} {K:Act->World->Prop} {a:Act} {w:World} (h0:ops[i]?=some o) (hw:Region.wanted o (yielded ops a.tmps)=true) (h:o.wp P a w K Q):wpOp P ops Q i K a w:=by
 unfold wpOp
 simp only[h0]
 simp only[hw,if_true]
 exact .inl h
theorem ZoH {i:Nat} {o:Oper} {K:Act->World->Prop} {a:Act} {w:World} (h0:ops[i]?=some o) (hw:Region.wanted o (yielded ops a.tmps)=false) (h:K (a.put o.dst undef) w):wpOp P ops Q i K a w:=by
 unfold wpOp
 simp only[h0]
 simp only[hw]
 exact h
theorem Zbp (hsel:Region.noSelect ops=true) (hQ:∀ c a o v w,Q (.panic c) (a.put o v) w->Q (.panic c) a w) (hbo:∀ j,ops.size<=j->bar j=false) {fl d:Nat} {tl:List (Nat×Nat)} {of:Oper} {ob:Obj} (hof:ops[fl]?=some of) (hd:of.dst=some d)
  (hwf:∀ a:Act,Region.wanted of (yielded ops a.tmps)=true) (hal:∀ (a:Act) (w:World) (K:Act->World->Prop),K (a.put of.dst (.pointer (some ⟨w.heap.size,0,none⟩))) (w.alloc ob)->of.wp P a w K Q) (hst:∀ j w,S j none w->S j (some w.heap.size) (w.alloc ob)) (hs:Zeg ops fl d=true) :
  ∀ (ks:List (Nat×Nat)) (listed:Array Bool) (j:ι) (a:Act) (z:Value) (w:World),(ks.all fun k=>decide (k.2≠fl))=true->Zcj md ops bar fl tl ks listed=true->ZbH md ops listed->S j none w->Zbk P ops Q S bar d tl ks j a->
   wpJ P md ops Q (AnyS S) bar ((ks.length+tl.length)+1) listed (a.put (some d) z) w
 | [],listed,j,a,z,w,_,hB,hC,hS,h=>by
  simp only[Zcj,Zqt,Zqu] at hB
  obtain⟨hr,hr2⟩:=hB
  refine⟨fun h1=>(by rw[hr] at h1;cases h1),fun i hi=>?_⟩
  have hi0:=hi
  rw[hr] at hi
  obtain rfl:i=fl:=by simpa using hi
  refine ZgX hof (hwf _) (hal _ _ _ ?_)
  have hS':=hst j w hS
  refine⟨.inr ⟨_,_,hS'⟩,?_⟩
  have h2:=h w.heap.size _ hS'
  rw[hd,Zgp]
  have:=Za6 (md:=md) hsel hQ hbo tl _ _ _ hr2 (hC.step hi0) (.inl ⟨_,_,hS'⟩) h2
  simpa using this
 | (1,k)::ks,listed,j,a,z,w,hk,hB,hC,hS,h=>by
  simp only[List.all_cons,Zqt,Zqu] at hk
  simp only[Zcj,Zqt] at hB
  obtain⟨⟨⟨⟨hr,hf⟩,hbk⟩,hw⟩,hB'⟩:=hB
  obtain⟨o,v,h0,hy,hrest⟩:=h
  have hbk':bar k=false:=by simpa using hbk
  have hwait:Zj7 md ops bar k:=fun j hj hne=>by
   have hjl:j<ops.size:=by
    rcases Zp1 j ops.size with h' | h'
    ·exact h'
    ·rw[hbo j h'] at hj;cases hj
   rw[Zqw] at hw
   have:=hw j (List.mem_range.2 hjl)
   rw[hj] at this
   simpa[hne] using this
  have ih:=Zbp hsel hQ hbo hof hd hwf hal hst hs ks (listed.setIfInBounds k true) j (a.put o.dst v) z w hk.2 hB' (hC.step (by simpa using hr)) hS hrest
  rw[<- ZaW _ _ _ (ZaX hs h0 hk.1)] at ih
  have e:((1,k)::ks).length+tl.length+1=(ks.length+tl.length+1)+1:=by simp only[Zqv];omega
  rw[e]
  exact Ze2 h0 hsel (fun c a w=>hQ c a o.dst v w) hwait hbk' _ listed _ w hC (Region.free_spec h0 hf) (by simpa using hr) (hy _) ⟨_,_,hS⟩ ih
 | (0,k)::ks,listed,j,a,z,w,hk,hB,hC,hS,h=>by
  have hk0:=hk
  simp only[List.all_cons,Zqt,Zqu] at hk
  have h':=h
  simp only[Zcj,Zqt] at hB
  obtain⟨⟨⟨hr,hall⟩,hB1⟩,hB2⟩:=hB
  obtain⟨o,h0,h⟩:=h
  have e:((0,k)::ks).length+tl.length+1=(ks.length+tl.length+1)+1:=by simp only[Zqv];omega
  rw[e]
  refine⟨fun h1=>(by rw[h1] at hr;simp at hr),fun i hi=>?_⟩
  rw[Zqw] at hall
  have hik:=hall i hi
  simp only[Bool.or_eq_true,Zqu] at hik
  by_cases ek:i=k
  ·subst ek
   rcases h with ⟨hw,h⟩ | ⟨hw,h⟩
   ·refine ZgX h0 (hw _) (Oper.wp_mono (fun a' w' h''=>?_) (h _ _ _ hS))
    obtain⟨v,j',rfl,hS',hrest⟩:=h''
    refine⟨.inr ⟨_,_,hS'⟩,?_⟩
    rw[ZaW _ _ _ (ZaX hs h0 hk.1)]
    exact Zbp hsel hQ hbo hof hd hwf hal hst hs ks _ j' _ z w' hk.2 hB2 (hC.step hi) hS' hrest
   ·refine ZoH h0 (hw _) ⟨.inr ⟨_,_,hS⟩,?_⟩
    rw[ZaW _ _ _ (ZaX hs h0 hk.1)]
    exact Zbp hsel hQ hbo hof hd hwf hal hst hs ks _ j _ z w hk.2 hB2 (hC.step hi) hS h
  ·have e2:i=fl:=by
    rcases hik with h | h
    ·exact Zqx h ek
    ·exact h
   subst e2
   refine ZgX hof (hwf _) (hal _ _ _ ?_)
   have hS':=hst j w hS
   refine⟨.inr ⟨_,_,hS'⟩,?_⟩
   rw[hd,Zgp]
   have hp:=Zbl hs ((0,k)::ks) j a w.heap.size _ hk0 hS' h'
   have:=Za6 (md:=md) hsel hQ hbo _ _ _ _ hB1 (hC.step hi) (.inl ⟨_,_,hS'⟩) hp
   have e3:(((0,k)::ks)++tl).length=ks.length+tl.length+1:=by simp only[Zqc,Zqv];omega
   rwa [e3] at this
 | (n+2,k)::ks,listed,j,a,z,w,hk,hB,hC,hS,h=>by
  simp only[List.all_cons,Zqt,Zqu] at hk
  simp only[Zcj,Zqt] at hB
  obtain⟨⟨⟨hr,hf⟩,hbk⟩,hB'⟩:=hB
  obtain⟨o,v,h0,hy,hrest⟩:=h
  have ih:=Zbp hsel hQ hbo hof hd hwf hal hst hs ks (listed.setIfInBounds k true) j (a.put o.dst v) z w hk.2 hB' (hC.step (by simpa using hr)) hS hrest
  rw[<- ZaW _ _ _ (ZaX hs h0 hk.1)] at ih
  have e:((n+2,k)::ks).length+tl.length+1=(ks.length+tl.length+1)+1:=by simp only[Zqv];omega
  rw[e]
  exact Zfk h0 hsel (fun c a w=>hQ c a o.dst v w) hbk _ listed _ w (Region.free_spec h0 hf) (by simpa using hr) (hy _) ih
def ZeZ (l:List Oper) (fl d:Nat) (tl:List (Nat×Nat)) (ks:List (Nat×Nat)) (bar:Nat->Bool):Bool:=
 Region.noSelect l.toArray && decide ((ks.length+tl.length)+1=l.length) && Zcj .any l.toArray bar fl tl ks (Array.replicate l.toArray.size false) && Zeg l.toArray fl d && ks.all fun k=>decide (k.2≠fl)
theorem ZiU {id:Nat} {a:Act} {w:World} {l:List Oper} (fl d:Nat) (tl:List (Nat×Nat)) (ks:List (Nat×Nat)) (S:ι->Option Nat->World->Prop) (j0:ι) (bar:Nat->Bool) {of:Oper} {ob:Obj} (hm:P.follows .mixedOrders=true)
  (hB:ZeZ l fl d tl ks bar=true) (hbo:∀ j,l.length<=j->bar j=false) (hQ:∀ c a o v w,Q (.panic c) (a.put o v) w->Q (.panic c) a w) (hof:l.toArray[fl]?=some of) (hd:of.dst=some d) (hwf:∀ a:Act,Region.wanted of (yielded l.toArray a.tmps)=true)
  (hal:∀ (a:Act) (w:World) (K:Act->World->Prop),K (a.put of.dst (.pointer (some ⟨w.heap.size,0,none⟩))) (w.alloc ob)->of.wp P a w K Q) (hst:∀ j w,S j none w->S j (some w.heap.size) (w.alloc ob)) (hS:S j0 none w.drew)
  (H:Zbk P l.toArray Q S bar d tl ks j0 a):(Code.region id l.toArray true).wp P Q a w:=by
 simp only[ZeZ,Zqt,Zqu] at hB
 obtain⟨⟨⟨⟨hsel,hn⟩,hb⟩,hs⟩,hk⟩:=hB
 have:=ZbN _ _ _ _ (Zbp (md:=.any) hsel hQ (fun j hj=>hbo j (by simpa using hj)) hof hd hwf hal hst hs ks _ j0 a (a.tmps.getD d undef) w.drew hk hb ZbH.start hS H)
 rw[hn,Zfn] at this
 exact wp_region_any hm (by simpa using this)
theorem Zcs {i d:Nat} {j:ι} {tl:List (Nat×Nat)} {o:Oper} {ks:List (Nat×Nat)} {a:Act} (v:Value) (ho:ops[i]?=some o) (hw:∀ z,Region.wanted o (yielded ops (a.put (some d) z).tmps)=true) (hv:∀ z j g w,S j g w->(execOp (a.put (some d) z).eval o).run P w=.ok (.value v) w)
  (h:Zbk P ops Q S bar d tl ks j (a.put o.dst v)):Zbk P ops Q S bar d tl ((1,i)::ks) j a:=⟨o,v,ho,fun z=>.inl ⟨hw z,fun w ⟨j,g,hS⟩=>hv z j g w hS⟩,h⟩
theorem ZkV {i d:Nat} {j:ι} {tl:List (Nat×Nat)} {o:Oper} {ks:List (Nat×Nat)} {a:Act} (v:Value) (ho:ops[i]?=some o) (hw:∀ z,Region.wanted o (yielded ops (a.put (some d) z).tmps)=true) (hv:∀ z w,(execOp (a.put (some d) z).eval o).run P w=.ok (.value v) w)
  (h:Zbk P ops Q S bar d tl ks j (a.put o.dst v)):Zbk P ops Q S bar d tl ((2,i)::ks) j a:=⟨o,v,ho,fun z=>.inl ⟨hw z,fun w _=>hv z w⟩,h⟩
theorem Zcg {i d:Nat} {j:ι} {tl:List (Nat×Nat)} {o:Oper} {ks:List (Nat×Nat)} {a:Act} (f:FuncId) (args:Array Value) (ho:ops[i]?=some o) (hw:∀ z,Region.wanted o (yielded ops (a.put (some d) z).tmps)=true)
  (he:∀ z w,(execOp (a.put (some d) z).eval o).run P w=.ok (.enter f args) w)
  (h:∀ g w,S j g w->Calls P f args w fun e w'=>(∃ v j',e=.returned v/\S j' g w'/\Zbk P ops Q S bar d tl ks j' (a.put o.dst v))\/∃ c,e=.panicked c/\∀ z,Q (.panic c) (a.put (some d) z) w') :
  Zbk P ops Q S bar d tl ((0,i)::ks) j a:=⟨o,ho,.inl ⟨hw,fun z g w hS=>by
   unfold Oper.wp
   rw[he z w,Oper.upon_enter]
   refine(h g w hS).mono fun e w' h=>?_
   rcases h with ⟨v,j',rfl,h1,h2⟩ | ⟨c,rfl,h1⟩
   ·exact⟨v,j',rfl,h1,h2⟩
   ·exact h1 _⟩⟩
theorem Zhi {d:Nat} {j:ι} {tl:List (Nat×Nat)} {a:Act} (h:∀ G w,S j (some G) w->Zak P ops Q (AnyS S) bar tl (a.put (some d) (.pointer (some ⟨G,0,none⟩))) w):Zbk P ops Q S bar d tl [] j a:=h
theorem Zs {S:World->Prop} {i:Nat} {o:Oper} {ks:List (Nat×Nat)} {a:Act} {w:World} (f:FuncId) (args:Array Value) (ho:ops[i]?=some o) (hw:Region.wanted o (yielded ops a.tmps)=true)
  (he:(execOp a.eval o).run P w=.ok (.enter f args) w)
  (h:Calls P f args w fun e w'=>(∃ v,e=.returned v/\S w'/\Zak P ops Q S bar ks (a.put o.dst v) w')\/∃ c,e=.panicked c/\Q (.panic c) a w') :
  Zak P ops Q S bar ((0,i)::ks) a w:=by
 refine⟨o,ho,?_⟩
 rw[if_pos hw]
 unfold Oper.wp
 rw[he,Oper.upon_enter]
 refine h.mono fun e w' h=>?_
 rcases h with ⟨v,rfl,h1,h2⟩ | ⟨c,rfl,h1⟩
 ·exact⟨.inr h1,h2⟩
 ·exact h1
end
theorem Zff:Tryz.prog.underlying 159=some (.map 118 39):=Tryz.underlying159
abbrev NotM (m:Nat):Nat->Prop:=fun b=>b≠m
def Znp (r:Except Int Fl) (m:Nat) (w:World) (e:Ending) (w':World):Prop:=
 ((∃ f,r=.ok f/\e=.returned (.tuple #[])/\FMap w' m f)\/(∃ n,r=.error n/\n≠0/\e=Zbv n))/\Keeps (NotM m) w w'
theorem Zh0 {m:Nat} {f:Fl} {p:Pl} {q:Rat} {s t:ByteArray} {w:World} (h:FMap w m f) (hp:PlB p) (hq:IsP q s t) (hT:Tabs w) (hZ:BelZ w) :
  Calls Tryz.prog 93 #[.map (some m),kPl p,pV s t] w (Znp (addF f p q) m w):=by
 have HF:=ZqH h
 have HP:=ZqH hp
 have HQ:=ZqH hq
 have HT:=ZqH hT
 have HZ:=ZqH hZ
 obtain⟨⟨a,b,c⟩,hpp⟩:∃ z,p=z:=⟨_,rfl⟩
 subst hpp
 have HE1:Hid (Env w.heap.size w [(w.heap.size+1,pObj s t),(w.heap.size,plO (a,b,c))] [] ((w.alloc (plO (a,b,c))).alloc (pObj s t))):=((Env.start w).push _ rfl).push _ Zc
 obtain⟨w1,hw1⟩:=ZqJ ((w.alloc (plO (a,b,c))).alloc (pObj s t))
 have HLK:=ZqH (h.look hp Zff)
 rw[hw1] at HE1
 have hbm:w1.heap[m]?=w.heap[m]?:=HE1.out.base.block m h.lt
 have x0:=HE1.out.cell 1 0 (v:=.int .i64 a) rfl rfl
 have x1:=HE1.out.cell 1 1 (v:=.int .i64 b) rfl rfl
 have x2:=HE1.out.cell 1 2 (v:=.int .i64 c) rfl rfl
 have HBM:=ZqH (h.lt)
 rcases HLK.out with ⟨hin,x,y,hxy,hrun⟩ | ⟨hno,hz0,hrun⟩
 ·have hlook:=hrun w1 hbm true
  have HX:=ZqH hxy
  have HE2:=ZqH (HE1.out.push (pObj x y) rfl)
  clear hxy hrun hin hbm HLK h hp hq hT hZ
  go_enter Tryz.func93,Tryz.ntmps93
  go_wp2_with fail
  obtain⟨g,hg⟩:=ZqJ w1.heap.size
  rw[hg] at HE2 ⊢
  obtain⟨W,hW⟩:=ZqJ (w1.alloc (pObj x y))
  rw[hW] at HE2 ⊢
  clear hg hW hlook x0 x1 x2 hw1
  refine ZA [(1,0),(1,1),(1,2),(1,3),(0,4),(1,5),(1,6),(0,7),(0,8)] (Env w.heap.size w [(g,pObj x y),(w.heap.size+1,pObj s t),(w.heap.size,plO (a,b,c))] []) (fun i=>i==8)
   Zb Zb (fun j hj=>by have h:9<=j:=hj;simp;omega) Zi HE2.out.drew ?_
  obtain⟨w4,hw4⟩:=ZqJ W.drew
  have HE4:Hid (Env w.heap.size w [(g,pObj x y),(w.heap.size+1,pObj s t),(w.heap.size,plO (a,b,c))] [] w4):=by rw[<- hw4];exact HE2.out.drew
  rw[hw4]
  clear hw4 HE2
  have HL1:=ZqH HX.out.limit
  have HL2:=ZqH HQ.out.limit
  iterate 4
   refine Zq _ rfl rfl (fun w' hS=>by have c0:=hS.cell 0 0 (v:=.string x) rfl rfl;have c1:=hS.cell 0 1 (v:=.string y) rfl rfl;have d0:=hS.cell 1 0 (v:=.string s) rfl rfl;have d1:=hS.cell 1 1 (v:=.string t) rfl rfl;have e0:=hS.cell 2 0 (v:=.int .i64 a) rfl rfl;have e1:=hS.cell 2 1 (v:=.int .i64 b) rfl rfl;have e2:=hS.cell 2 2 (v:=.int .i64 c) rfl rfl;exact Ze) ?_
   simp only[Act.put,Zl]
  refine Zs 23 _ rfl rfl Zf ?_
  have HEC:=HE4
  refine(Zeh x y s t _ HL1.out.1 HL1.out.2 HL2.out.1 HL2.out.2 (HT.out.below HEC.out.base ZqI)).mono ?_
  rintro e w5 ⟨x',y',n,rfl,hR,hb⟩
  have HE5:=ZqH (HEC.out.step hb)
  refine .inl ⟨_,rfl,HE5.out,?_⟩
  clear hb HEC
  simp only[Act.put,Zl]
  have HA:Hid (Ans (fget f (a,b,c)+q) x' y' n):=by
   have h1:=hR.both HX.out.ok HQ.out.ok
   rwa [HX.out.rat,HQ.out.rat] at h1
  clear hR
  iterate 2
   refine Zq _ rfl rfl (fun w' hS=>Ze) ?_
   simp only[Act.put,Zl]
  refine Zs 57 _ rfl rfl Zf ?_
  refine(Zat x' y' n _).mono ?_
  rintro e w6 ⟨hE,hb⟩
  have HE6:=ZqH (HE5.out.step hb)
  clear hb HE5 HE4
  have HM6:Hid (FMap w6 m f):=HF.out.stay (HE6.out.base.block m HBM.out)
  rcases hE with ⟨hn,rfl⟩ | ⟨hn,rfl⟩
  ·have HI:=ZqH (HA.out.zero hn)
   have HR:Hid (addF f (a,b,c) q=.ok (fset f (a,b,c) (fget f (a,b,c)+q))):=by
    show _=_
    unfold addF
    rw[if_pos HI.out.fits]
   refine .inl ⟨_,rfl,HE6.out,?_⟩
   clear hn HA
   simp only[Act.put,Zl]
   obtain⟨w7,hput,hm7,hk7⟩:=HM6.out.put HP.out Zff HI.out
   have HM7:=ZqH hm7
   have HK7:Hid (Keeps (NotM m) w w7):=(HE6.out.base.keepsS _).trans hk7
   refine ZG rfl rfl fun K hK=>?_
   go_simp
   refine hK _ _ (.inl rfl) ?_
   clear hK K hput hm7 hk7
   refine Zz ?_
   go_wp2
   refine ZpW (results_none rfl _ _ _) rfl ⟨.inl ⟨_,HR.out,rfl,HM7.out⟩,HK7.out⟩
  ·refine .inr ⟨_,rfl,?_⟩
   have HR:Hid (addF f (a,b,c) q=.error 4/\n=4):=by
    rcases HA.out with ⟨_,h⟩ | ⟨h,_,_,h2⟩
    ·exact Zqx h hn
    ·exact⟨by unfold addF;rw[if_neg h],h2⟩
   exact⟨rfl,.inr ⟨n,by rw[HR.out.1,HR.out.2],hn,rfl⟩,HE6.out.base.keepsS _⟩
 ·have hlook:=hrun w1 hbm true
  have HX:Hid (IsP (fget f (a,b,c)) ⟨#[48]⟩ ⟨#[49]⟩):=by rw[hz0];exact Za5
  have HE2:=ZqH (HE1.out.push (pObj ⟨#[48]⟩ ⟨#[49]⟩) rfl)
  have hzz:=HZ.out.below (HE1.out.base.alloc HE1.out.own (pObj ZqD ZqD)) ZqI
  have z0:=hzz.z0
  have z1:=hzz.z1
  clear hz0 hrun hno hbm HLK h hp hq hT hZ hzz
  go_enter Tryz.func93,Tryz.ntmps93
  go_wp2_with fail
  obtain⟨g,hg⟩:=ZqJ w1.heap.size
  rw[hg] at HE2 ⊢
  obtain⟨W,hW⟩:=ZqJ (w1.alloc (pObj ⟨#[48]⟩ ⟨#[49]⟩))
  rw[hW] at HE2 ⊢
  clear hg hW hlook x0 x1 x2 hw1 z0 z1
  obtain⟨x,hx⟩:∃ z:ByteArray,⟨#[48]⟩=z:=⟨_,rfl⟩
  obtain⟨y,hy⟩:∃ z:ByteArray,⟨#[49]⟩=z:=⟨_,rfl⟩
  rw[hx,hy] at HX HE2 ⊢
  clear hx hy
  refine ZA [(1,0),(1,1),(1,2),(1,3),(0,4),(1,5),(1,6),(0,7),(0,8)] (Env w.heap.size w [(g,pObj x y),(w.heap.size+1,pObj s t),(w.heap.size,plO (a,b,c))] []) (fun i=>i==8)
   Zb Zb (fun j hj=>by have h:9<=j:=hj;simp;omega) Zi HE2.out.drew ?_
  obtain⟨w4,hw4⟩:=ZqJ W.drew
  have HE4:Hid (Env w.heap.size w [(g,pObj x y),(w.heap.size+1,pObj s t),(w.heap.size,plO (a,b,c))] [] w4):=by rw[<- hw4];exact HE2.out.drew
  rw[hw4]
  clear hw4 HE2
  have HL1:=ZqH HX.out.limit
  have HL2:=ZqH HQ.out.limit
  iterate 4
   refine Zq _ rfl rfl (fun w' hS=>by have c0:=hS.cell 0 0 (v:=.string x) rfl rfl;have c1:=hS.cell 0 1 (v:=.string y) rfl rfl;have d0:=hS.cell 1 0 (v:=.string s) rfl rfl;have d1:=hS.cell 1 1 (v:=.string t) rfl rfl;have e0:=hS.cell 2 0 (v:=.int .i64 a) rfl rfl;have e1:=hS.cell 2 1 (v:=.int .i64 b) rfl rfl;have e2:=hS.cell 2 2 (v:=.int .i64 c) rfl rfl;exact Ze) ?_
   simp only[Act.put,Zl]
  refine Zs 23 _ rfl rfl Zf ?_
  have HEC:=HE4
  refine(Zeh x y s t _ HL1.out.1 HL1.out.2 HL2.out.1 HL2.out.2 (HT.out.below HEC.out.base ZqI)).mono ?_
  rintro e w5 ⟨x',y',n,rfl,hR,hb⟩
  have HE5:=ZqH (HEC.out.step hb)
  refine .inl ⟨_,rfl,HE5.out,?_⟩
  clear hb HEC
  simp only[Act.put,Zl]
  have HA:Hid (Ans (fget f (a,b,c)+q) x' y' n):=by
   have h1:=hR.both HX.out.ok HQ.out.ok
   rwa [HX.out.rat,HQ.out.rat] at h1
  clear hR
  iterate 2
   refine Zq _ rfl rfl (fun w' hS=>Ze) ?_
   simp only[Act.put,Zl]
  refine Zs 57 _ rfl rfl Zf ?_
  refine(Zat x' y' n _).mono ?_
  rintro e w6 ⟨hE,hb⟩
  have HE6:=ZqH (HE5.out.step hb)
  clear hb HE5 HE4
  have HM6:Hid (FMap w6 m f):=HF.out.stay (HE6.out.base.block m HBM.out)
  rcases hE with ⟨hn,rfl⟩ | ⟨hn,rfl⟩
  ·have HI:=ZqH (HA.out.zero hn)
   have HR:Hid (addF f (a,b,c) q=.ok (fset f (a,b,c) (fget f (a,b,c)+q))):=by
    show _=_
    unfold addF
    rw[if_pos HI.out.fits]
   refine .inl ⟨_,rfl,HE6.out,?_⟩
   clear hn HA
   simp only[Act.put,Zl]
   obtain⟨w7,hput,hm7,hk7⟩:=HM6.out.put HP.out Zff HI.out
   have HM7:=ZqH hm7
   have HK7:Hid (Keeps (NotM m) w w7):=(HE6.out.base.keepsS _).trans hk7
   refine ZG rfl rfl fun K hK=>?_
   go_simp
   refine hK _ _ (.inl rfl) ?_
   clear hK K hput hm7 hk7
   refine Zz ?_
   go_wp2
   refine ZpW (results_none rfl _ _ _) rfl ⟨.inl ⟨_,HR.out,rfl,HM7.out⟩,HK7.out⟩
  ·refine .inr ⟨_,rfl,?_⟩
   have HR:Hid (addF f (a,b,c) q=.error 4/\n=4):=by
    rcases HA.out with ⟨_,h⟩ | ⟨h,_,_,h2⟩
    ·exact Zqx h hn
    ·exact⟨by unfold addF;rw[if_neg h],h2⟩
   exact⟨rfl,.inr ⟨n,by rw[HR.out.1,HR.out.2],hn,rfl⟩,HE6.out.base.keepsS _⟩
end Go.Proofs.YtjmckebecpjjfaaGreatDoor
