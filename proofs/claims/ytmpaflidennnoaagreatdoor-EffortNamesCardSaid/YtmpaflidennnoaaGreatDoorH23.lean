/- The parts FloatZ, ECover, EChance of a proof, put together by program (merge7.py). -/
import Derived.Test.YtmpaflidennnoaaGreatDoorH01
import Derived.Test.YtmpaflidennnoaaGreatDoorH22
import Derived.Test.YtmpaflidennnoaaGreatDoorH11
set_option maxRecDepth 100000
set_option maxHeartbeats 4000000
set_option linter.unusedVariables false
set_option linter.unusedSimpArgs false
namespace Go.Proofs.YtmpaflidennnoaaGreatDoor
open Go.RowKit
theorem Zdo (a:Act) (d:Nat):a.put (some d) (a.tmps.getD d undef)=a:=by
 obtain⟨t,ds⟩:=a
 simp only[Act.put]
 congr 1
 rcases Nat.lt_or_ge d t.size with h | h
 ·simp[Array.getD,h,Array.setIfInBounds]
 ·simp[Array.setIfInBounds,Nat.not_lt.2 h]
theorem Zbn (a:Act) (d:Nat) (u v:Value):(a.put (some d) u).put (some d) v=a.put (some d) v:=by
 simp[Act.put]
theorem Zp (a:Act) (d:Nat) (e:Option Tmp) (h:e≠some d) (u v:Value):(a.put (some d) u).put e v=(a.put e v).put (some d) u:=by
 cases e with
 | none=>rfl
 | some e=>
  have he:d≠e:=fun h2=>h (by rw[h2])
  simp only[Act.put]
  congr 1
  exact Array.setIfInBounds_comm _ _ he
section
variable {P:Program} {ops:Array Oper} {Q:Exit→Act→World→Prop} {md:Region.Mode} {ι:Type} {S:ι→Option Nat→World→Prop} {bar:Nat→Bool}
def AnyS (S:ι→Option Nat→World→Prop) (w:World):Prop:=∃ j g,S j g w
def Zag (P:Program) (ops:Array Oper) (Q:Exit→Act→World→Prop) (S:ι→Option Nat→World→Prop) (bar:Nat→Bool) (d:Nat) (tl:List (Nat×Nat)):List (Nat×Nat)→ι→Act→Prop
 | [],j,a=>∀ G w,S j (some G) w→ZW P ops Q (AnyS S) bar tl (a.put (some d) (.pointer (some ⟨G,0,none⟩))) w
 | (1,i)::ks,j,a=>∃ o v,ops[i]?=some o∧(∀ z,YieldsIf P ops (AnyS S) o v (a.put (some d) z))∧Zag P ops Q S bar d tl ks j (a.put o.dst v)
 | (0,i)::ks,j,a=>∃ o,ops[i]?=some o∧(((∀ z,Region.wanted o (yielded ops (a.put (some d) z).tmps)=true)∧∀ z g w,S j g w→o.wp P (a.put (some d) z) w (fun a' w'=>∃ v j',a'=(a.put (some d) z).put o.dst v∧S j' g w'∧Zag P ops Q S bar d tl ks j' (a.put o.dst v)) Q)∨
   ((∀ z,Region.wanted o (yielded ops (a.put (some d) z).tmps)=false)∧Zag P ops Q S bar d tl ks j (a.put o.dst undef)))
 | (_+2,i)::ks,j,a=>∃ o v,ops[i]?=some o∧(∀ z,YieldsIf P ops (fun _=>True) o v (a.put (some d) z))∧Zag P ops Q S bar d tl ks j (a.put o.dst v)
def Zat (ops:Array Oper) (fl d:Nat):Bool:=(List.range ops.size).all fun i=>decide (i=fl) || match ops[i]? with | some o=>decide (o.dst≠some d) | none=>true
theorem Zo {fl d i:Nat} {o:Oper} (h:Zat ops fl d=true) (hi:ops[i]?=some o) (hne:i≠fl):o.dst≠some d:=by
 unfold Zat at h
 rw[List.all_eq_true] at h
 have:=h i (List.mem_range.2 (Array.getElem?_eq_some_iff.1 hi).1)
 rw[hi] at this
 simpa[hne] using this
theorem ZaM {fl d:Nat} (hs:Zat ops fl d=true) {tl:List (Nat×Nat)} : ∀ (ks:List (Nat×Nat)) (j:ι) (a:Act) (G:Nat) (w:World),(ks.all fun k=>decide (k.2≠fl))=true→S j (some G) w→Zag P ops Q S bar d tl ks j a→
  ZW P ops Q (AnyS S) bar (ks++tl) (a.put (some d) (.pointer (some ⟨G,0,none⟩))) w
 | [],j,a,G,w,_,hS,h=>h G w hS
 | (1,i)::ks,j,a,G,w,hk,hS,h=>by
  simp only[List.all_cons,Bool.and_eq_true,decide_eq_true_eq] at hk
  obtain⟨o,v,h0,hy,hrest⟩:=h
  refine⟨o,v,h0,hy _,?_⟩
  rw[Zp _ _ _ (Zo hs h0 hk.1)]
  exact ZaM hs ks j _ G w hk.2 hS hrest
 | (0,i)::ks,j,a,G,w,hk,hS,h=>by
  simp only[List.all_cons,Bool.and_eq_true,decide_eq_true_eq] at hk
  obtain⟨o,h0,h⟩:=h
  refine⟨o,h0,?_⟩
  rcases h with ⟨hw,h⟩ | ⟨hw,h⟩
  ·rw[if_pos (hw _)]
   refine Oper.wp_mono (fun a' w' h'=>?_) (h _ _ _ hS)
   obtain⟨v,j',rfl,hS',hrest⟩:=h'
   refine⟨.inr ⟨_,_,hS'⟩,?_⟩
   rw[Zp _ _ _ (Zo hs h0 hk.1)]
   exact ZaM hs ks j' _ G w' hk.2 hS' hrest
  ·rw[if_neg (by rw[hw];exact Bool.false_ne_true)]
   refine⟨.inr ⟨_,_,hS⟩,?_⟩
   rw[Zp _ _ _ (Zo hs h0 hk.1)]
   exact ZaM hs ks j _ G w hk.2 hS h
 | (n+2,i)::ks,j,a,G,w,hk,hS,h=>by
  simp only[List.all_cons,Bool.and_eq_true,decide_eq_true_eq] at hk
  obtain⟨o,v,h0,hy,hrest⟩:=h
  refine⟨o,v,h0,hy _,?_⟩
  rw[Zp _ _ _ (Zo hs h0 hk.1)]
  exact ZaM hs ks j _ G w hk.2 hS hrest
def ZbQ (md:Region.Mode) (ops:Array Oper) (bar:Nat→Bool) (fl:Nat) (tl:List (Nat×Nat)):List (Nat×Nat)→Array Bool→Bool
 | [],listed=>decide (Region.ready md ops listed=[fl]) && ZaP md ops bar tl (listed.setIfInBounds fl true)
 | (1,k)::ks,listed=>(Region.ready md ops listed).contains k && Region.free md ops listed k && !bar k && ((List.range ops.size).all fun j=>!bar j || decide (j=k) || ZbV md ops ops.size j k) && ZbQ md ops bar fl tl ks (listed.setIfInBounds k true)
 | (0,k)::ks,listed=>(Region.ready md ops listed).contains k && (Region.ready md ops listed).all (fun j=>decide (j=k) || decide (j=fl)) && ZaP md ops bar (((0,k)::ks)++tl) (listed.setIfInBounds fl true) && ZbQ md ops bar fl tl ks (listed.setIfInBounds k true)
 | (_+2,k)::ks,listed=>(Region.ready md ops listed).contains k && Region.free md ops listed k && bar k && ZbQ md ops bar fl tl ks (listed.setIfInBounds k true)
theorem Zba {i:Nat} {o:Oper} {K:Act→World→Prop} {a:Act} {w:World} (h0:ops[i]?=some o) (hw:Region.wanted o (yielded ops a.tmps)=true) (h:o.wp P a w K Q):wpOp P ops Q i K a w:=by
 unfold wpOp
 simp only[h0]
 simp only[hw,if_true]
 exact .inl h
theorem ZgT {i:Nat} {o:Oper} {K:Act→World→Prop} {a:Act} {w:World} (h0:ops[i]?=some o) (hw:Region.wanted o (yielded ops a.tmps)=false) (h:K (a.put o.dst undef) w):wpOp P ops Q i K a w:=by
 unfold wpOp
 simp only[h0]
 simp only[hw]
 exact h
theorem Zbj (hsel:Region.noSelect ops=true) (hQ:∀ c a o v w,Q (.panic c) (a.put o v) w→Q (.panic c) a w) (hbo:∀ j,ops.size≤j→bar j=false) {fl d:Nat} {tl:List (Nat×Nat)} {of:Oper} {ob:Obj} (hof:ops[fl]?=some of) (hd:of.dst=some d)
  (hwf:∀ a:Act,Region.wanted of (yielded ops a.tmps)=true) (hal:∀ (a:Act) (w:World) (K:Act→World→Prop),K (a.put of.dst (.pointer (some ⟨w.heap.size,0,none⟩))) (w.alloc ob)→of.wp P a w K Q) (hst:∀ j w,S j none w→S j (some w.heap.size) (w.alloc ob)) (hs:Zat ops fl d=true) :
  ∀ (ks:List (Nat×Nat)) (listed:Array Bool) (j:ι) (a:Act) (z:Value) (w:World),(ks.all fun k=>decide (k.2≠fl))=true→ZbQ md ops bar fl tl ks listed=true→Z0 md ops listed→S j none w→Zag P ops Q S bar d tl ks j a→
   wpJ P md ops Q (AnyS S) bar ((ks.length+tl.length)+1) listed (a.put (some d) z) w
 | [],listed,j,a,z,w,_,hB,hC,hS,h=>by
  simp only[ZbQ,Bool.and_eq_true,decide_eq_true_eq] at hB
  obtain⟨hr,hr2⟩:=hB
  refine⟨fun h1=>(by rw[hr] at h1;cases h1),fun i hi=>?_⟩
  have hi0:=hi
  rw[hr] at hi
  obtain rfl:i=fl:=by simpa using hi
  refine Zba hof (hwf _) (hal _ _ _ ?_)
  have hS':=hst j w hS
  refine⟨.inr ⟨_,_,hS'⟩,?_⟩
  have h2:=h w.heap.size _ hS'
  rw[hd,Zbn]
  have:=Zam (md:=md) hsel hQ hbo tl _ _ _ hr2 (hC.step hi0) (.inl ⟨_,_,hS'⟩) h2
  simpa using this
 | (1,k)::ks,listed,j,a,z,w,hk,hB,hC,hS,h=>by
  simp only[List.all_cons,Bool.and_eq_true,decide_eq_true_eq] at hk
  simp only[ZbQ,Bool.and_eq_true] at hB
  obtain⟨⟨⟨⟨hr,hf⟩,hbk⟩,hw⟩,hB'⟩:=hB
  obtain⟨o,v,h0,hy,hrest⟩:=h
  have hbk':bar k=false:=by simpa using hbk
  have hwait:ZbU md ops bar k:=fun j hj hne=>by
   have hjl:j<ops.size:=by
    rcases Nat.lt_or_ge j ops.size with h' | h'
    ·exact h'
    ·rw[hbo j h'] at hj;cases hj
   rw[List.all_eq_true] at hw
   have:=hw j (List.mem_range.2 hjl)
   rw[hj] at this
   simpa[hne] using this
  have ih:=Zbj hsel hQ hbo hof hd hwf hal hst hs ks (listed.setIfInBounds k true) j (a.put o.dst v) z w hk.2 hB' (hC.step (by simpa using hr)) hS hrest
  rw[← Zp _ _ _ (Zo hs h0 hk.1)] at ih
  have e:((1,k)::ks).length+tl.length+1=(ks.length+tl.length+1)+1:=by simp only[List.length_cons];omega
  rw[e]
  exact ZbR h0 hsel (fun c a w=>hQ c a o.dst v w) hwait hbk' _ listed _ w hC (Region.free_spec h0 hf) (by simpa using hr) (hy _) ⟨_,_,hS⟩ ih
 | (0,k)::ks,listed,j,a,z,w,hk,hB,hC,hS,h=>by
  have hk0:=hk
  simp only[List.all_cons,Bool.and_eq_true,decide_eq_true_eq] at hk
  have h':=h
  simp only[ZbQ,Bool.and_eq_true] at hB
  obtain⟨⟨⟨hr,hall⟩,hB1⟩,hB2⟩:=hB
  obtain⟨o,h0,h⟩:=h
  have e:((0,k)::ks).length+tl.length+1=(ks.length+tl.length+1)+1:=by simp only[List.length_cons];omega
  rw[e]
  refine⟨fun h1=>(by rw[h1] at hr;simp at hr),fun i hi=>?_⟩
  rw[List.all_eq_true] at hall
  have hik:=hall i hi
  simp only[Bool.or_eq_true,decide_eq_true_eq] at hik
  by_cases ek:i=k
  ·subst ek
   rcases h with ⟨hw,h⟩ | ⟨hw,h⟩
   ·refine Zba h0 (hw _) (Oper.wp_mono (fun a' w' h''=>?_) (h _ _ _ hS))
    obtain⟨v,j',rfl,hS',hrest⟩:=h''
    refine⟨.inr ⟨_,_,hS'⟩,?_⟩
    rw[Zp _ _ _ (Zo hs h0 hk.1)]
    exact Zbj hsel hQ hbo hof hd hwf hal hst hs ks _ j' _ z w' hk.2 hB2 (hC.step hi) hS' hrest
   ·refine ZgT h0 (hw _) ⟨.inr ⟨_,_,hS⟩,?_⟩
    rw[Zp _ _ _ (Zo hs h0 hk.1)]
    exact Zbj hsel hQ hbo hof hd hwf hal hst hs ks _ j _ z w hk.2 hB2 (hC.step hi) hS h
  ·have e2:i=fl:=by
    rcases hik with h | h
    ·exact absurd h ek
    ·exact h
   subst e2
   refine Zba hof (hwf _) (hal _ _ _ ?_)
   have hS':=hst j w hS
   refine⟨.inr ⟨_,_,hS'⟩,?_⟩
   rw[hd,Zbn]
   have hp:=ZaM hs ((0,k)::ks) j a w.heap.size _ hk0 hS' h'
   have:=Zam (md:=md) hsel hQ hbo _ _ _ _ hB1 (hC.step hi) (.inl ⟨_,_,hS'⟩) hp
   have e3:(((0,k)::ks)++tl).length=ks.length+tl.length+1:=by simp only[List.length_append,List.length_cons];omega
   rwa [e3] at this
 | (n+2,k)::ks,listed,j,a,z,w,hk,hB,hC,hS,h=>by
  simp only[List.all_cons,Bool.and_eq_true,decide_eq_true_eq] at hk
  simp only[ZbQ,Bool.and_eq_true] at hB
  obtain⟨⟨⟨hr,hf⟩,hbk⟩,hB'⟩:=hB
  obtain⟨o,v,h0,hy,hrest⟩:=h
  have ih:=Zbj hsel hQ hbo hof hd hwf hal hst hs ks (listed.setIfInBounds k true) j (a.put o.dst v) z w hk.2 hB' (hC.step (by simpa using hr)) hS hrest
  rw[← Zp _ _ _ (Zo hs h0 hk.1)] at ih
  have e:((n+2,k)::ks).length+tl.length+1=(ks.length+tl.length+1)+1:=by simp only[List.length_cons];omega
  rw[e]
  exact ZcI h0 hsel (fun c a w=>hQ c a o.dst v w) hbk _ listed _ w (Region.free_spec h0 hf) (by simpa using hr) (hy _) ih
def ZfV (l:List Oper) (fl d:Nat) (tl:List (Nat×Nat)) (ks:List (Nat×Nat)) (bar:Nat→Bool):Bool:=
 Region.noSelect l.toArray && decide ((ks.length+tl.length)+1=l.length) && ZbQ .any l.toArray bar fl tl ks (Array.replicate l.toArray.size false) && Zat l.toArray fl d && ks.all fun k=>decide (k.2≠fl)
theorem Zbm {id:Nat} {a:Act} {w:World} {l:List Oper} (fl d:Nat) (tl:List (Nat×Nat)) (ks:List (Nat×Nat)) (S:ι→Option Nat→World→Prop) (j0:ι) (bar:Nat→Bool) {of:Oper} {ob:Obj} (hm:P.follows .mixedOrders=true)
  (hB:ZfV l fl d tl ks bar=true) (hbo:∀ j,l.length≤j→bar j=false) (hQ:∀ c a o v w,Q (.panic c) (a.put o v) w→Q (.panic c) a w) (hof:l.toArray[fl]?=some of) (hd:of.dst=some d) (hwf:∀ a:Act,Region.wanted of (yielded l.toArray a.tmps)=true)
  (hal:∀ (a:Act) (w:World) (K:Act→World→Prop),K (a.put of.dst (.pointer (some ⟨w.heap.size,0,none⟩))) (w.alloc ob)→of.wp P a w K Q) (hst:∀ j w,S j none w→S j (some w.heap.size) (w.alloc ob)) (hS:S j0 none w.drew)
  (H:Zag P l.toArray Q S bar d tl ks j0 a):(Code.region id l.toArray true).wp P Q a w:=by
 simp only[ZfV,Bool.and_eq_true,decide_eq_true_eq] at hB
 obtain⟨⟨⟨⟨hsel,hn⟩,hb⟩,hs⟩,hk⟩:=hB
 have:=ZaT _ _ _ _ (Zbj (md:=.any) hsel hQ (fun j hj=>hbo j (by simpa using hj)) hof hd hwf hal hst hs ks _ j0 a (a.tmps.getD d undef) w.drew hk hb Z0.start hS H)
 rw[hn,Zdo] at this
 exact wp_region_any hm (by simpa using this)
theorem ZbE {id:Nat} {a:Act} {w:World} {l:List Oper} (fl d:Nat) (tl:List (Nat×Nat)) (ks:List (Nat×Nat)) (S:Nat→Option Nat→World→Prop) (bar:Nat→Bool) {of:Oper} {ob:Obj} (hm:P.follows .mixedOrders=true)
  (hB:ZfV l fl d tl ks bar=true) (hbo:∀ j,l.length≤j→bar j=false) (hQ:∀ c a o v w,Q (.panic c) (a.put o v) w→Q (.panic c) a w) (hof:l.toArray[fl]?=some of) (hd:of.dst=some d) (hwf:∀ a:Act,Region.wanted of (yielded l.toArray a.tmps)=true)
  (hal:∀ (a:Act) (w:World) (K:Act→World→Prop),K (a.put of.dst (.pointer (some ⟨w.heap.size,0,none⟩))) (w.alloc ob)→of.wp P a w K Q) (hst:∀ j w,S j none w→S j (some w.heap.size) (w.alloc ob)) (hS:S 0 none w.drew)
  (H:Zag P l.toArray Q S bar d tl ks 0 a):(Code.region id l.toArray true).wp P Q a w:=Zbm fl d tl ks S 0 bar hm hB hbo hQ hof hd hwf hal hst hS H
theorem ZI {i d:Nat} {j:ι} {tl:List (Nat×Nat)} {o:Oper} {ks:List (Nat×Nat)} {a:Act} (v:Value) (ho:ops[i]?=some o) (hw:∀ z,Region.wanted o (yielded ops (a.put (some d) z).tmps)=true) (hv:∀ z j g w,S j g w→(execOp (a.put (some d) z).eval o).run P w=.ok (.value v) w)
  (h:Zag P ops Q S bar d tl ks j (a.put o.dst v)):Zag P ops Q S bar d tl ((1,i)::ks) j a:=⟨o,v,ho,fun z=>.inl ⟨hw z,fun w ⟨j,g,hS⟩=>hv z j g w hS⟩,h⟩
theorem ZcE {i d:Nat} {j:ι} {tl:List (Nat×Nat)} {o:Oper} {ks:List (Nat×Nat)} {a:Act} (v:Value) (ho:ops[i]?=some o) (hw:∀ z,Region.wanted o (yielded ops (a.put (some d) z).tmps)=true) (hv:∀ z w,(execOp (a.put (some d) z).eval o).run P w=.ok (.value v) w)
  (h:Zag P ops Q S bar d tl ks j (a.put o.dst v)):Zag P ops Q S bar d tl ((2,i)::ks) j a:=⟨o,v,ho,fun z=>.inl ⟨hw z,fun w _=>hv z w⟩,h⟩
theorem Zai {i d:Nat} {j:ι} {tl:List (Nat×Nat)} {o:Oper} {ks:List (Nat×Nat)} {a:Act} (f:FuncId) (args:Array Value) (ho:ops[i]?=some o) (hw:∀ z,Region.wanted o (yielded ops (a.put (some d) z).tmps)=true)
  (he:∀ z w,(execOp (a.put (some d) z).eval o).run P w=.ok (.enter f args) w)
  (h:∀ g w,S j g w→Calls P f args w fun e w'=>(∃ v j',e=.returned v∧S j' g w'∧Zag P ops Q S bar d tl ks j' (a.put o.dst v))∨∃ c,e=.panicked c∧∀ z,Q (.panic c) (a.put (some d) z) w') :
  Zag P ops Q S bar d tl ((0,i)::ks) j a:=⟨o,ho,.inl ⟨hw,fun z g w hS=>by
   unfold Oper.wp
   rw[he z w,Oper.upon_enter]
   refine(h g w hS).mono fun e w' h=>?_
   rcases h with ⟨v,j',rfl,h1,h2⟩ | ⟨c,rfl,h1⟩
   ·exact⟨v,j',rfl,h1,h2⟩
   ·exact h1 _⟩⟩
theorem Zau {S:Nat→Option Nat→World→Prop} {i d j:Nat} {tl:List (Nat×Nat)} {o:Oper} {ks:List (Nat×Nat)} {a:Act} (f:FuncId) (args:Array Value) (ho:ops[i]?=some o) (hw:∀ z,Region.wanted o (yielded ops (a.put (some d) z).tmps)=true)
  (he:∀ z w,(execOp (a.put (some d) z).eval o).run P w=.ok (.enter f args) w)
  (h:∀ g w,S j g w→Calls P f args w fun e w'=>(∃ v,e=.returned v∧S (j+1) g w'∧Zag P ops Q S bar d tl ks (j+1) (a.put o.dst v))∨∃ c,e=.panicked c∧∀ z,Q (.panic c) (a.put (some d) z) w') :
  Zag P ops Q S bar d tl ((0,i)::ks) j a:=Zai f args ho hw he fun g w hS=>(h g w hS).mono fun _ _ h=>h.imp (fun⟨v,h⟩=>⟨v,j+1,h⟩) id
theorem ZaF {d:Nat} {j:ι} {tl:List (Nat×Nat)} {a:Act} (h:∀ G w,S j (some G) w→ZW P ops Q (AnyS S) bar tl (a.put (some d) (.pointer (some ⟨G,0,none⟩))) w):Zag P ops Q S bar d tl [] j a:=h
theorem Zl {S:World→Prop} {i:Nat} {o:Oper} {ks:List (Nat×Nat)} {a:Act} {w:World} (f:FuncId) (args:Array Value) (ho:ops[i]?=some o) (hw:Region.wanted o (yielded ops a.tmps)=true)
  (he:(execOp a.eval o).run P w=.ok (.enter f args) w)
  (h:Calls P f args w fun e w'=>(∃ v,e=.returned v∧S w'∧ZW P ops Q S bar ks (a.put o.dst v) w')∨∃ c,e=.panicked c∧Q (.panic c) a w') :
  ZW P ops Q S bar ((0,i)::ks) a w:=by
 refine⟨o,ho,?_⟩
 rw[if_pos hw]
 unfold Oper.wp
 rw[he,Oper.upon_enter]
 refine h.mono fun e w' h=>?_
 rcases h with ⟨v,rfl,h1,h2⟩ | ⟨c,rfl,h1⟩
 ·exact⟨.inr h1,h2⟩
 ·exact h1
end
end Go.Proofs.YtmpaflidennnoaaGreatDoor
namespace Go.Proofs.YtmpaflidennnoaaGreatDoor
open Go.RowKit Go.Shelf
attribute [local go_sem ↓] Go.wp_at_zero Go.wp_at_succ
theorem Z4 (s t:ByteArray) (w:World):Calls Tryz.prog 103 #[.agg #[.string s,.string t],.int .i64 0] w (Z7 (pV s t) w):=ZlT s t w
theorem ZhT {n:Int} (h0:0≤n) (h1:n≤48) {x y:ByteArray} (hx:IsP ((n:Int):Rat) x y) (w:World) (hT:Tabs w) :
  Calls Tryz.prog 107 #[.int .i64 n,.int .i64 1] w (Z7 (.tuple #[pV x y,.int .i64 0]) w):=by
 refine(Zhl n 1 (by omega) (by omega) (by decide) (by decide) w hT).mono ?_
 rintro e w' ⟨u,v,k,rfl,h,hb⟩
 rcases h with ⟨h,_⟩ | ⟨_,h,_⟩ | ⟨_,_,h⟩
 ·omega
 ·cases h
 ·have e1:mkRat (n.toNat:Nat) (1:Int).toNat=((n:Int):Rat):=by
   obtain⟨k,rfl⟩:∃ k:Nat,n=k:=⟨n.toNat,by omega⟩
   have h:∀ k:Nat,k≤48→mkRat ((k:Int).toNat:Nat) (1:Int).toNat=(((k:Nat):Int):Rat):=by decide +kernel
   exact h k (by omega)
  obtain⟨rfl,rfl,rfl⟩:=ZeZ h hx e1
  exact⟨rfl,hb⟩
structure CovF (t:TaskP) (p:List (List Int)) (T N b rb ro rk pb po pc:Nat) (rq rp rc gq gp gc:Nat→Nat) (w:World):Prop where
 w2:w.cell? ⟨b,2,none⟩=some (.slice (some ⟨rb,ro,none⟩) T rk)
 w3:w.cell? ⟨b,3,none⟩=some (.slice (some ⟨pb,po,none⟩) T pc)
 rate:∀ u,u<T→w.cell? ⟨rb,ro+u,none⟩=some (.slice (some ⟨rq u,rp u,none⟩) N (rc u))∧∀ i,i<N→w.cell? ⟨rq u,rp u+i*2,none⟩=some (.string (eR t u i).1)∧w.cell? ⟨rq u,rp u+i*2+1,none⟩=some (.string (eR t u i).2)
 plan:∀ u,u<T→w.cell? ⟨pb,po+u,none⟩=some (.slice (some ⟨gq u,gp u,none⟩) N (gc u))∧∀ i,i<N→w.cell? ⟨gq u,gp u+i,none⟩=some (.int .i64 (pN p u i))
 eff:EffZ w
 tabs:Tabs w
theorem Zez {t:TaskP} {p:List (List Int)} {b m:Nat} {sv hv rv pv:Value} {pb po pc:Nat} {gq gp gc:Nat→Nat} {w:World} (h:WorkW t b m sv hv rv pv w) (hP:PlanW p t.sites.length m pv pb po pc gq gp gc w) (ok:TaskOk t) (inn:ZaV t p) {i:Nat} (hi:i<t.sites.length) :
  Calls Tryz.prog 71 #[.pointer (some ⟨b,0,none⟩),.int .i64 i] w (fun e w'=>∃ x y,e=.returned (pV x y)∧IsP (covR t p i) x y∧Below w.heap.size w w'):=by
 obtain⟨sb,so,sc,hb,ho,hc,rb,ro,rk,cv,rq,rp,rc,k1,k2,k3,hA⟩:=h.open ok
 obtain⟨N,hN⟩:∃ n,t.sites.length=n:=⟨_,rfl⟩
 obtain⟨T,hT⟩:∃ n,p.length=n:=⟨_,rfl⟩
 have hTR:t.rates.length=T:=by rw[ok.rates,← inn.1,hT]
 have hTH:t.hours.length=T:=by rw[← inn.1,hT]
 have HC:Hid (∀ V,Below w.heap.size w V→CovF t p T N b rb ro rk pb po pc rq rp rc gq gp gc V):=fun V hV=>by
  have A:=hA V (hV.keepsS _)
  have B:=hP.keep (hV.keepsS _)
  refine⟨by rw[← hTR];exact A.w2,by rw[← hT];exact A.w3.trans (congrArg some B.val),fun u hu=>?_,fun u hu=>?_,A.at'.eff,A.at'.tabs⟩
  ·obtain⟨a1,_,_,a2⟩:=A.at'.rate u (by rw[hTR];exact hu)
   rw[hN] at a1 a2
   exact⟨a1,a2⟩
  ·obtain⟨a1,_,_,a2⟩:=B.at' u (by rw[hT];exact hu)
   rw[hN] at a1 a2
   exact⟨a1,a2⟩
 have HF:Hid (∀ k,k<T→(∃ x y,IsP (Zar t p i (k+1)) x y)∧(∃ x y,IsP (rR t k i*((pN p k i:Int):Rat)) x y)∧(∃ x y,IsP ((pN p k i:Int):Rat) x y)∧IsP (rR t k i) (eR t k i).1 (eR t k i).2∧0≤pN p k i∧pN p k i≤48):=fun k hk=>by
  have hn:=inn.2.2 k i (by rw[hT];exact hk) hi
  exact⟨(Zcw ok inn hi (by rw[hT];exact hk)).1,(Zhb ok inn (by rw[hT];exact hk) hi).1,(ZdF hn.1 hn.2).1,(ZcF ok (by rw[hTR];exact hk) hi).1,hn.1,hn.2⟩
 have HT:Hid (p.length=T):=hT
 have hT8:T≤8:=by rw[← hTH];exact ok.teams.2
 have hpc:T≤pc∧pc≤9223372036854775807:=by rw[← hT];exact hP.cap
 have hrk:T≤rk∧rk≤9223372036854775807:=by rw[← hTR];exact k3
 have hN24:N≤24:=by rw[← hN];exact ok.sites.2
 rw[hN] at hi
 clear h hP ok inn hA k1 k2 k3 hN hT hTR hTH sc hb ho hc
 have HE0:Hid (Env w.heap.size w [(w.heap.size,pObj ⟨#[]⟩ ⟨#[]⟩)] [] (w.alloc (pObj ⟨#[]⟩ ⟨#[]⟩))):=(Env.start w).push _ rfl
 have A0:=HC.out _ HE0.out.base
 have z0:=A0.eff.z0
 have z1:=A0.eff.z1
 have HE1:Hid (Env w.heap.size w [(w.heap.size+1,pObj ⟨#[48]⟩ ⟨#[49]⟩),(w.heap.size,pObj ⟨#[]⟩ ⟨#[]⟩)] [] ((w.alloc (pObj ⟨#[]⟩ ⟨#[]⟩)).alloc (pObj ⟨#[48]⟩ ⟨#[49]⟩))):=HE0.out.push _ (by simp)
 have A1:=HC.out _ HE1.out.base
 have a3:=A1.w3
 clear A0 A1 HE0
 go_enter Tryz.func71,Tryz.ntmps71
 go_wp2_with fail
 clear z0 z1 a3
 go_loopw [16] (fun v wr=>∃ (k:Nat) (a:Rat) (x y:ByteArray),v=.int .i64 k∧k≤T∧Hid (IsP a x y)∧Hid (a=Zar t p i k)∧Hid (Env w.heap.size w [(w.heap.size+1,pObj x y),(w.heap.size,pObj ⟨#[]⟩ ⟨#[]⟩)] [] wr)) (fun v _=>T-(intOf v).toNat)
 case atStart=>exact⟨0,0,_,_,rfl,Nat.zero_le _,ZP,rfl,HE1⟩
 case round=>
  obtain⟨k,a,x,y,rfl,hk,HIA,HEQ,HE⟩:=hrel
  clear HE1
  by_cases hlt:k<T
  ·have HK:Hid (∀ V,Below w.heap.size w V→(V.cell? ⟨b,2,none⟩=some (.slice (some ⟨rb,ro,none⟩) T rk)∧V.cell? ⟨rb,ro+k,none⟩=some (.slice (some ⟨rq k,rp k,none⟩) N (rc k))∧V.cell? ⟨rq k,rp k+i*2,none⟩=some (.string (eR t k i).1)∧V.cell? ⟨rq k,rp k+i*2+1,none⟩=some (.string (eR t k i).2))∧
     (V.cell? ⟨pb,po+k,none⟩=some (.slice (some ⟨gq k,gp k,none⟩) N (gc k))∧V.cell? ⟨gq k,gp k+i,none⟩=some (.int .i64 (pN p k i)))∧Tabs V):=fun V hV=>by
    have A:=HC.out V hV
    exact⟨⟨A.w2,(A.rate k hlt).1,((A.rate k hlt).2 i hi).1,((A.rate k hlt).2 i hi).2⟩,⟨(A.plan k hlt).1,(A.plan k hlt).2 i hi⟩,A.tabs⟩
   have hF:=HF.out k hlt
   have HNX:Hid (Zar t p i (k+1)=a+rR t k i*((pN p k i:Int):Rat)):=by rw[HEQ.out];rfl
   obtain⟨q1,hq1⟩:∃ z,rq k=z:=⟨_,rfl⟩
   obtain⟨o1,ho1⟩:∃ z,rp k=z:=⟨_,rfl⟩
   obtain⟨c1,hc1⟩:∃ z,rc k=z:=⟨_,rfl⟩
   obtain⟨q2,hq2⟩:∃ z,gq k=z:=⟨_,rfl⟩
   obtain⟨o2,ho2⟩:∃ z,gp k=z:=⟨_,rfl⟩
   obtain⟨c2,hc2⟩:∃ z,gc k=z:=⟨_,rfl⟩
   obtain⟨n,hn⟩:∃ z,pN p k i=z:=⟨_,rfl⟩
   obtain⟨⟨s1,t1⟩,hs1⟩:∃ z,eR t k i=z:=⟨_,rfl⟩
   rw[hq1,ho1,hc1,hq2,ho2,hc2,hn,hs1] at HK
   rw[hn,hs1] at hF
   rw[hn] at HNX
   dsimp only at HK hF
   obtain⟨⟨x9,y9,hx9⟩,⟨x8,y8,hx8⟩,⟨xr,yr,hxr⟩,hrr,hn0,hn1⟩:=hF
   have HX9:=Lib.hid hx9
   have HX8:=Lib.hid hx8
   have HXR:=Lib.hid hxr
   have HRR:=Lib.hid hrr
   clear hx9 hx8 hxr hrr hq1 ho1 hc1 hq2 ho2 hc2 hn hs1
   obtain⟨_,⟨p0,p1⟩,_⟩:=HK.out _ HE.out.base
   have i0':(0:Int)≤(k:Int):=by omega
   have i1':(k:Int)<(T:Int):=by omega
   have j0':(0:Int)≤(i:Int):=by omega
   have j1':(i:Int)<(N:Int):=by omega
   go_wp2_with fail
   refine(ZhT hn0 hn1 HXR.out _ (HK.out _ HE.out.base).2.2).mono ?_
   rintro e w2 ⟨rfl,hb2⟩
   have HE2:=Lib.hid ((HE.out.step hb2).push (pObj xr yr) rfl)
   clear hb2 p0 p1 HE
   obtain⟨g,hg⟩:∃ g,w2.heap.size=g:=⟨_,rfl⟩
   obtain⟨w3,hw3⟩:∃ z,w2.alloc (pObj xr yr)=z:=⟨_,rfl⟩
   rw[hg,hw3] at HE2
   go_wp2_with fail
   try rw[hg]
   try rw[hw3]
   clear hg hw3
   refine ZG [(1,0),(1,1),(1,2),(1,3),(1,4),(1,5),(1,6),(1,7),(1,8),(1,9),(1,10),(1,11),(1,12),(0,13),(1,14),(1,15),(0,16),(0,17),(1,18),(1,19),(0,20),(0,21)] (Env w.heap.size w [(g,pObj xr yr),(w.heap.size+1,pObj x y),(w.heap.size,pObj ⟨#[]⟩ ⟨#[]⟩)] []) (fun i=>i==21)
    (by kernel_rfl) (by kernel_rfl) (fun j hj=>by have h:22≤j:=hj;simp;omega) (fun _ _ o _ _ h=>by cases o<;>exact h) HE2.out.drew ?_
   obtain⟨w4,hw4⟩:∃ z,w3.drew=z:=⟨_,rfl⟩
   have HE4:Hid (Env w.heap.size w [(g,pObj xr yr),(w.heap.size+1,pObj x y),(w.heap.size,pObj ⟨#[]⟩ ⟨#[]⟩)] [] w4):=by rw[← hw4];exact HE2.out.drew
   rw[hw4]
   clear hw4 HE2
   iterate 13
    refine Zc _ rfl rfl (fun w' hS=>by have c0:=hS.cell 1 0 (v:=.string x) rfl rfl;have c1:=hS.cell 1 1 (v:=.string y) rfl rfl;have d0:=hS.cell 0 0 (v:=.string xr) rfl rfl;have d1:=hS.cell 0 1 (v:=.string yr) rfl rfl;obtain⟨⟨e0,e1,e2,e3⟩,_,_⟩:=HK.out _ hS.base;go_simp;first | rfl | (rw[if_pos (by omega)])) ?_
    simp only[Znc,Znd,Zne,Act.put,Znf,Zng,Znh]
   refine Zl 119 _ rfl rfl (by go_simp;rfl) ?_
   have HEC:=HE4
   refine(Zcb HRR.out HXR.out HX8.out rfl _ (HK.out _ HEC.out.base).2.2).mono ?_
   rintro e w5 ⟨rfl,hb⟩
   have HE5:=Lib.hid (HEC.out.step hb)
   refine .inl ⟨_,rfl,HE5.out,?_⟩
   clear hb HEC
   simp only[Znc,Znd,Zne,Act.put,Znf,Zng,Znh]
   iterate 2
    refine Zc _ rfl rfl (fun w' hS=>by skip;go_simp;first | rfl | (rw[if_pos (by omega)])) ?_
    simp only[Znc,Znd,Zne,Act.put,Znf,Zng,Znh]
   refine Zl 103 _ rfl rfl (by go_simp;rfl) ?_
   have HEC:=HE5
   refine(Z4 x8 y8 _).mono ?_
   rintro e w6 ⟨rfl,hb⟩
   have HE6:=Lib.hid (HEC.out.step hb)
   refine .inl ⟨_,rfl,HE6.out,?_⟩
   clear hb HEC
   simp only[Znc,Znd,Zne,Act.put,Znf,Zng,Znh]
   refine Zl 42 _ rfl rfl (by go_simp;rfl) ?_
   have HEC:=HE6
   refine(Zib HIA.out HX8.out HX9.out HNX.out.symm _ (HK.out _ HEC.out.base).2.2).mono ?_
   rintro e w7 ⟨rfl,hb⟩
   have HE7:=Lib.hid (HEC.out.step hb)
   refine .inl ⟨_,rfl,HE7.out,?_⟩
   clear hb HEC
   simp only[Znc,Znd,Zne,Act.put,Znf,Zng,Znh]
   iterate 2
    refine Zc _ rfl rfl (fun w' hS=>by skip;go_simp;first | rfl | (rw[if_pos (by omega)])) ?_
    simp only[Znc,Znd,Zne,Act.put,Znf,Zng,Znh]
   refine Zl 103 _ rfl rfl (by go_simp;rfl) ?_
   have HEC:=HE7
   refine(Z4 x9 y9 _).mono ?_
   rintro e w8 ⟨rfl,hb⟩
   have HE8:=Lib.hid (HEC.out.step hb)
   refine .inl ⟨_,rfl,HE8.out,?_⟩
   clear hb HEC
   simp only[Znc,Znd,Zne,Act.put,Znf,Zng,Znh]
   have HE9:=Lib.hid (HE8.out.only [1,2] _ rfl (by decide))
   have r0:=HE9.out.cell 0 0 rfl rfl
   have r1:=HE9.out.cell 0 1 rfl rfl
   have f0:=HE9.out.free 0 0 rfl
   have f1:=HE9.out.free 0 1 rfl
   refine Zn rfl rfl fun K hK=>?_
   go_simp
   have HE10:=Lib.hid (HE9.out.fill (.string x9) (.string y9))
   refine hK _ _ (.inl rfl) ?_
   clear hK K r0 r1 f0 f1 HE4 HE5 HE6 HE7 HE8 HE9
   refine Zq ?_
   go_wp2
   go_roundw
   case rel=>exact⟨k+1,_,x9,y9,by go_num,by omega,HX9,rfl,HE10⟩
   case measure=>simp[intOf];omega
  ·have hkm:k=T:=by omega
   have HAA:Hid (IsP (covR t p i) x y):=by
    have h:=HIA.out
    rw[HEQ.out,hkm] at h
    unfold covR
    rw[HT.out]
    exact h
   have HE1:=Lib.hid (HE.out.only [1,0] _ rfl (by decide))
   clear hkm
   have c0:=HE1.out.cell 1 0 (v:=.string x) rfl rfl
   have c1:=HE1.out.cell 1 1 (v:=.string y) rfl rfl
   have r0:=HE1.out.cell 0 0 rfl rfl
   have r1:=HE1.out.cell 0 1 rfl rfl
   have f0:=HE1.out.free 0 0 rfl
   have f1:=HE1.out.free 0 1 rfl
   go_wp2
   have HE9:=Lib.hid (HE1.out.fill (.string x) (.string y))
   have q0:=HE9.out.cell 0 0 (v:=.string x) rfl rfl
   have q1:=HE9.out.cell 0 1 (v:=.string y) rfl rfl
   exact bodyPost_ret (v:=.agg #[.string x,.string y]) (by simp[results,Tryz.f71,go_sem,q0,q1]) rfl ⟨x,y,rfl,HAA.out,HE9.out.base⟩
abbrev Zef (ob:Obj) (bs:List (Nat×Obj)) (g:Option Nat):List (Nat×Obj):=match g with | none=>bs | some G=>(G,ob)::bs
theorem EnvS.tail {S:Nat→Prop} {w0 w:World} {p:Nat×Obj} {bs:List (Nat×Obj)} (h:EnvS S w0 (p::bs) w):EnvS S w0 bs w:=
 ⟨h.base,h.up,fun i q hq=>h.cells (i+1) q (by simpa using hq),fun i j p q hp hq e=>by have:=h.apart (i+1) (j+1) p q (by simpa using hp) (by simpa using hq) e;omega⟩
theorem Wk.tail {m n:Nat} {t:TaskP} {w0 w:World} {p:Nat×Obj} {bs:List (Nat×Obj)} (h:Wk m t n w0 (p::bs) w):Wk m t n w0 bs w:=⟨h.env.tail,h.memo⟩
theorem Wk.bare {m n:Nat} {t:TaskP} {w0 w:World} {ob:Obj} {bs:List (Nat×Obj)} {g:Option Nat} (h:Wk m t n w0 (Zef ob bs g) w):Wk m t n w0 bs w:=by
 cases g with
 | none=>exact h
 | some G=>exact h.tail
def ZdO (q:Rat) (m:Nat) (t:TaskP) (n:Nat) (w:World) (e:Ending) (w':World):Prop:=∃ x y,e=.returned (pV x y)∧IsP q x y∧Keeps (NotM m) w w'∧Memo w' m t n
abbrev aO (i:Int) (s u:ByteArray):Obj:=.cells #[.int .i64 i,.string s,.string u] 201
theorem Zfr {t:TaskP} {b m n:Nat} {sv hv rv pv:Value} {w:World} (h:WorkW t b m sv hv rv pv w) (hm:Memo w m t n) (hn:n≤1000000000000) (ok:TaskOk t) {i:Nat} (hi:i<t.sites.length) {q:Rat} {s u:ByteArray} (hq:IsP q s u) (hz:Sz 300 q) :
  Calls Tryz.prog 120 #[.pointer (some ⟨b,0,none⟩),.int .i64 i,pV s u] w (ZdO (chF (eS t i).curve q) m t (n+1) w):=by
 obtain⟨sb,so,sc,hb,ho,hc,rb,ro,rk,cv,rq,rp,rc,k1,k2,k3,hA⟩:=h.open ok
 have HF:Hid (∃ x y,IsP (chF (eS t i).curve q) x y):=(Zfi ok hi hq.nn hz (Nat.le_refl _)).1
 have HCH:Hid (Zv (eS t i).curve.length (cR (eS t i).curve) (hR (eS t i).curve) q (chF (eS t i).curve q)):=ZcJ (ok.site i hi).2 q
 have HCU:Hid (CurveP (eS t i).curve):=(ok.site i hi).2
 have HW:=Lib.hid hA
 have HQ:=Lib.hid hq
 have HZ:=Lib.hid hz
 have HI:=Lib.hid hi
 have hN24:=ok.sites.2
 have HN24:=Lib.hid hN24
 have HN:=Lib.hid hn
 obtain⟨W3,hW3⟩:∃ z,((w.alloc (pObj s u)).alloc (pObj ⟨#[]⟩ ⟨#[]⟩)).alloc (aO i s u)=z:=⟨_,rfl⟩
 obtain⟨G,hG⟩:∃ g,w.heap.size=g:=⟨_,rfl⟩
 have HE0:Hid (Wk m t n w [(G+1+1,aO i s u),(G+1,pObj ⟨#[]⟩ ⟨#[]⟩),(G,pObj s u)] W3):=by
  rw[← hW3,← hG]
  exact(((Wk.start hm).push (pObj s u) rfl).push (pObj ⟨#[]⟩ ⟨#[]⟩) (by simp)).push (aO i s u) (by simp)
 obtain⟨N,hNN⟩:∃ N,t.sites.length=N:=⟨_,rfl⟩
 have HLK:=Lib.hid (HE0.out.memo.look hi hN24 hq)
 have HS:Hid (∀ V,Keeps (NotM m) w V→V.cell? ⟨b,0,none⟩=some (.slice (some ⟨sb,so,none⟩) N sc)∧V.cell? ⟨b,4,none⟩=some (.map (some m))∧V.cell? ⟨sb,so+i*3+2,none⟩=some (cv i)∧BL V (cv i) (eS t i).curve∧DetV V∧Tabs V):=fun V hV=>by
  have A:=hA V hV
  obtain⟨_,_,a2,a3⟩:=A.at'.site i hi
  exact⟨by rw[← hNN];exact A.w0,A.w4,a2,a3,A.at'.det,A.at'.tabs⟩
 obtain⟨k1,k1'⟩:=k1
 rw[hNN] at k1 hi
 obtain⟨cvi,hcv⟩:∃ v,cv i=v:=⟨_,rfl⟩
 rw[hcv] at HS
 have f0:W3.cell? ⟨G,0,none⟩=some (.string s):=HE0.out.cell 2 0 rfl rfl
 clear h hm hn ok hq hz hA k2 k3 hcv hNN hN24
 go_enter Tryz.func120,Tryz.ntmps120
 go_wp2_with fail
 rcases HLK.out with ⟨x,y,hx,hlk⟩ | hlk
 ·have HX:=Lib.hid hx
  clear hx
  refine ZbE 9 8 [(0,10),(2,11)] [(1,0),(1,1),(1,2),(1,3),(1,4),(1,5),(1,6),(2,7),(2,8)] (fun _ g V=>Wk m t n w (Zef (pObj ⟨#[]⟩ ⟨#[]⟩) [(G+1+1,aO i s u),(G+1,pObj ⟨#[]⟩ ⟨#[]⟩),(G,pObj s u)] g) V∧V.heap[m]?=W3.heap[m]?) (fun i=>i==7 || i==8 || i==10 || i==11)
   (by kernel_rfl) (by kernel_rfl) (fun j hj=>by have h:12≤j:=hj;simp;omega) (fun _ _ o _ _ h=>by cases o<;>exact h) rfl rfl (fun _=>rfl) (fun a V K hK=>by go_simp;exact hK) (fun j V h=>⟨h.1.push _ rfl,(Below.heap_alloc V _ m h.1.memo.lt).trans h.2⟩) ⟨HE0.out.drew,rfl⟩ ?_
  iterate 5
   refine ZI _ rfl (fun z=>rfl) (fun z j g w' hS=>by have hE:=hS.1.bare;have k0:=hE.cell 0 0 (v:=.int .i64 i) rfl rfl;have k1:=hE.cell 0 1 (v:=.string s) rfl rfl;have k2:=hE.cell 0 2 (v:=.string u) rfl rfl;obtain⟨_,e4,_⟩:=HS.out _ hE.base;simp only[Act.put,List.setIfInBounds_toArray,List.set_cons_zero,List.set_cons_succ];go_simp;first | rfl | (rw[if_pos (by omega)])) ?_
   simp only[Znc,Znd,Zne,Act.put,Znf,Zng,Znh]
  refine ZI (.tuple #[pV x y,.bool true]) rfl (fun z=>rfl) (fun z j g w' hS=>by have hlk:=hlk w' hS.2;simp only[Act.put,List.setIfInBounds_toArray,List.set_cons_zero,List.set_cons_succ];go_simp) ?_
  simp only[Znc,Znd,Zne,Act.put,Znf,Zng,Znh]
  iterate 1
   refine ZI _ rfl (fun z=>rfl) (fun z j g w' hS=>by skip;simp only[Act.put,List.setIfInBounds_toArray,List.set_cons_zero,List.set_cons_succ];go_simp;first | rfl | (rw[if_pos (by omega)])) ?_
   simp only[Znc,Znd,Zne,Act.put,Znf,Zng,Znh]
  iterate 2
   refine ZcE _ rfl (fun z=>rfl) (fun z w'=>by simp only[Act.put,List.setIfInBounds_toArray,List.set_cons_zero,List.set_cons_succ];go_simp;rfl) ?_
   simp only[Znc,Znd,Zne,Act.put,Znf,Zng,Znh]
  refine ZaF fun g V hS=>?_
  simp only[Znc,Znd,Zne,Act.put,Znf,Zng,Znh]
  obtain⟨HE8,_⟩:=hS
  have HE8:Hid (Wk m t n w [(g,pObj ⟨#[]⟩ ⟨#[]⟩),(G+1+1,aO i s u),(G+1,pObj ⟨#[]⟩ ⟨#[]⟩),(G,pObj s u)] V):=HE8
  have r0:=HE8.out.cell 0 0 rfl rfl
  have r1:=HE8.out.cell 0 1 rfl rfl
  have f0:=HE8.out.free 0 0 rfl
  have f1:=HE8.out.free 0 1 rfl
  refine Zn rfl rfl fun K hK=>?_
  go_simp
  have HE9:=Lib.hid (HE8.out.fill (.string x) (.string y))
  refine hK _ _ (.inl rfl) ?_
  clear hK K r0 r1 f0 f1 HE8 HE0
  iterate 1
   refine ZcB _ rfl rfl (fun w' _=>by go_simp;rfl) ?_
   simp only[Znc,Znd,Zne,Act.put,Znf,Zng,Znh]
  refine Zq ?_
  obtain⟨Z,hZ⟩:∃ z,(V.setCell ⟨g,0,none⟩ (.string x)).setCell ⟨g,1,none⟩ (.string y)=z:=⟨_,rfl⟩
  rw[hZ] at HE9 ⊢
  clear hZ
  clear hlk HLK
  have HE:=HE9
  have HEA:=Lib.hid (HE.out.only [2,0] _ rfl (by decide))
  have d0:=HEA.out.cell 1 0 (v:=.string x) rfl rfl
  have d1:=HEA.out.cell 1 1 (v:=.string y) rfl rfl
  have r0:=HEA.out.cell 0 0 (v:=.string ⟨#[]⟩) rfl rfl
  have r1:=HEA.out.cell 0 1 (v:=.string ⟨#[]⟩) rfl rfl
  have f0:=HEA.out.free 0 0 rfl
  have f1:=HEA.out.free 0 1 rfl
  go_wp2
  have HEB:=Lib.hid (HEA.out.fill (.string x) (.string y))
  have q0:=HEB.out.cell 0 0 (v:=.string x) rfl rfl
  have q1:=HEB.out.cell 0 1 (v:=.string y) rfl rfl
  exact bodyPost_ret (v:=.agg #[.string x,.string y]) (by simp[results,Tryz.f120,go_sem,q0,q1]) rfl ⟨x,y,rfl,HX.out,HEB.out.base,HEB.out.memo.mono (Nat.le_succ _)⟩
 ·obtain⟨x,y,hx⟩:=HF.out
  have HX:=Lib.hid hx
  clear hx
  refine ZbE 9 8 [(0,10),(2,11)] [(1,0),(1,1),(1,2),(1,3),(1,4),(1,5),(1,6),(2,7),(2,8)] (fun _ g V=>Wk m t n w (Zef (pObj ⟨#[]⟩ ⟨#[]⟩) [(G+1+1,aO i s u),(G+1,pObj ⟨#[]⟩ ⟨#[]⟩),(G,pObj s u)] g) V∧V.heap[m]?=W3.heap[m]?) (fun i=>i==7 || i==8 || i==10 || i==11)
   (by kernel_rfl) (by kernel_rfl) (fun j hj=>by have h:12≤j:=hj;simp;omega) (fun _ _ o _ _ h=>by cases o<;>exact h) rfl rfl (fun _=>rfl) (fun a V K hK=>by go_simp;exact hK) (fun j V h=>⟨h.1.push _ rfl,(Below.heap_alloc V _ m h.1.memo.lt).trans h.2⟩) ⟨HE0.out.drew,rfl⟩ ?_
  iterate 5
   refine ZI _ rfl (fun z=>rfl) (fun z j g w' hS=>by have hE:=hS.1.bare;have k0:=hE.cell 0 0 (v:=.int .i64 i) rfl rfl;have k1:=hE.cell 0 1 (v:=.string s) rfl rfl;have k2:=hE.cell 0 2 (v:=.string u) rfl rfl;obtain⟨_,e4,_⟩:=HS.out _ hE.base;simp only[Act.put,List.setIfInBounds_toArray,List.set_cons_zero,List.set_cons_succ];go_simp;first | rfl | (rw[if_pos (by omega)])) ?_
   simp only[Znc,Znd,Zne,Act.put,Znf,Zng,Znh]
  refine ZI (.tuple #[pV ⟨#[]⟩ ⟨#[]⟩,.bool false]) rfl (fun z=>rfl) (fun z j g w' hS=>by have hlk:=hlk w' hS.2;simp only[Act.put,List.setIfInBounds_toArray,List.set_cons_zero,List.set_cons_succ];go_simp) ?_
  simp only[Znc,Znd,Zne,Act.put,Znf,Zng,Znh]
  iterate 1
   refine ZI _ rfl (fun z=>rfl) (fun z j g w' hS=>by skip;simp only[Act.put,List.setIfInBounds_toArray,List.set_cons_zero,List.set_cons_succ];go_simp;first | rfl | (rw[if_pos (by omega)])) ?_
   simp only[Znc,Znd,Zne,Act.put,Znf,Zng,Znh]
  iterate 2
   refine ZcE _ rfl (fun z=>rfl) (fun z w'=>by simp only[Act.put,List.setIfInBounds_toArray,List.set_cons_zero,List.set_cons_succ];go_simp;rfl) ?_
   simp only[Znc,Znd,Zne,Act.put,Znf,Zng,Znh]
  refine ZaF fun g V hS=>?_
  simp only[Znc,Znd,Zne,Act.put,Znf,Zng,Znh]
  obtain⟨HE8,_⟩:=hS
  have HE8:Hid (Wk m t n w [(g,pObj ⟨#[]⟩ ⟨#[]⟩),(G+1+1,aO i s u),(G+1,pObj ⟨#[]⟩ ⟨#[]⟩),(G,pObj s u)] V):=HE8
  have r0:=HE8.out.cell 0 0 rfl rfl
  have r1:=HE8.out.cell 0 1 rfl rfl
  have f0:=HE8.out.free 0 0 rfl
  have f1:=HE8.out.free 0 1 rfl
  refine Zn rfl rfl fun K hK=>?_
  go_simp
  have HE9:=Lib.hid (HE8.out.fill (.string ⟨#[]⟩) (.string ⟨#[]⟩))
  refine hK _ _ (.inl rfl) ?_
  clear hK K r0 r1 f0 f1 HE8 HE0
  iterate 1
   refine ZcB _ rfl rfl (fun w' _=>by go_simp;rfl) ?_
   simp only[Znc,Znd,Zne,Act.put,Znf,Zng,Znh]
  refine Zq ?_
  obtain⟨Z,hZ⟩:∃ z,(V.setCell ⟨g,0,none⟩ (.string ⟨#[]⟩)).setCell ⟨g,1,none⟩ (.string ⟨#[]⟩)=z:=⟨_,rfl⟩
  rw[hZ] at HE9 ⊢
  clear hZ
  clear hlk HLK
  go_wp2_with fail
  refine ZG [(1,0),(1,1),(1,2),(1,3),(1,4),(1,5),(1,6),(1,7),(1,8),(1,9),(0,10),(1,11),(1,12),(0,13),(0,14)] (Wk m t n w [(g,pObj ⟨#[]⟩ ⟨#[]⟩),(G+1+1,aO i s u),(G+1,pObj ⟨#[]⟩ ⟨#[]⟩),(G,pObj s u)]) (fun i=>i==14)
   (by kernel_rfl) (by kernel_rfl) (fun j hj=>by have h:15≤j:=hj;simp;omega) (fun _ _ o _ _ h=>by cases o<;>exact h) HE9.out.drew ?_
  obtain⟨w4,hw4⟩:∃ z,Z.drew=z:=⟨_,rfl⟩
  have HE4:Hid (Wk m t n w [(g,pObj ⟨#[]⟩ ⟨#[]⟩),(G+1+1,aO i s u),(G+1,pObj ⟨#[]⟩ ⟨#[]⟩),(G,pObj s u)] w4):=by rw[← hw4];exact HE9.out.drew
  rw[hw4]
  clear hw4 HE9
  have i0':(0:Int)≤(i:Int):=by omega
  have i1':(i:Int)<(N:Int):=by omega
  iterate 10
   refine Zc _ rfl rfl (fun w' hS=>by have c0:=hS.cell 3 0 (v:=.string s) rfl rfl;have c1:=hS.cell 3 1 (v:=.string u) rfl rfl;obtain⟨e0,e1,e2,_⟩:=HS.out _ hS.base;go_simp;first | rfl | (rw[if_pos (by omega)])) ?_
   simp only[Znc,Znd,Zne,Act.put,Znf,Zng,Znh]
  refine Zl 168 _ rfl rfl (by go_simp;rfl) ?_
  have HEC:=HE4
  refine(Zli (HS.out _ HEC.out.base).2.2.2.1 HCU.out HCU.out.limB HQ.out HZ.out HCH.out HX.out (HS.out _ HEC.out.base).2.2.2.2.1 (HS.out _ HEC.out.base).2.2.2.2.2).mono ?_
  rintro e w5 ⟨rfl,hb⟩
  have HE5:=Lib.hid (HEC.out.step hb)
  refine .inl ⟨_,rfl,HE5.out,?_⟩
  clear hb HEC
  simp only[Znc,Znd,Zne,Act.put,Znf,Zng,Znh]
  iterate 2
   refine Zc _ rfl rfl (fun w' hS=>by skip;go_simp;first | rfl | (rw[if_pos (by omega)])) ?_
   simp only[Znc,Znd,Zne,Act.put,Znf,Zng,Znh]
  refine Zl 103 _ rfl rfl (by go_simp;rfl) ?_
  have HEC:=HE5
  refine(Z4 x y _).mono ?_
  rintro e w6 ⟨rfl,hb⟩
  have HE6:=Lib.hid (HEC.out.step hb)
  refine .inl ⟨_,rfl,HE6.out,?_⟩
  clear hb HEC
  simp only[Znc,Znd,Zne,Act.put,Znf,Zng,Znh]
  have r0:=HE6.out.cell 0 0 rfl rfl
  have r1:=HE6.out.cell 0 1 rfl rfl
  have f0:=HE6.out.free 0 0 rfl
  have f1:=HE6.out.free 0 1 rfl
  refine Zn rfl rfl fun K hK=>?_
  go_simp
  have HE7:=Lib.hid (HE6.out.fill (.string x) (.string y))
  refine hK _ _ (.inl rfl) ?_
  clear hK K r0 r1 f0 f1 HE4 HE5 HE6
  refine Zq ?_
  obtain⟨Z2,hZ⟩:∃ z,(w6.setCell ⟨g,0,none⟩ (.string x)).setCell ⟨g,1,none⟩ (.string y)=z:=⟨_,rfl⟩
  rw[hZ] at HE7 ⊢
  clear hZ
  go_wp2_with fail
  obtain⟨w8,hput,hm8,hk8⟩:=(HE7.out.drew.memo).put HI.out HN24.out HQ.out HX.out HN.out
  refine ZG [(1,0),(1,1),(1,2),(1,3),(1,4),(1,5),(0,6)] (fun V=>V=Z2.drew) (fun i=>i==6)
   (by kernel_rfl) (by kernel_rfl) (fun j hj=>by have h:7≤j:=hj;simp;omega) (fun _ _ o _ _ h=>by cases o<;>exact h) rfl ?_
  have HE8:Hid (Wk m t (n+1) w [(g,pObj x y),(G+1+1,aO i s u),(G+1,pObj ⟨#[]⟩ ⟨#[]⟩),(G,pObj s u)] w8):=HE7.out.drew.call hk8 hm8
  iterate 6
   refine Zc _ rfl rfl (fun w' hS=>by subst hS;have hE:=HE7.out.drew;have c0:=hE.cell 0 0 (v:=.string x) rfl rfl;have c1:=hE.cell 0 1 (v:=.string y) rfl rfl;have k0:=hE.cell 1 0 (v:=.int .i64 i) rfl rfl;have k1:=hE.cell 1 1 (v:=.string s) rfl rfl;have k2:=hE.cell 1 2 (v:=.string u) rfl rfl;obtain⟨_,e1,_⟩:=HS.out _ hE.base;go_simp;first | rfl | (rw[if_pos (by omega)])) ?_
   simp only[Znc,Znd,Zne,Act.put,Znf,Zng,Znh]
  refine Zn rfl rfl fun K hK=>?_
  go_simp
  refine hK _ _ (.inl rfl) ?_
  clear hK K hput hm8 hk8 HE7
  refine Zq ?_
  have HE:=HE8
  have HEA:=Lib.hid (HE.out.only [2,0] _ rfl (by decide))
  have d0:=HEA.out.cell 1 0 (v:=.string x) rfl rfl
  have d1:=HEA.out.cell 1 1 (v:=.string y) rfl rfl
  have r0:=HEA.out.cell 0 0 (v:=.string ⟨#[]⟩) rfl rfl
  have r1:=HEA.out.cell 0 1 (v:=.string ⟨#[]⟩) rfl rfl
  have f0:=HEA.out.free 0 0 rfl
  have f1:=HEA.out.free 0 1 rfl
  go_wp2
  have HEB:=Lib.hid (HEA.out.fill (.string x) (.string y))
  have q0:=HEB.out.cell 0 0 (v:=.string x) rfl rfl
  have q1:=HEB.out.cell 0 1 (v:=.string y) rfl rfl
  exact bodyPost_ret (v:=.agg #[.string x,.string y]) (by simp[results,Tryz.f120,go_sem,q0,q1]) rfl ⟨x,y,rfl,HX.out,HEB.out.base,HEB.out.memo⟩
end Go.Proofs.YtmpaflidennnoaaGreatDoor
