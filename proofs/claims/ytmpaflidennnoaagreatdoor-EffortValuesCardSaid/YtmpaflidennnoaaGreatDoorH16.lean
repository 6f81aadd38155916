/- The parts FloatZ, EnvZ, Along, DChance, DChance2. -/
import Derived.Test.YtmpaflidennnoaaGreatDoorH15
set_option maxRecDepth 100000
set_option maxHeartbeats 4000000
set_option linter.unusedVariables false
set_option linter.unusedSimpArgs false
namespace Go.Proofs.YtmpaflidennnoaaGreatDoor
open Go.RowKit Go.Shelf
attribute [local go_sem ↓] Go.wp_at_zero Go.wp_at_succ
theorem ZdH (a:Act) (d:Nat):a.put (some d) (a.tmps.getD d undef)=a:=by
 obtain⟨t,ds⟩:=a
 simp only[Act.put]
 congr 1
 rcases Zow d t.size with h | h
 ·simp[Array.getD,h,Array.setIfInBounds]
 ·simp[Array.setIfInBounds,Nat.not_lt.2 h]
theorem ZbJ (a:Act) (d:Nat) (u v:Value):(a.put (some d) u).put (some d) v=a.put (some d) v:=by
 simp[Act.put]
theorem ZE (a:Act) (d:Nat) (e:Option Tmp) (h:e≠some d) (u v:Value):(a.put (some d) u).put e v=(a.put e v).put (some d) u:=by
 cases e with
 | none=>rfl
 | some e=>
  have he:d≠e:=fun h2=>h (by rw[h2])
  simp only[Act.put]
  congr 1
  exact Array.setIfInBounds_comm _ _ he
section
variable {P:Program} {ops:Array Oper} {Q:Exit->Act->World->Prop} {md:Region.Mode} {ι:Type} {S:ι->Option Nat->World->Prop} {bar:Nat->Bool}
def AnyS (S:ι->Option Nat->World->Prop) (w:World):Prop:=∃ j g,S j g w
def ZaR (P:Program) (ops:Array Oper) (Q:Exit->Act->World->Prop) (S:ι->Option Nat->World->Prop) (bar:Nat->Bool) (d:Nat) (tl:List (Nat×Nat)):List (Nat×Nat)->ι->Act->Prop
 | [],j,a=>∀ G w,S j (some G) w->Zag P ops Q (AnyS S) bar tl (a.put (some d) (.pointer (some ⟨G,0,none⟩))) w
 | (1,i)::ks,j,a=>∃ o v,ops[i]?=some o/\(∀ z,YieldsIf P ops (AnyS S) o v (a.put (some d) z))/\ZaR P ops Q S bar d tl ks j (a.put o.dst v)
 | (0,i)::ks,j,a=>∃ o,ops[i]?=some o/\(((∀ z,Region.wanted o (yielded ops (a.put (some d) z).tmps)=true)/\∀ z g w,S j g w->o.wp P (a.put (some d) z) w (fun a' w'=>∃ v j',a'=(a.put (some d) z).put o.dst v/\S j' g w'/\ZaR P ops Q S bar d tl ks j' (a.put o.dst v)) Q)\/
   ((∀ z,Region.wanted o (yielded ops (a.put (some d) z).tmps)=false)/\ZaR P ops Q S bar d tl ks j (a.put o.dst undef)))
 | (_+2,i)::ks,j,a=>∃ o v,ops[i]?=some o/\(∀ z,YieldsIf P ops (fun _=>True) o v (a.put (some d) z))/\ZaR P ops Q S bar d tl ks j (a.put o.dst v)
def ZaN (ops:Array Oper) (fl d:Nat):Bool:=(List.range ops.size).all fun i=>decide (i=fl) || match ops[i]? with | some o=>decide (o.dst≠some d) | none=>true
theorem ZF {fl d i:Nat} {o:Oper} (h:ZaN ops fl d=true) (hi:ops[i]?=some o) (hne:i≠fl):o.dst≠some d:=by
 unfold ZaN at h
 rw[Zo3] at h
 have:=h i (List.mem_range.2 (Zo9 hi))
 rw[hi] at this
 simpa[hne] using this
theorem Za3 {fl d:Nat} (hs:ZaN ops fl d=true) {tl:List (Nat×Nat)} : ∀ (ks:List (Nat×Nat)) (j:ι) (a:Act) (G:Nat) (w:World),(ks.all fun k=>decide (k.2≠fl))=true->S j (some G) w->ZaR P ops Q S bar d tl ks j a->
  Zag P ops Q (AnyS S) bar (ks++tl) (a.put (some d) (.pointer (some ⟨G,0,none⟩))) w
 | [],j,a,G,w,_,hS,h=>h G w hS
 | (1,i)::ks,j,a,G,w,hk,hS,h=>by
  simp only[List.all_cons,ZoY,ZoZ] at hk
  obtain⟨o,v,h0,hy,hrest⟩:=h
  refine⟨o,v,h0,hy _,?_⟩
  rw[ZE _ _ _ (ZF hs h0 hk.1)]
  exact Za3 hs ks j _ G w hk.2 hS hrest
 | (0,i)::ks,j,a,G,w,hk,hS,h=>by
  simp only[List.all_cons,ZoY,ZoZ] at hk
  obtain⟨o,h0,h⟩:=h
  refine⟨o,h0,?_⟩
  rcases h with ⟨hw,h⟩ | ⟨hw,h⟩
  ·rw[if_pos (hw _)]
   refine Oper.wp_mono (fun a' w' h'=>?_) (h _ _ _ hS)
   obtain⟨v,j',rfl,hS',hrest⟩:=h'
   refine⟨.inr ⟨_,_,hS'⟩,?_⟩
   rw[ZE _ _ _ (ZF hs h0 hk.1)]
   exact Za3 hs ks j' _ G w' hk.2 hS' hrest
  ·rw[if_neg (by rw[hw];exact Bool.false_ne_true)]
   refine⟨.inr ⟨_,_,hS⟩,?_⟩
   rw[ZE _ _ _ (ZF hs h0 hk.1)]
   exact Za3 hs ks j _ G w hk.2 hS h
 | (n+2,i)::ks,j,a,G,w,hk,hS,h=>by
  simp only[List.all_cons,ZoY,ZoZ] at hk
  obtain⟨o,v,h0,hy,hrest⟩:=h
  refine⟨o,v,h0,hy _,?_⟩
  rw[ZE _ _ _ (ZF hs h0 hk.1)]
  exact Za3 hs ks j _ G w hk.2 hS hrest
def Zb4 (md:Region.Mode) (ops:Array Oper) (bar:Nat->Bool) (fl:Nat) (tl:List (Nat×Nat)):List (Nat×Nat)->Array Bool->Bool
 | [],listed=>decide (Region.ready md ops listed=[fl]) && Zbf md ops bar tl (listed.setIfInBounds fl true)
 | (1,k)::ks,listed=>(Region.ready md ops listed).contains k && Region.free md ops listed k && !bar k && ((List.range ops.size).all fun j=>!bar j || decide (j=k) || ZcG md ops ops.size j k) && Zb4 md ops bar fl tl ks (listed.setIfInBounds k true)
 | (0,k)::ks,listed=>(Region.ready md ops listed).contains k && (Region.ready md ops listed).all (fun j=>decide (j=k) || decide (j=fl)) && Zbf md ops bar (((0,k)::ks)++tl) (listed.setIfInBounds fl true) && Zb4 md ops bar fl tl ks (listed.setIfInBounds k true)
 | (_+2,k)::ks,listed=>(Region.ready md ops listed).contains k && Region.free md ops listed k && bar k && Zb4 md ops bar fl tl ks (listed.setIfInBounds k true)
theorem Zby {i:Nat} {o:Oper} {K:Act->World->Prop} {a:Act} {w:World} (h0:ops[i]?=some o) (hw:Region.wanted o (yielded ops a.tmps)=true) (h:o.wp P a w K Q):wpOp P ops Q i K a w:=by
 unfold wpOp
 simp only[h0]
 simp only[hw,if_true]
 exact .inl h
theorem ZgX {i:Nat} {o:Oper} {K:Act->World->Prop} {a:Act} {w:World} (h0:ops[i]?=some o) (hw:Region.wanted o (yielded ops a.tmps)=false) (h:K (a.put o.dst undef) w):wpOp P ops Q i K a w:=by
 unfold wpOp
 simp only[h0]
 simp only[hw]
 exact h
theorem ZbI (hsel:Region.noSelect ops=true) (hQ:∀ c a o v w,Q (.panic c) (a.put o v) w->Q (.panic c) a w) (hbo:∀ j,ops.size<=j->bar j=false) {fl d:Nat} {tl:List (Nat×Nat)} {of:Oper} {ob:Obj} (hof:ops[fl]?=some of) (hd:of.dst=some d)
  (hwf:∀ a:Act,Region.wanted of (yielded ops a.tmps)=true) (hal:∀ (a:Act) (w:World) (K:Act->World->Prop),K (a.put of.dst (.pointer (some ⟨w.heap.size,0,none⟩))) (w.alloc ob)->of.wp P a w K Q) (hst:∀ j w,S j none w->S j (some w.heap.size) (w.alloc ob)) (hs:ZaN ops fl d=true) :
  ∀ (ks:List (Nat×Nat)) (listed:Array Bool) (j:ι) (a:Act) (z:Value) (w:World),(ks.all fun k=>decide (k.2≠fl))=true->Zb4 md ops bar fl tl ks listed=true->Zax md ops listed->S j none w->ZaR P ops Q S bar d tl ks j a->
   wpJ P md ops Q (AnyS S) bar ((ks.length+tl.length)+1) listed (a.put (some d) z) w
 | [],listed,j,a,z,w,_,hB,hC,hS,h=>by
  simp only[Zb4,ZoY,ZoZ] at hB
  obtain⟨hr,hr2⟩:=hB
  refine⟨fun h1=>(by rw[hr] at h1;cases h1),fun i hi=>?_⟩
  have hi0:=hi
  rw[hr] at hi
  obtain rfl:i=fl:=by simpa using hi
  refine Zby hof (hwf _) (hal _ _ _ ?_)
  have hS':=hst j w hS
  refine⟨.inr ⟨_,_,hS'⟩,?_⟩
  have h2:=h w.heap.size _ hS'
  rw[hd,ZbJ]
  have:=ZaI (md:=md) hsel hQ hbo tl _ _ _ hr2 (hC.step hi0) (.inl ⟨_,_,hS'⟩) h2
  simpa using this
 | (1,k)::ks,listed,j,a,z,w,hk,hB,hC,hS,h=>by
  simp only[List.all_cons,ZoY,ZoZ] at hk
  simp only[Zb4,ZoY] at hB
  obtain⟨⟨⟨⟨hr,hf⟩,hbk⟩,hw⟩,hB'⟩:=hB
  obtain⟨o,v,h0,hy,hrest⟩:=h
  have hbk':bar k=false:=by simpa using hbk
  have hwait:Zc6 md ops bar k:=fun j hj hne=>by
   have hjl:j<ops.size:=by
    rcases Zow j ops.size with h' | h'
    ·exact h'
    ·rw[hbo j h'] at hj;cases hj
   rw[Zo3] at hw
   have:=hw j (List.mem_range.2 hjl)
   rw[hj] at this
   simpa[hne] using this
  have ih:=ZbI hsel hQ hbo hof hd hwf hal hst hs ks (listed.setIfInBounds k true) j (a.put o.dst v) z w hk.2 hB' (hC.step (by simpa using hr)) hS hrest
  rw[<- ZE _ _ _ (ZF hs h0 hk.1)] at ih
  have e:((1,k)::ks).length+tl.length+1=(ks.length+tl.length+1)+1:=by simp only[Zo0];omega
  rw[e]
  exact Zb3 h0 hsel (fun c a w=>hQ c a o.dst v w) hwait hbk' _ listed _ w hC (Region.free_spec h0 hf) (by simpa using hr) (hy _) ⟨_,_,hS⟩ ih
 | (0,k)::ks,listed,j,a,z,w,hk,hB,hC,hS,h=>by
  have hk0:=hk
  simp only[List.all_cons,ZoY,ZoZ] at hk
  have h':=h
  simp only[Zb4,ZoY] at hB
  obtain⟨⟨⟨hr,hall⟩,hB1⟩,hB2⟩:=hB
  obtain⟨o,h0,h⟩:=h
  have e:((0,k)::ks).length+tl.length+1=(ks.length+tl.length+1)+1:=by simp only[Zo0];omega
  rw[e]
  refine⟨fun h1=>(by rw[h1] at hr;simp at hr),fun i hi=>?_⟩
  rw[Zo3] at hall
  have hik:=hall i hi
  simp only[Bool.or_eq_true,ZoZ] at hik
  by_cases ek:i=k
  ·subst ek
   rcases h with ⟨hw,h⟩ | ⟨hw,h⟩
   ·refine Zby h0 (hw _) (Oper.wp_mono (fun a' w' h''=>?_) (h _ _ _ hS))
    obtain⟨v,j',rfl,hS',hrest⟩:=h''
    refine⟨.inr ⟨_,_,hS'⟩,?_⟩
    rw[ZE _ _ _ (ZF hs h0 hk.1)]
    exact ZbI hsel hQ hbo hof hd hwf hal hst hs ks _ j' _ z w' hk.2 hB2 (hC.step hi) hS' hrest
   ·refine ZgX h0 (hw _) ⟨.inr ⟨_,_,hS⟩,?_⟩
    rw[ZE _ _ _ (ZF hs h0 hk.1)]
    exact ZbI hsel hQ hbo hof hd hwf hal hst hs ks _ j _ z w hk.2 hB2 (hC.step hi) hS h
  ·have e2:i=fl:=by
    rcases hik with h | h
    ·exact Zo4 h ek
    ·exact h
   subst e2
   refine Zby hof (hwf _) (hal _ _ _ ?_)
   have hS':=hst j w hS
   refine⟨.inr ⟨_,_,hS'⟩,?_⟩
   rw[hd,ZbJ]
   have hp:=Za3 hs ((0,k)::ks) j a w.heap.size _ hk0 hS' h'
   have:=ZaI (md:=md) hsel hQ hbo _ _ _ _ hB1 (hC.step hi) (.inl ⟨_,_,hS'⟩) hp
   have e3:(((0,k)::ks)++tl).length=ks.length+tl.length+1:=by simp only[ZoH,Zo0];omega
   rwa [e3] at this
 | (n+2,k)::ks,listed,j,a,z,w,hk,hB,hC,hS,h=>by
  simp only[List.all_cons,ZoY,ZoZ] at hk
  simp only[Zb4,ZoY] at hB
  obtain⟨⟨⟨hr,hf⟩,hbk⟩,hB'⟩:=hB
  obtain⟨o,v,h0,hy,hrest⟩:=h
  have ih:=ZbI hsel hQ hbo hof hd hwf hal hst hs ks (listed.setIfInBounds k true) j (a.put o.dst v) z w hk.2 hB' (hC.step (by simpa using hr)) hS hrest
  rw[<- ZE _ _ _ (ZF hs h0 hk.1)] at ih
  have e:((n+2,k)::ks).length+tl.length+1=(ks.length+tl.length+1)+1:=by simp only[Zo0];omega
  rw[e]
  exact Zc8 h0 hsel (fun c a w=>hQ c a o.dst v w) hbk _ listed _ w (Region.free_spec h0 hf) (by simpa using hr) (hy _) ih
def Zgf (l:List Oper) (fl d:Nat) (tl:List (Nat×Nat)) (ks:List (Nat×Nat)) (bar:Nat->Bool):Bool:=
 Region.noSelect l.toArray && decide ((ks.length+tl.length)+1=l.length) && Zb4 .any l.toArray bar fl tl ks (Array.replicate l.toArray.size false) && ZaN l.toArray fl d && ks.all fun k=>decide (k.2≠fl)
theorem ZhV {id:Nat} {a:Act} {w:World} {l:List Oper} (fl d:Nat) (tl:List (Nat×Nat)) (ks:List (Nat×Nat)) (S:ι->Option Nat->World->Prop) (j0:ι) (bar:Nat->Bool) {of:Oper} {ob:Obj} (hm:P.follows .mixedOrders=true)
  (hB:Zgf l fl d tl ks bar=true) (hbo:∀ j,l.length<=j->bar j=false) (hQ:∀ c a o v w,Q (.panic c) (a.put o v) w->Q (.panic c) a w) (hof:l.toArray[fl]?=some of) (hd:of.dst=some d) (hwf:∀ a:Act,Region.wanted of (yielded l.toArray a.tmps)=true)
  (hal:∀ (a:Act) (w:World) (K:Act->World->Prop),K (a.put of.dst (.pointer (some ⟨w.heap.size,0,none⟩))) (w.alloc ob)->of.wp P a w K Q) (hst:∀ j w,S j none w->S j (some w.heap.size) (w.alloc ob)) (hS:S j0 none w.drew)
  (H:ZaR P l.toArray Q S bar d tl ks j0 a):(Code.region id l.toArray true).wp P Q a w:=by
 simp only[Zgf,ZoY,ZoZ] at hB
 obtain⟨⟨⟨⟨hsel,hn⟩,hb⟩,hs⟩,hk⟩:=hB
 have:=ZbE _ _ _ _ (ZbI (md:=.any) hsel hQ (fun j hj=>hbo j (by simpa using hj)) hof hd hwf hal hst hs ks _ j0 a (a.tmps.getD d undef) w.drew hk hb Zax.start hS H)
 rw[hn,ZdH] at this
 exact wp_region_any hm (by simpa using this)
theorem Zaw {id:Nat} {a:Act} {w:World} {l:List Oper} (fl d:Nat) (tl:List (Nat×Nat)) (ks:List (Nat×Nat)) (S:Nat->Option Nat->World->Prop) (bar:Nat->Bool) {of:Oper} {ob:Obj} (hm:P.follows .mixedOrders=true)
  (hB:Zgf l fl d tl ks bar=true) (hbo:∀ j,l.length<=j->bar j=false) (hQ:∀ c a o v w,Q (.panic c) (a.put o v) w->Q (.panic c) a w) (hof:l.toArray[fl]?=some of) (hd:of.dst=some d) (hwf:∀ a:Act,Region.wanted of (yielded l.toArray a.tmps)=true)
  (hal:∀ (a:Act) (w:World) (K:Act->World->Prop),K (a.put of.dst (.pointer (some ⟨w.heap.size,0,none⟩))) (w.alloc ob)->of.wp P a w K Q) (hst:∀ j w,S j none w->S j (some w.heap.size) (w.alloc ob)) (hS:S 0 none w.drew)
  (H:ZaR P l.toArray Q S bar d tl ks 0 a):(Code.region id l.toArray true).wp P Q a w:=ZhV fl d tl ks S 0 bar hm hB hbo hQ hof hd hwf hal hst hS H
theorem ZS {i d:Nat} {j:ι} {tl:List (Nat×Nat)} {o:Oper} {ks:List (Nat×Nat)} {a:Act} (v:Value) (ho:ops[i]?=some o) (hw:∀ z,Region.wanted o (yielded ops (a.put (some d) z).tmps)=true) (hv:∀ z j g w,S j g w->(execOp (a.put (some d) z).eval o).run P w=.ok (.value v) w)
  (h:ZaR P ops Q S bar d tl ks j (a.put o.dst v)):ZaR P ops Q S bar d tl ((1,i)::ks) j a:=⟨o,v,ho,fun z=>.inl ⟨hw z,fun w ⟨j,g,hS⟩=>hv z j g w hS⟩,h⟩
theorem ZfR {i d:Nat} {j:ι} {tl:List (Nat×Nat)} {o:Oper} {ks:List (Nat×Nat)} {a:Act} (v:Value) (ho:ops[i]?=some o) (hw:∀ z,Region.wanted o (yielded ops (a.put (some d) z).tmps)=true) (hv:∀ z w,(execOp (a.put (some d) z).eval o).run P w=.ok (.value v) w)
  (h:ZaR P ops Q S bar d tl ks j (a.put o.dst v)):ZaR P ops Q S bar d tl ((2,i)::ks) j a:=⟨o,v,ho,fun z=>.inl ⟨hw z,fun w _=>hv z w⟩,h⟩
theorem ZiX {i d:Nat} {j:ι} {tl:List (Nat×Nat)} {o:Oper} {ks:List (Nat×Nat)} {a:Act} (f:FuncId) (args:Array Value) (ho:ops[i]?=some o) (hw:∀ z,Region.wanted o (yielded ops (a.put (some d) z).tmps)=true)
  (he:∀ z w,(execOp (a.put (some d) z).eval o).run P w=.ok (.enter f args) w)
  (h:∀ g w,S j g w->Calls P f args w fun e w'=>(∃ v j',e=.returned v/\S j' g w'/\ZaR P ops Q S bar d tl ks j' (a.put o.dst v))\/∃ c,e=.panicked c/\∀ z,Q (.panic c) (a.put (some d) z) w') :
  ZaR P ops Q S bar d tl ((0,i)::ks) j a:=⟨o,ho,.inl ⟨hw,fun z g w hS=>by
   unfold Oper.wp
   rw[he z w,Oper.upon_enter]
   refine(h g w hS).mono fun e w' h=>?_
   rcases h with ⟨v,j',rfl,h1,h2⟩ | ⟨c,rfl,h1⟩
   ·exact⟨v,j',rfl,h1,h2⟩
   ·exact h1 _⟩⟩
theorem ZU {S:Nat->Option Nat->World->Prop} {i d j:Nat} {tl:List (Nat×Nat)} {o:Oper} {ks:List (Nat×Nat)} {a:Act} (f:FuncId) (args:Array Value) (ho:ops[i]?=some o) (hw:∀ z,Region.wanted o (yielded ops (a.put (some d) z).tmps)=true)
  (he:∀ z w,(execOp (a.put (some d) z).eval o).run P w=.ok (.enter f args) w)
  (h:∀ g w,S j g w->Calls P f args w fun e w'=>(∃ v,e=.returned v/\S (j+1) g w'/\ZaR P ops Q S bar d tl ks (j+1) (a.put o.dst v))\/∃ c,e=.panicked c/\∀ z,Q (.panic c) (a.put (some d) z) w') :
  ZaR P ops Q S bar d tl ((0,i)::ks) j a:=ZiX f args ho hw he fun g w hS=>(h g w hS).mono fun _ _ h=>h.imp (fun⟨v,h⟩=>⟨v,j+1,h⟩) id
theorem ZaP {d:Nat} {j:ι} {tl:List (Nat×Nat)} {a:Act} (h:∀ G w,S j (some G) w->Zag P ops Q (AnyS S) bar tl (a.put (some d) (.pointer (some ⟨G,0,none⟩))) w):ZaR P ops Q S bar d tl [] j a:=h
theorem Zy {S:World->Prop} {i:Nat} {o:Oper} {ks:List (Nat×Nat)} {a:Act} {w:World} (f:FuncId) (args:Array Value) (ho:ops[i]?=some o) (hw:Region.wanted o (yielded ops a.tmps)=true)
  (he:(execOp a.eval o).run P w=.ok (.enter f args) w)
  (h:Calls P f args w fun e w'=>(∃ v,e=.returned v/\S w'/\Zag P ops Q S bar ks (a.put o.dst v) w')\/∃ c,e=.panicked c/\Q (.panic c) a w') :
  Zag P ops Q S bar ((0,i)::ks) a w:=by
 refine⟨o,ho,?_⟩
 rw[if_pos hw]
 unfold Oper.wp
 rw[he,Oper.upon_enter]
 refine h.mono fun e w' h=>?_
 rcases h with ⟨v,rfl,h1,h2⟩ | ⟨c,rfl,h1⟩
 ·exact⟨.inr h1,h2⟩
 ·exact h1
end
abbrev Zca (ob:Obj) (bs:List (Nat×Obj)) (g:Option Nat):List (Nat×Obj):=match g with | none=>bs | some G=>(G,ob)::bs
theorem Env.bareG {B:Nat} {w0 w:World} {bs:List (Nat×Obj)} {ps:List SP} {ob:Obj} {g:Option Nat} (h:Env B w0 (Zca ob bs g) ps w):Env B w0 bs ps w:=by
 cases g with
 | none=>exact h
 | some G=>exact h.tail
theorem Zm8 {X Y U V A:Rat} {xs xt ys yt us ut vs vt ao ap p1 q1 p2 q2 p3 q3 p4 q4 p5 q5 x y:ByteArray} (hx:IsP X xs xt) (hy:IsP Y ys yt) (hu:IsP U us ut) (hv:IsP V vs vt) (ha:IsP A ao ap)
  (h1:IsP (V-U) p1 q1) (h2:IsP (Y-X) p2 q2) (h3:IsP ((V-U)/(Y-X)) p3 q3) (hp:0<Y-X) (h4:IsP (A-X) p4 q4) (h5:IsP ((V-U)/(Y-X)*(A-X)) p5 q5) (h6:IsP (U+(V-U)/(Y-X)*(A-X)) x y)
  (w:World) (hT:Tabs w):Calls Tryz.prog 227 #[pV xs xt,pV ys yt,pV us ut,pV vs vt,pV ao ap] w (ZV (pV x y) w):=by
 have HX:=Zpe hx
 have HY:=Zpe hy
 have HU:=Zpe hu
 have HV:=Zpe hv
 have HA:=Zpe ha
 have H1:=Zpe h1
 have H2:=Zpe h2
 have H3:=Zpe h3
 have H4:=Zpe h4
 have H5:=Zpe h5
 have H6:=Zpe h6
 have HP:=Zpe hp
 have HT:=Zpe hT
 clear hx hy hu hv ha h1 h2 h3 h4 h5 h6 hp hT
 obtain⟨G,hG⟩:=Zpg w.heap.size
 obtain⟨W,hW⟩:=Zpg ((((((w.alloc (pObj xs xt)).alloc (pObj ys yt)).alloc (pObj us ut)).alloc (pObj vs vt)).alloc (pObj ao ap)).alloc (pObj Zpa Zpa))
 have HE0:Hid (Env w.heap.size w [(G+1+1+1+1+1,pObj Zpa Zpa),(G+1+1+1+1,pObj ao ap),(G+1+1+1,pObj vs vt),(G+1+1,pObj us ut),(G+1,pObj ys yt),(G,pObj xs xt)] [] W):=by
  rw[<- hW]
  exact((((((Env.start w).push _ hG.symm).push _ (by simp[hG])).push _ (by simp[hG])).push _ (by simp[hG])).push _ (by simp[hG])).push _ (by simp[hG])
 have HTW:Hid (∀ V,Below w.heap.size w V->Tabs V):=fun V hV=>HT.out.below hV Zpf
 go_enter Tryz.func227,Tryz.ntmps227
 go_wp2_with fail
 try rw[hW]
 try rw[hG]
 clear hW hG
 refine Zaw 16 11 [(0,17)] [(1,0),(1,1),(1,6),(1,7),(0,2),(1,3),(1,4),(0,5),(0,8),(1,9),(1,10),(0,11),(0,12),(1,13),(1,14),(0,15)] (fun _ g V=>Env w.heap.size w (Zca (pObj Zpa Zpa) [(G+1+1+1+1+1,pObj Zpa Zpa),(G+1+1+1+1,pObj ao ap),(G+1+1+1,pObj vs vt),(G+1+1,pObj us ut),(G+1,pObj ys yt),(G,pObj xs xt)] g) [] V) (fun i=>i==17)
  Zb Zb (fun j hj=>by have h:17<j:=hj;simp;omega) Zi rfl rfl (fun _=>rfl) (fun a V K hK=>by go_simp;exact hK) (fun j V h=>h.push _ rfl) HE0.out.drew ?_
 iterate 4
  refine ZS _ rfl (fun z=>rfl) (fun z j g w' hS=>by have hE:=hS.bareG;have a0:=hE.cell 2 0 (v:=.string vs) rfl rfl;have a1:=hE.cell 2 1 (v:=.string vt) rfl rfl;have b0:=hE.cell 3 0 (v:=.string us) rfl rfl;have b1:=hE.cell 3 1 (v:=.string ut) rfl rfl;have c0:=hE.cell 4 0 (v:=.string ys) rfl rfl;have c1:=hE.cell 4 1 (v:=.string yt) rfl rfl;have d0:=hE.cell 5 0 (v:=.string xs) rfl rfl;have d1:=hE.cell 5 1 (v:=.string xt) rfl rfl;exact Zg) ?_
  simp only[Act.put,Zl]
 refine ZU 104 _ rfl (fun z=>rfl) (fun z w'=>Zh) (fun g V hS=>?_)
 refine(ZdT HV.out HU.out H1.out rfl _ (HTW.out _ hS.bareG.base)).mono ?_
 rintro e V' ⟨rfl,hb⟩
 refine .inl ⟨_,rfl,hS.step hb,?_⟩
 clear hb hS
 simp only[Act.put,Zl]
 iterate 2
  refine ZS _ rfl (fun z=>rfl) (fun z j g w' hS=>Zg) ?_
  simp only[Act.put,Zl]
 refine ZU 180 _ rfl (fun z=>rfl) (fun z w'=>Zh) (fun g V hS=>?_)
 refine(ZbD p1 q1 _).mono ?_
 rintro e V' ⟨rfl,hb⟩
 refine .inl ⟨_,rfl,hS.step hb,?_⟩
 clear hb hS
 simp only[Act.put,Zl]
 refine ZU 104 _ rfl (fun z=>rfl) (fun z w'=>Zh) (fun g V hS=>?_)
 refine(ZdT HY.out HX.out H2.out rfl _ (HTW.out _ hS.bareG.base)).mono ?_
 rintro e V' ⟨rfl,hb⟩
 refine .inl ⟨_,rfl,hS.step hb,?_⟩
 clear hb hS
 simp only[Act.put,Zl]
 iterate 2
  refine ZS _ rfl (fun z=>rfl) (fun z j g w' hS=>Zg) ?_
  simp only[Act.put,Zl]
 refine ZU 180 _ rfl (fun z=>rfl) (fun z w'=>Zh) (fun g V hS=>?_)
 refine(ZbD p2 q2 _).mono ?_
 rintro e V' ⟨rfl,hb⟩
 refine .inl ⟨_,rfl,hS.step hb,?_⟩
 clear hb hS
 simp only[Act.put,Zl]
 refine ZU 169 _ rfl (fun z=>rfl) (fun z w'=>Zh) (fun g V hS=>?_)
 refine(ZiT H1.out H2.out H3.out HP.out rfl _ (HTW.out _ hS.bareG.base)).mono ?_
 rintro e V' ⟨rfl,hb⟩
 refine .inl ⟨_,rfl,hS.step hb,?_⟩
 clear hb hS
 simp only[Act.put,Zl]
 iterate 2
  refine ZS _ rfl (fun z=>rfl) (fun z j g w' hS=>Zg) ?_
  simp only[Act.put,Zl]
 refine ZU 180 _ rfl (fun z=>rfl) (fun z w'=>Zh) (fun g V hS=>?_)
 refine(ZbD p3 q3 _).mono ?_
 rintro e V' ⟨rfl,hb⟩
 refine .inl ⟨_,rfl,hS.step hb,?_⟩
 clear hb hS
 simp only[Act.put,Zl]
 refine ZaP fun g V hS=>?_
 simp only[Act.put,Zl]
 have HE8:Hid (Env w.heap.size w [(g,pObj Zpa Zpa),(G+1+1+1+1+1,pObj Zpa Zpa),(G+1+1+1+1,pObj ao ap),(G+1+1+1,pObj vs vt),(G+1+1,pObj us ut),(G+1,pObj ys yt),(G,pObj xs xt)] [] V):=hS
 have r0:=HE8.out.cell 0 0 rfl rfl
 have r1:=HE8.out.cell 0 1 rfl rfl
 have f0:=HE8.out.free 0 0 rfl
 have f1:=HE8.out.free 0 1 rfl
 refine ZB rfl rfl fun K hK=>?_
 go_simp
 have HE9:=Zpe ((HE8.out.fill (.string p3) (.string q3)).only [1,0,2,4,6] _ rfl Zd)
 refine hK _ _ (.inl rfl) ?_
 clear hK K r0 r1 f0 f1 HE8 HE0 hS
 refine ZD ?_
 obtain⟨Z,hZ⟩:=Zpg ((V.setCell ⟨g,0,none⟩ (.string p3)).setCell ⟨g,1,none⟩ (.string q3))
 rw[hZ] at HE9 ⊢
 clear hZ
 go_wp2_with fail
 refine ZP [(1,0),(1,1),(1,2),(1,3),(0,4),(1,5),(1,6),(0,7),(0,8),(1,9),(1,10),(0,11),(0,12),(1,13),(1,14),(0,15),(0,16)] (Env w.heap.size w [(G+1+1+1+1+1,pObj Zpa Zpa),(g,pObj p3 q3),(G+1+1+1+1,pObj ao ap),(G+1+1,pObj us ut),(G,pObj xs xt)] []) (fun i=>i==16)
  Zb Zb (fun j hj=>by have h:16<j:=hj;simp;omega) Zi HE9.out.drew ?_
 obtain⟨w4,hw4⟩:=Zpg Z.drew
 have HE4:=Zpe HE9.out.drew
 rw[hw4] at HE4 ⊢
 clear hw4 HE9
 iterate 4
  refine Zx _ rfl rfl (fun w' hS=>by have b0:=hS.cell 1 0 (v:=.string p3) rfl rfl;have b1:=hS.cell 1 1 (v:=.string q3) rfl rfl;have c0:=hS.cell 2 0 (v:=.string ao) rfl rfl;have c1:=hS.cell 2 1 (v:=.string ap) rfl rfl;have a0:=hS.cell 3 0 (v:=.string us) rfl rfl;have a1:=hS.cell 3 1 (v:=.string ut) rfl rfl;have d0:=hS.cell 4 0 (v:=.string xs) rfl rfl;have d1:=hS.cell 4 1 (v:=.string xt) rfl rfl;exact Ze) ?_
  simp only[Act.put,Zl]
 refine Zy 104 _ rfl rfl Zf ?_
 have HEC:=HE4
 refine(ZdT HA.out HX.out H4.out rfl _ (HTW.out _ HEC.out.base)).mono ?_
 rintro e w5 ⟨rfl,hb⟩
 have HE5:=Zpe (HEC.out.step hb)
 refine .inl ⟨_,rfl,HE5.out,?_⟩
 clear hb HEC
 simp only[Act.put,Zl]
 iterate 2
  refine Zx _ rfl rfl (fun w' hS=>Ze) ?_
  simp only[Act.put,Zl]
 refine Zy 180 _ rfl rfl Zf ?_
 have HEC:=HE5
 refine(ZbD p4 q4 _).mono ?_
 rintro e w6 ⟨rfl,hb⟩
 have HE6:=Zpe (HEC.out.step hb)
 refine .inl ⟨_,rfl,HE6.out,?_⟩
 clear hb HEC
 simp only[Act.put,Zl]
 refine Zy 119 _ rfl rfl Zf ?_
 have HEC:=HE6
 refine(ZdL H3.out H4.out H5.out rfl _ (HTW.out _ HEC.out.base)).mono ?_
 rintro e w7 ⟨rfl,hb⟩
 have HE7:=Zpe (HEC.out.step hb)
 refine .inl ⟨_,rfl,HE7.out,?_⟩
 clear hb HEC
 simp only[Act.put,Zl]
 iterate 2
  refine Zx _ rfl rfl (fun w' hS=>Ze) ?_
  simp only[Act.put,Zl]
 refine Zy 180 _ rfl rfl Zf ?_
 have HEC:=HE7
 refine(ZbD p5 q5 _).mono ?_
 rintro e w8 ⟨rfl,hb⟩
 have HE8:=Zpe (HEC.out.step hb)
 refine .inl ⟨_,rfl,HE8.out,?_⟩
 clear hb HEC
 simp only[Act.put,Zl]
 refine Zy 42 _ rfl rfl Zf ?_
 have HEC:=HE8
 refine(Zi1 HU.out H5.out H6.out rfl _ (HTW.out _ HEC.out.base)).mono ?_
 rintro e w9 ⟨rfl,hb⟩
 have HE9:=Zpe (HEC.out.step hb)
 refine .inl ⟨_,rfl,HE9.out,?_⟩
 clear hb HEC
 simp only[Act.put,Zl]
 iterate 2
  refine Zx _ rfl rfl (fun w' hS=>Ze) ?_
  simp only[Act.put,Zl]
 refine Zy 180 _ rfl rfl Zf ?_
 have HEC:=HE9
 refine(ZbD x y _).mono ?_
 rintro e w10 ⟨rfl,hb⟩
 have HE10:=Zpe (HEC.out.step hb)
 refine .inl ⟨_,rfl,HE10.out,?_⟩
 clear hb HEC
 simp only[Act.put,Zl]
 have r0:=HE10.out.cell 0 0 rfl rfl
 have r1:=HE10.out.cell 0 1 rfl rfl
 have f0:=HE10.out.free 0 0 rfl
 have f1:=HE10.out.free 0 1 rfl
 refine ZB rfl rfl fun K hK=>?_
 go_simp
 have HE11:=Zpe (HE10.out.fill (.string x) (.string y))
 refine hK _ _ (.inl rfl) ?_
 clear hK K r0 r1 f0 f1 HE4 HE5 HE6 HE7 HE8 HE9 HE10
 refine ZD ?_
 go_wp2
 have q0:=HE11.out.cell 0 0 (v:=.string x) rfl rfl
 have q1:=HE11.out.cell 0 1 (v:=.string y) rfl rfl
 exact Zor (v:=pV x y) (by simp[results,Tryz.f227,go_sem,q0,q1]) rfl ⟨rfl,HE11.out.base⟩
def ZnG (bs:List BB) (q:Rat) (w:World) (e:Ending) (w':World):Prop:=
 ∃ x y r,e=.returned (Zpb x y)/\ZY bs.length (cR bs) (hR bs) q r/\IsP r x y/\Below w.heap.size w w'
theorem Zk2 {v:Value} {bs:List BB} {w:World} {q:Rat} {s t:ByteArray} (hv:BL w v bs) (hC:CurveP bs) (hq:IsP q s t) (hz:Sz 300 q) (hT:Tabs w) :
  Calls Tryz.prog 204 #[v,Zpb s t] w (ZnG bs q w):=by
 have HQ:=Zpe hq
 have HZ:=Zpe hz
 have HC:=Zpe hC
 have HT:=Zpe hT
 have HV:=Zpe hv
 clear hq hz hC hT hv
 go_enter Tryz.func204,Tryz.ntmps204
 go_wp2_with fail
 have hb0:Below w.heap.size w ((w.alloc (pObj s t)).alloc (pObj Zpa Zpa)):=((Zoq _ w).alloc Zpf _).alloc Zc _
 refine(Zme (HV.out.after hb0 Zpf) HC.out HQ.out).mono ?_
 rintro e w2 ⟨i,j,inn,he,hA,hb⟩
 have HX:Zv w.heap.size [pObj s t,pObj Zpa Zpa] w2:=(Zv.two w _ _).below hb Zc
 have HB2:Zo8 w w2:=hb0.trans (hb.mono hb0.size)
 obtain⟨q0,hq0⟩:=Zpg (bAt bs i)
 obtain⟨q1,hq1⟩:=Zpg (bAt bs j)
 have HQ0:=Zpe hq0
 have HQ1:=Zpe hq1
 rw[hq0,hq1] at he
 obtain⟨⟨s0,t0⟩,u0,v0⟩:=q0
 obtain⟨⟨s1,t1⟩,u1,v1⟩:=q1
 subst he
 obtain⟨P,hP⟩:=Zpg w.heap.size
 obtain⟨G,hG⟩:=Zpg w2.heap.size
 have h0:w2.heap[P]?=some (pObj s t):=HX.block 0 Za rfl
 have h1:w2.heap[P+1]?=some (pObj Zpa Zpa):=HX.block 1 Za rfl
 have HPP:=Zpe hP
 have hPG:P+1<G:=by rw[<- hG];exact(Zo9 h1)
 clear hb hb0 HX hq0 hq1
 have hV0:((w2.alloc (bO s0 t0 u0 v0)).alloc (bO s1 t1 u1 v1)).heap[P]?=some (pObj s t):=((ZoG _ _ _ (by simp;omega)).trans (ZoG _ _ _ Za)).trans h0
 have hV1:((w2.alloc (bO s0 t0 u0 v0)).alloc (bO s1 t1 u1 v1)).heap[P+1]?=some (pObj Zpa Zpa):=((ZoG _ _ _ (by simp;omega)).trans (ZoG _ _ _ Za)).trans h1
 have HBV:Hid (Below w.heap.size w ((w2.alloc (bO s0 t0 u0 v0)).alloc (bO s1 t1 u1 v1))):=(HB2.out.alloc HB2.out.size _).alloc (by have:=HB2.out.size;simp;omega) _
 have c0:((w2.alloc (bO s0 t0 u0 v0)).alloc (bO s1 t1 u1 v1)).cell? ⟨P+1,0,none⟩=some (.string Zpa):=Zn hV1 0 rfl
 have c1:((w2.alloc (bO s0 t0 u0 v0)).alloc (bO s1 t1 u1 v1)).cell? ⟨P+1,1,none⟩=some (.string Zpa):=Zn hV1 1 rfl
 have f0:((w2.alloc (bO s0 t0 u0 v0)).alloc (bO s1 t1 u1 v1)).frozen? ⟨P+1,0,none⟩=false:=Zo hV1 0
 have f1:((w2.alloc (bO s0 t0 u0 v0)).alloc (bO s1 t1 u1 v1)).frozen? ⟨P+1,1,none⟩=false:=Zo hV1 1
 have d0:((w2.alloc (bO s0 t0 u0 v0)).alloc (bO s1 t1 u1 v1)).cell? ⟨P,0,none⟩=some (.string s):=Zn hV0 0 rfl
 have d1:((w2.alloc (bO s0 t0 u0 v0)).alloc (bO s1 t1 u1 v1)).cell? ⟨P,1,none⟩=some (.string t):=Zn hV0 1 rfl
 have HV1:=Zpe hV1
 clear h0 h1 hV0 hV1
 rcases hA with ⟨hp,⟨hi,rfl,rfl⟩ | ⟨hi,rfl,rfl⟩⟩
 ·have HPc:=Zpe hp
  have HI:=Zpe hi
  obtain⟨⟨x1,y1,j1⟩,⟨x2,y2,j2⟩,⟨x3,y3,j3⟩,⟨x4,y4,j4⟩,⟨x5,y5,j5⟩,⟨x,y,j6⟩,j7,j8⟩:=Ze1 HC.out HQ.out.nn HZ.out hp hi
  have hC0:=(HC.out.isC (i:=i) Za).1
  have hH0:=(HC.out.isH (i:=i) Za).1
  have hC1:=(HC.out.isC (i:=i+1) hi).1
  have hH1:=(HC.out.isH (i:=i+1) hi).1
  rw[HQ0.out] at hC0 hH0
  rw[HQ1.out] at hC1 hH1
  have j6':=j6
  rw[j7] at j6'
  have HR:=Zpe (Zm8 hC0 hC1 hH0 hH1 HQ.out j1 j2 j3 j8 j4 j5 j6' _ (HT.out.below HBV.out Zpf))
  have HA:Hid (ZY bs.length (cR bs) (hR bs) q (lin bs.length (cR bs) (hR bs) i q)):=⟨i,hp,rfl⟩
  have HJ:=Zpe j6
  clear hp hi j1 j2 j3 j4 j5 j6 j6' j7 j8 hC0 hH0 hC1 hH1
  rw[hP]
  go_wp2_with fail
  refine HR.out.mono ?_
  rintro e w5 ⟨rfl,hb⟩
  have hV5:w5.heap[P+1]?=some (pObj Zpa Zpa):=(hb.block _ (by simp;omega)).trans HV1.out
  have HB5:Zo8 w w5:=HBV.out.trans (hb.mono HBV.out.size)
  have HV5:=Zpe hV5
  clear c0 c1 f0 f1 d0 d1 hb HR
  have c0:w5.cell? ⟨P+1,0,none⟩=some (.string Zpa):=Zn hV5 0 rfl
  have c1:w5.cell? ⟨P+1,1,none⟩=some (.string Zpa):=Zn hV5 1 rfl
  have f0:w5.frozen? ⟨P+1,0,none⟩=false:=Zo hV5 0
  have f1:w5.frozen? ⟨P+1,1,none⟩=false:=Zo hV5 1
  clear hV5
  go_wp2
  obtain⟨q0,q1⟩:=Zu HV5.out (.string x) (.string y)
  refine Zor (v:=Zpb x y) (by simp[results,Tryz.f204,go_sem,q0,q1]) rfl ⟨x,y,_,rfl,HA.out,HJ.out,?_⟩
  have:=Zs HB5.out (b:=P+1) (by rw[HPP.out];omega) (.string x) (.string y)
  exact this
 ·have HA:Hid (ZY bs.length (cR bs) (hR bs) q (hR bs j)):=by
   refine⟨j,hp,?_⟩
   unfold lin slo
   rw[if_neg Za]
   grind
  have hH0:=(HC.out.isH (i:=j) Za).1
  rw[HQ0.out] at hH0
  have HH:=Zpe hH0
  clear hp hi hH0
  rw[hP]
  go_wp2
  obtain⟨q0,q1⟩:=Zu HV1.out (.string u0) (.string v0)
  refine Zor (v:=Zpb u0 v0) (by simp[results,Tryz.f204,go_sem,q0,q1]) rfl ⟨u0,v0,_,rfl,HA.out,HH.out,?_⟩
  have:=Zs HBV.out (b:=P+1) (by rw[HPP.out];omega) (.string u0) (.string v0)
  exact this
theorem ZlL (w:World) (s t:ByteArray):PL (w.alloc (Zpc s t)) (.slice (some ⟨w.heap.size,0,none⟩) 1 1) [(s,t)]:=by
 refine⟨_,1,rfl,Nat.le_refl _,by simp[maxLen],fun _=>⟨_,0,rfl,Zc,fun j hj=>?_⟩⟩
 obtain rfl:j=0:=by simpa using hj
 exact⟨ZK _ _ _ 0 rfl,ZK _ _ _ 1 rfl⟩
def Zg9 (bs:List BB) (q:Rat) (x y:ByteArray) (n:Int):Prop:=n=0/\∃ r,ZY bs.length (cR bs) (hR bs) q r/\IsP r x y
theorem Zjb {v:Value} {bs:List BB} {w:World} {q:Rat} {s t:ByteArray} (Bl Bc:Nat) (hl:w.heap[Bl]?=some (.cells #[v] 72)) (hc:w.heap[Bc]?=some (pObj s t)) (hv:BL w v bs) (hC:CurveP bs) (hq:IsP q s t) (hz:Sz 300 q) (hT:Tabs w) :
  Calls Tryz.prog 203 #[.pointer (some ⟨Bl,0,none⟩),.pointer (some ⟨Bc,0,none⟩)] w (Znn (Zg9 bs q) w):=by
 have hb0:Below w.heap.size w (w.alloc (pObj Zpa Zpa)):=(Zoq _ w).alloc Zpf _
 have HB0:=Zpe hb0
 have HR:=Zpe (Zk2 (hv.after hb0 Zpf) hC hq hz (hT.below hb0 Zpf))
 have l0:(w.alloc (pObj Zpa Zpa)).cell? ⟨Bl,0,none⟩=some v:=(Zaj _ _ _ (Zo9 hl)).trans (Zn hl 0 rfl)
 have c0:(w.alloc (pObj Zpa Zpa)).cell? ⟨Bc,0,none⟩=some (.string s):=(Zaj _ _ _ (Zo9 hc)).trans (Zn hc 0 rfl)
 have c1:(w.alloc (pObj Zpa Zpa)).cell? ⟨Bc,1,none⟩=some (.string t):=(Zaj _ _ _ (Zo9 hc)).trans (Zn hc 1 rfl)
 have HP:Hid ((w.alloc (pObj Zpa Zpa)).heap[w.heap.size]?=some (pObj Zpa Zpa)):=Zot w _
 clear hb0 hl hc hv hC hq hz hT
 go_enter Tryz.func203,Tryz.ntmps203
 go_wp2_with fail
 refine HR.out.mono ?_
 rintro e w2 ⟨x,y,r,rfl,hr,hx,hb⟩
 have h2:w2.heap[w.heap.size]?=some (pObj Zpa Zpa):=(hb.block _ Zc).trans HP.out
 have HB2:Zo8 w w2:=HB0.out.trans (hb.mono HB0.out.size)
 have HA:Hid (Zg9 bs q x y 0):=⟨rfl,r,hr,hx⟩
 have H2:=Zpe h2
 clear l0 c0 c1 hb hr hx HR HP
 have c0:w2.cell? ⟨w.heap.size,0,none⟩=some (.string Zpa):=Zn h2 0 rfl
 have c1:w2.cell? ⟨w.heap.size,1,none⟩=some (.string Zpa):=Zn h2 1 rfl
 have f0:w2.frozen? ⟨w.heap.size,0,none⟩=false:=Zo h2 0
 have f1:w2.frozen? ⟨w.heap.size,1,none⟩=false:=Zo h2 1
 clear h2
 go_wp2
 obtain⟨q0,q1⟩:=Zu H2.out (.string x) (.string y)
 exact Zor (v:=Zpb x y) (by simp[results,Tryz.f203,go_sem,q0,q1]) rfl ⟨x,y,0,.inl ⟨rfl,rfl⟩,HA.out,Zs HB2.out Zpf (.string x) (.string y)⟩
theorem ZeI {bs:List BB} {s t:ByteArray} : ZgM bs [(s,t)]<->(CurveP bs/\Zw 300 (s,t)=true):=by
 unfold ZgM
 simp
theorem ZjO {v:Value} {bs:List BB} {w:World} {s t:ByteArray} (hv:BL w v bs) (hz:LimB bs) (hs:s.size<=1000000) (ht:t.size<=1000000) (hD:DetV w) (hT:Tabs w) :
  Calls Tryz.prog 168 #[v,Zpb s t] w (ZL (Zbs bs s t) w):=by
 obtain⟨n,hn⟩:=Zpg bs.length
 obtain⟨p,c,rfl⟩:∃ p c,v=.slice p n c:=by obtain⟨p,c,h,_⟩:=id hv;exact⟨_,_,by rw[<- hn];exact h⟩
 clear hn
 obtain⟨w3,hw3⟩:=Zpg (((w.alloc (.cells #[.slice p n c] 72)).alloc (pObj s t)).alloc (pObj Zpa Zpa))
 have hs3:w3.heap.size=w.heap.size+3:=by rw[<- hw3];simp
 have HX:Hid (Zv w.heap.size [.cells #[.slice p n c] 72,pObj s t,pObj Zpa Zpa] w3):=by rw[<- hw3];exact Zv.three w _ _ _
 have HB3:Zo8 w w3:=by rw[<- hw3];exact(((Zoq _ w).alloc Zpf _).alloc Zc _).alloc (by simp<;>omega) _
 have hb4:Below w3.heap.size w3 (w3.alloc (Zpc s t)):=(Zoq _ w3).alloc Zpf _
 have HB4:Hid (Below w.heap.size w (w3.alloc (Zpc s t))):=HB3.out.trans (hb4.mono HB3.out.size)
 have hlim:LimP [(s,t)]:=fun p hp=>by
  rw[List.mem_singleton] at hp
  subst hp
  exact⟨hs,ht⟩
 have HR:=Zpe (Zla (hv.after HB4.out Zpf) hz (ZlL w3 s t) hlim (hD.below HB4.out Zpf) (hT.below HB4.out Zpf))
 rw[hs3] at HR
 have HX4:=Zpe (HX.out.below hb4 (by rw[hs3];exact Nat.le_refl _))
 have HV:=Zpe hv
 have HT:=Zpe hT
 have l0:w3.cell? ⟨w.heap.size,0,none⟩=some (.slice p n c):=HX.out.cell 0 0 rfl rfl rfl
 have d0:w3.cell? ⟨w.heap.size+1,0,none⟩=some (.string s):=HX.out.cell 1 0 rfl rfl rfl
 have d1:w3.cell? ⟨w.heap.size+1,1,none⟩=some (.string t):=HX.out.cell 1 1 rfl rfl rfl
 have hs3':=hs3
 rw[<- hw3] at l0 d0 d1 HR HX4 HB4 hs3'
 clear hv hz hD hT hb4 hw3 hs hs3 HB3 HX hlim ht
 go_enter Tryz.func168,Tryz.ntmps168
 go_wp2_with fail
 refine HR.out.mono ?_
 rintro e w5 ⟨hE,hb⟩
 have HX5:=Zpe (HX4.out.below hb Zc)
 have HB5:=Zpe (HB4.out.trans (hb.mono HB4.out.size))
 clear l0 d0 d1 hb HR HX4 HB4
 have c0:w5.cell? ⟨w.heap.size+1+1,0,none⟩=some (.string Zpa):=HX5.out.cell 2 0 rfl rfl rfl
 have c1:w5.cell? ⟨w.heap.size+1+1,1,none⟩=some (.string Zpa):=HX5.out.cell 2 1 rfl rfl rfl
 have f0:w5.frozen? ⟨w.heap.size+1+1,0,none⟩=false:=HX5.out.free 2 0 rfl rfl
 have f1:w5.frozen? ⟨w.heap.size+1+1,1,none⟩=false:=HX5.out.free 2 1 rfl rfl
 have hl5:=HX5.out.lt
 rcases hE with ⟨hr,rfl⟩ | ⟨hr,rfl⟩
 ·have HRP:=Zpe (ZeI.1 hr)
  have hsm:=Zbw (ZeI.1 hr).2
  have HTR:Hid (Calls Tryz.prog 183 #[.func (.func 203) #[] #[.pointer (some ⟨w.heap.size,0,none⟩),.pointer (some ⟨w.heap.size+1,0,none⟩)]] w5 (ZL (Zg9 bs (ratP s t)) w5)):=
   Zkt (enters_of Tryz.func203 Zb rfl) fun W hW=>by
    have hx:=HX5.out.below hW (by simpa using hl5)
    have hbw:=HB5.out.trans (hW.mono HB5.out.size)
    exact Zjb w.heap.size (w.heap.size+1) (hx.block 0 rfl rfl) (hx.block 1 rfl rfl) (HV.out.after hbw Zpf) HRP.out.1 hsm.1 hsm.2 (HT.out.below hbw Zpf)
  clear hr hsm HV HT
  go_wp2_with fail
  refine HTR.out.mono ?_
  rintro e w7 ⟨x,y,m,rfl,⟨rfl,hA⟩,hb⟩
  have HA:Hid (Zbs bs s t x y 0):=.inr ⟨HRP.out,rfl,hA⟩
  have HX7:=Zpe (HX5.out.below hb (by simpa using hl5))
  have HB7:=Zpe (HB5.out.trans (hb.mono HB5.out.size))
  clear c0 c1 f0 f1 hb hA hl5 HTR
  have c0:w7.cell? ⟨w.heap.size+1+1,0,none⟩=some (.string Zpa):=HX7.out.cell 2 0 rfl rfl rfl
  have c1:w7.cell? ⟨w.heap.size+1+1,1,none⟩=some (.string Zpa):=HX7.out.cell 2 1 rfl rfl rfl
  have f0:w7.frozen? ⟨w.heap.size+1+1,0,none⟩=false:=HX7.out.free 2 0 rfl rfl
  have f1:w7.frozen? ⟨w.heap.size+1+1,1,none⟩=false:=HX7.out.free 2 1 rfl rfl
  go_wp2
  obtain⟨q0,q1⟩:=Zu (HX7.out.block 2 (b:=w.heap.size+1+1) rfl rfl) (.string x) (.string y)
  exact Zor (v:=.tuple #[Zpb x y,.int .i64 0]) (by simp[results,Tryz.f168,go_sem,q0,q1]) rfl ⟨x,y,0,rfl,HA.out,Zs HB7.out (by show _<=_;omega) (.string x) (.string y)⟩
 ·have HA:Hid (Zbs bs s t Zpa Zpa 2):=.inl ⟨fun h=>hr (ZeI.2 h),rfl,rfl,rfl⟩
  clear hr HV HT hl5
  go_wp2
  obtain⟨q0,q1⟩:=Zu (HX5.out.block 2 (b:=w.heap.size+1+1) rfl rfl) (.string Zpa) (.string Zpa)
  exact Zor (v:=.tuple #[Zpb Zpa Zpa,.int .i64 2]) (by simp[results,Tryz.f168,go_sem,q0,q1]) rfl ⟨Zpa,Zpa,2,rfl,HA.out,Zs HB5.out (by show _<=_;omega) (.string Zpa) (.string Zpa)⟩
end Go.Proofs.YtmpaflidennnoaaGreatDoor
