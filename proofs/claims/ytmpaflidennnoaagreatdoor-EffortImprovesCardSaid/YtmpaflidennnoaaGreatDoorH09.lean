/- The parts FloatZ, EnvZ, Along, DChance, DChance2, RNum, RTrim, RParts, RDigits, RAppend, ROrder. -/
import Derived.Test.YtmpaflidennnoaaGreatDoorH08
import Derived.Laws.AppendOwnNone
set_option maxRecDepth 100000
set_option maxHeartbeats 4000000
set_option linter.unusedVariables false
set_option linter.unusedSimpArgs false
namespace Go.Proofs.YtmpaflidennnoaaGreatDoor
open Go.RowKit Go.Shelf
attribute [local go_sem ↓] Go.wp_at_zero Go.wp_at_succ
theorem ZdG (a:Act) (d:Nat):a.put (some d) (a.tmps.getD d undef)=a:=by
 obtain⟨t,ds⟩:=a
 simp only[Act.put]
 congr 1
 rcases ZoR d t.size with h | h
 ·simp[Array.getD,h,Array.setIfInBounds]
 ·simp[Array.setIfInBounds,Nat.not_lt.2 h]
theorem ZbX (a:Act) (d:Nat) (u v:Value):(a.put (some d) u).put (some d) v=a.put (some d) v:=by
 simp[Act.put]
theorem ZE (a:Act) (d:Nat) (e:Option Tmp) (h:e≠some d) (u v:Value):(a.put (some d) u).put e v=(a.put e v).put (some d) u:=by
 cases e with
 | none=>rfl
 | some e=>
  have he:d≠e:=fun h2=>h (by rw[h2])
  simp only[Act.put]
  congr 1
  exact Array.setIfInBounds_comm _ _ he
section
variable {P:Program} {ops:Array Oper} {Q:Exit->Act->World->Prop} {md:Region.Mode} {ι:Type} {S:ι->Option Nat->World->Prop} {bar:Nat->Bool}
def AnyS (S:ι->Option Nat->World->Prop) (w:World):Prop:=∃ j g,S j g w
def ZaT (P:Program) (ops:Array Oper) (Q:Exit->Act->World->Prop) (S:ι->Option Nat->World->Prop) (bar:Nat->Bool) (d:Nat) (tl:List (Nat×Nat)):List (Nat×Nat)->ι->Act->Prop
 | [],j,a=>∀ G w,S j (some G) w->Zah P ops Q (AnyS S) bar tl (a.put (some d) (.pointer (some ⟨G,0,none⟩))) w
 | (1,i)::ks,j,a=>∃ o v,ops[i]?=some o/\(∀ z,YieldsIf P ops (AnyS S) o v (a.put (some d) z))/\ZaT P ops Q S bar d tl ks j (a.put o.dst v)
 | (0,i)::ks,j,a=>∃ o,ops[i]?=some o/\(((∀ z,Region.wanted o (yielded ops (a.put (some d) z).tmps)=true)/\∀ z g w,S j g w->o.wp P (a.put (some d) z) w (fun a' w'=>∃ v j',a'=(a.put (some d) z).put o.dst v/\S j' g w'/\ZaT P ops Q S bar d tl ks j' (a.put o.dst v)) Q)\/
   ((∀ z,Region.wanted o (yielded ops (a.put (some d) z).tmps)=false)/\ZaT P ops Q S bar d tl ks j (a.put o.dst undef)))
 | (_+2,i)::ks,j,a=>∃ o v,ops[i]?=some o/\(∀ z,YieldsIf P ops (fun _=>True) o v (a.put (some d) z))/\ZaT P ops Q S bar d tl ks j (a.put o.dst v)
def ZaP (ops:Array Oper) (fl d:Nat):Bool:=(List.range ops.size).all fun i=>decide (i=fl) || match ops[i]? with | some o=>decide (o.dst≠some d) | none=>true
theorem ZD {fl d i:Nat} {o:Oper} (h:ZaP ops fl d=true) (hi:ops[i]?=some o) (hne:i≠fl):o.dst≠some d:=by
 unfold ZaP at h
 rw[Zpo] at h
 have:=h i (List.mem_range.2 (Zpu hi))
 rw[hi] at this
 simpa[hne] using this
theorem Za9 {fl d:Nat} (hs:ZaP ops fl d=true) {tl:List (Nat×Nat)} : ∀ (ks:List (Nat×Nat)) (j:ι) (a:Act) (G:Nat) (w:World),(ks.all fun k=>decide (k.2≠fl))=true->S j (some G) w->ZaT P ops Q S bar d tl ks j a->
  Zah P ops Q (AnyS S) bar (ks++tl) (a.put (some d) (.pointer (some ⟨G,0,none⟩))) w
 | [],j,a,G,w,_,hS,h=>h G w hS
 | (1,i)::ks,j,a,G,w,hk,hS,h=>by
  simp only[List.all_cons,Zpj,Zpk] at hk
  obtain⟨o,v,h0,hy,hrest⟩:=h
  refine⟨o,v,h0,hy _,?_⟩
  rw[ZE _ _ _ (ZD hs h0 hk.1)]
  exact Za9 hs ks j _ G w hk.2 hS hrest
 | (0,i)::ks,j,a,G,w,hk,hS,h=>by
  simp only[List.all_cons,Zpj,Zpk] at hk
  obtain⟨o,h0,h⟩:=h
  refine⟨o,h0,?_⟩
  rcases h with ⟨hw,h⟩ | ⟨hw,h⟩
  ·rw[if_pos (hw _)]
   refine Oper.wp_mono (fun a' w' h'=>?_) (h _ _ _ hS)
   obtain⟨v,j',rfl,hS',hrest⟩:=h'
   refine⟨.inr ⟨_,_,hS'⟩,?_⟩
   rw[ZE _ _ _ (ZD hs h0 hk.1)]
   exact Za9 hs ks j' _ G w' hk.2 hS' hrest
  ·rw[if_neg (by rw[hw];exact Bool.false_ne_true)]
   refine⟨.inr ⟨_,_,hS⟩,?_⟩
   rw[ZE _ _ _ (ZD hs h0 hk.1)]
   exact Za9 hs ks j _ G w hk.2 hS h
 | (n+2,i)::ks,j,a,G,w,hk,hS,h=>by
  simp only[List.all_cons,Zpj,Zpk] at hk
  obtain⟨o,v,h0,hy,hrest⟩:=h
  refine⟨o,v,h0,hy _,?_⟩
  rw[ZE _ _ _ (ZD hs h0 hk.1)]
  exact Za9 hs ks j _ G w hk.2 hS hrest
def Zch (md:Region.Mode) (ops:Array Oper) (bar:Nat->Bool) (fl:Nat) (tl:List (Nat×Nat)):List (Nat×Nat)->Array Bool->Bool
 | [],listed=>decide (Region.ready md ops listed=[fl]) && Zbk md ops bar tl (listed.setIfInBounds fl true)
 | (1,k)::ks,listed=>(Region.ready md ops listed).contains k && Region.free md ops listed k && !bar k && ((List.range ops.size).all fun j=>!bar j || decide (j=k) || Zcm md ops ops.size j k) && Zch md ops bar fl tl ks (listed.setIfInBounds k true)
 | (0,k)::ks,listed=>(Region.ready md ops listed).contains k && (Region.ready md ops listed).all (fun j=>decide (j=k) || decide (j=fl)) && Zbk md ops bar (((0,k)::ks)++tl) (listed.setIfInBounds fl true) && Zch md ops bar fl tl ks (listed.setIfInBounds k true)
 | (_+2,k)::ks,listed=>(Region.ready md ops listed).contains k && Region.free md ops listed k && bar k && Zch md ops bar fl tl ks (listed.setIfInBounds k true)
theorem ZbG {i:Nat} {o:Oper} {K:Act->World->Prop} {a:Act} {w:World} (h0:ops[i]?=some o) (hw:Region.wanted o (yielded ops a.tmps)=true) (h:o.wp P a w K Q):wpOp P ops Q i K a w:=by
 unfold wpOp
 simp only[h0]
 simp only[hw,if_true]
 exact .inl h
theorem Zhk {i:Nat} {o:Oper} {K:Act->World->Prop} {a:Act} {w:World} (h0:ops[i]?=some o) (hw:Region.wanted o (yielded ops a.tmps)=false) (h:K (a.put o.dst undef) w):wpOp P ops Q i K a w:=by
 unfold wpOp
 simp only[h0]
 simp only[hw]
 exact h
theorem ZbS (hsel:Region.noSelect ops=true) (hQ:∀ c a o v w,Q (.panic c) (a.put o v) w->Q (.panic c) a w) (hbo:∀ j,ops.size<=j->bar j=false) {fl d:Nat} {tl:List (Nat×Nat)} {of:Oper} {ob:Obj} (hof:ops[fl]?=some of) (hd:of.dst=some d)
  (hwf:∀ a:Act,Region.wanted of (yielded ops a.tmps)=true) (hal:∀ (a:Act) (w:World) (K:Act->World->Prop),K (a.put of.dst (.pointer (some ⟨w.heap.size,0,none⟩))) (w.alloc ob)->of.wp P a w K Q) (hst:∀ j w,S j none w->S j (some w.heap.size) (w.alloc ob)) (hs:ZaP ops fl d=true) :
  ∀ (ks:List (Nat×Nat)) (listed:Array Bool) (j:ι) (a:Act) (z:Value) (w:World),(ks.all fun k=>decide (k.2≠fl))=true->Zch md ops bar fl tl ks listed=true->Zao md ops listed->S j none w->ZaT P ops Q S bar d tl ks j a->
   wpJ P md ops Q (AnyS S) bar ((ks.length+tl.length)+1) listed (a.put (some d) z) w
 | [],listed,j,a,z,w,_,hB,hC,hS,h=>by
  simp only[Zch,Zpj,Zpk] at hB
  obtain⟨hr,hr2⟩:=hB
  refine⟨fun h1=>(by rw[hr] at h1;cases h1),fun i hi=>?_⟩
  have hi0:=hi
  rw[hr] at hi
  obtain rfl:i=fl:=by simpa using hi
  refine ZbG hof (hwf _) (hal _ _ _ ?_)
  have hS':=hst j w hS
  refine⟨.inr ⟨_,_,hS'⟩,?_⟩
  have h2:=h w.heap.size _ hS'
  rw[hd,ZbX]
  have:=ZaF (md:=md) hsel hQ hbo tl _ _ _ hr2 (hC.step hi0) (.inl ⟨_,_,hS'⟩) h2
  simpa using this
 | (1,k)::ks,listed,j,a,z,w,hk,hB,hC,hS,h=>by
  simp only[List.all_cons,Zpj,Zpk] at hk
  simp only[Zch,Zpj] at hB
  obtain⟨⟨⟨⟨hr,hf⟩,hbk⟩,hw⟩,hB'⟩:=hB
  obtain⟨o,v,h0,hy,hrest⟩:=h
  have hbk':bar k=false:=by simpa using hbk
  have hwait:Zcl md ops bar k:=fun j hj hne=>by
   have hjl:j<ops.size:=by
    rcases ZoR j ops.size with h' | h'
    ·exact h'
    ·rw[hbo j h'] at hj;cases hj
   rw[Zpo] at hw
   have:=hw j (List.mem_range.2 hjl)
   rw[hj] at this
   simpa[hne] using this
  have ih:=ZbS hsel hQ hbo hof hd hwf hal hst hs ks (listed.setIfInBounds k true) j (a.put o.dst v) z w hk.2 hB' (hC.step (by simpa using hr)) hS hrest
  rw[<- ZE _ _ _ (ZD hs h0 hk.1)] at ih
  have e:((1,k)::ks).length+tl.length+1=(ks.length+tl.length+1)+1:=by simp only[Zpl];omega
  rw[e]
  exact Zb8 h0 hsel (fun c a w=>hQ c a o.dst v w) hwait hbk' _ listed _ w hC (Region.free_spec h0 hf) (by simpa using hr) (hy _) ⟨_,_,hS⟩ ih
 | (0,k)::ks,listed,j,a,z,w,hk,hB,hC,hS,h=>by
  have hk0:=hk
  simp only[List.all_cons,Zpj,Zpk] at hk
  have h':=h
  simp only[Zch,Zpj] at hB
  obtain⟨⟨⟨hr,hall⟩,hB1⟩,hB2⟩:=hB
  obtain⟨o,h0,h⟩:=h
  have e:((0,k)::ks).length+tl.length+1=(ks.length+tl.length+1)+1:=by simp only[Zpl];omega
  rw[e]
  refine⟨fun h1=>(by rw[h1] at hr;simp at hr),fun i hi=>?_⟩
  rw[Zpo] at hall
  have hik:=hall i hi
  simp only[Bool.or_eq_true,Zpk] at hik
  by_cases ek:i=k
  ·subst ek
   rcases h with ⟨hw,h⟩ | ⟨hw,h⟩
   ·refine ZbG h0 (hw _) (Oper.wp_mono (fun a' w' h''=>?_) (h _ _ _ hS))
    obtain⟨v,j',rfl,hS',hrest⟩:=h''
    refine⟨.inr ⟨_,_,hS'⟩,?_⟩
    rw[ZE _ _ _ (ZD hs h0 hk.1)]
    exact ZbS hsel hQ hbo hof hd hwf hal hst hs ks _ j' _ z w' hk.2 hB2 (hC.step hi) hS' hrest
   ·refine Zhk h0 (hw _) ⟨.inr ⟨_,_,hS⟩,?_⟩
    rw[ZE _ _ _ (ZD hs h0 hk.1)]
    exact ZbS hsel hQ hbo hof hd hwf hal hst hs ks _ j _ z w hk.2 hB2 (hC.step hi) hS h
  ·have e2:i=fl:=by
    rcases hik with h | h
    ·exact Zpp h ek
    ·exact h
   subst e2
   refine ZbG hof (hwf _) (hal _ _ _ ?_)
   have hS':=hst j w hS
   refine⟨.inr ⟨_,_,hS'⟩,?_⟩
   rw[hd,ZbX]
   have hp:=Za9 hs ((0,k)::ks) j a w.heap.size _ hk0 hS' h'
   have:=ZaF (md:=md) hsel hQ hbo _ _ _ _ hB1 (hC.step hi) (.inl ⟨_,_,hS'⟩) hp
   have e3:(((0,k)::ks)++tl).length=ks.length+tl.length+1:=by simp only[Zo2,Zpl];omega
   rwa [e3] at this
 | (n+2,k)::ks,listed,j,a,z,w,hk,hB,hC,hS,h=>by
  simp only[List.all_cons,Zpj,Zpk] at hk
  simp only[Zch,Zpj] at hB
  obtain⟨⟨⟨hr,hf⟩,hbk⟩,hB'⟩:=hB
  obtain⟨o,v,h0,hy,hrest⟩:=h
  have ih:=ZbS hsel hQ hbo hof hd hwf hal hst hs ks (listed.setIfInBounds k true) j (a.put o.dst v) z w hk.2 hB' (hC.step (by simpa using hr)) hS hrest
  rw[<- ZE _ _ _ (ZD hs h0 hk.1)] at ih
  have e:((n+2,k)::ks).length+tl.length+1=(ks.length+tl.length+1)+1:=by simp only[Zpl];omega
  rw[e]
  exact Zdf h0 hsel (fun c a w=>hQ c a o.dst v w) hbk _ listed _ w (Region.free_spec h0 hf) (by simpa using hr) (hy _) ih
def Zgm (l:List Oper) (fl d:Nat) (tl:List (Nat×Nat)) (ks:List (Nat×Nat)) (bar:Nat->Bool):Bool:=
 Region.noSelect l.toArray && decide ((ks.length+tl.length)+1=l.length) && Zch .any l.toArray bar fl tl ks (Array.replicate l.toArray.size false) && ZaP l.toArray fl d && ks.all fun k=>decide (k.2≠fl)
theorem Zh0 {id:Nat} {a:Act} {w:World} {l:List Oper} (fl d:Nat) (tl:List (Nat×Nat)) (ks:List (Nat×Nat)) (S:ι->Option Nat->World->Prop) (j0:ι) (bar:Nat->Bool) {of:Oper} {ob:Obj} (hm:P.follows .mixedOrders=true)
  (hB:Zgm l fl d tl ks bar=true) (hbo:∀ j,l.length<=j->bar j=false) (hQ:∀ c a o v w,Q (.panic c) (a.put o v) w->Q (.panic c) a w) (hof:l.toArray[fl]?=some of) (hd:of.dst=some d) (hwf:∀ a:Act,Region.wanted of (yielded l.toArray a.tmps)=true)
  (hal:∀ (a:Act) (w:World) (K:Act->World->Prop),K (a.put of.dst (.pointer (some ⟨w.heap.size,0,none⟩))) (w.alloc ob)->of.wp P a w K Q) (hst:∀ j w,S j none w->S j (some w.heap.size) (w.alloc ob)) (hS:S j0 none w.drew)
  (H:ZaT P l.toArray Q S bar d tl ks j0 a):(Code.region id l.toArray true).wp P Q a w:=by
 simp only[Zgm,Zpj,Zpk] at hB
 obtain⟨⟨⟨⟨hsel,hn⟩,hb⟩,hs⟩,hk⟩:=hB
 have:=ZbP _ _ _ _ (ZbS (md:=.any) hsel hQ (fun j hj=>hbo j (by simpa using hj)) hof hd hwf hal hst hs ks _ j0 a (a.tmps.getD d undef) w.drew hk hb Zao.start hS H)
 rw[hn,ZdG] at this
 exact wp_region_any hm (by simpa using this)
theorem Za5 {id:Nat} {a:Act} {w:World} {l:List Oper} (fl d:Nat) (tl:List (Nat×Nat)) (ks:List (Nat×Nat)) (S:Nat->Option Nat->World->Prop) (bar:Nat->Bool) {of:Oper} {ob:Obj} (hm:P.follows .mixedOrders=true)
  (hB:Zgm l fl d tl ks bar=true) (hbo:∀ j,l.length<=j->bar j=false) (hQ:∀ c a o v w,Q (.panic c) (a.put o v) w->Q (.panic c) a w) (hof:l.toArray[fl]?=some of) (hd:of.dst=some d) (hwf:∀ a:Act,Region.wanted of (yielded l.toArray a.tmps)=true)
  (hal:∀ (a:Act) (w:World) (K:Act->World->Prop),K (a.put of.dst (.pointer (some ⟨w.heap.size,0,none⟩))) (w.alloc ob)->of.wp P a w K Q) (hst:∀ j w,S j none w->S j (some w.heap.size) (w.alloc ob)) (hS:S 0 none w.drew)
  (H:ZaT P l.toArray Q S bar d tl ks 0 a):(Code.region id l.toArray true).wp P Q a w:=Zh0 fl d tl ks S 0 bar hm hB hbo hQ hof hd hwf hal hst hS H
theorem Z4 {i d:Nat} {j:ι} {tl:List (Nat×Nat)} {o:Oper} {ks:List (Nat×Nat)} {a:Act} (v:Value) (ho:ops[i]?=some o) (hw:∀ z,Region.wanted o (yielded ops (a.put (some d) z).tmps)=true) (hv:∀ z j g w,S j g w->(execOp (a.put (some d) z).eval o).run P w=.ok (.value v) w)
  (h:ZaT P ops Q S bar d tl ks j (a.put o.dst v)):ZaT P ops Q S bar d tl ((1,i)::ks) j a:=⟨o,v,ho,fun z=>.inl ⟨hw z,fun w ⟨j,g,hS⟩=>hv z j g w hS⟩,h⟩
theorem ZfV {i d:Nat} {j:ι} {tl:List (Nat×Nat)} {o:Oper} {ks:List (Nat×Nat)} {a:Act} (v:Value) (ho:ops[i]?=some o) (hw:∀ z,Region.wanted o (yielded ops (a.put (some d) z).tmps)=true) (hv:∀ z w,(execOp (a.put (some d) z).eval o).run P w=.ok (.value v) w)
  (h:ZaT P ops Q S bar d tl ks j (a.put o.dst v)):ZaT P ops Q S bar d tl ((2,i)::ks) j a:=⟨o,v,ho,fun z=>.inl ⟨hw z,fun w _=>hv z w⟩,h⟩
theorem ZiX {i d:Nat} {j:ι} {tl:List (Nat×Nat)} {o:Oper} {ks:List (Nat×Nat)} {a:Act} (f:FuncId) (args:Array Value) (ho:ops[i]?=some o) (hw:∀ z,Region.wanted o (yielded ops (a.put (some d) z).tmps)=true)
  (he:∀ z w,(execOp (a.put (some d) z).eval o).run P w=.ok (.enter f args) w)
  (h:∀ g w,S j g w->Calls P f args w fun e w'=>(∃ v j',e=.returned v/\S j' g w'/\ZaT P ops Q S bar d tl ks j' (a.put o.dst v))\/∃ c,e=.panicked c/\∀ z,Q (.panic c) (a.put (some d) z) w') :
  ZaT P ops Q S bar d tl ((0,i)::ks) j a:=⟨o,ho,.inl ⟨hw,fun z g w hS=>by
   unfold Oper.wp
   rw[he z w,Oper.upon_enter]
   refine(h g w hS).mono fun e w' h=>?_
   rcases h with ⟨v,j',rfl,h1,h2⟩ | ⟨c,rfl,h1⟩
   ·exact⟨v,j',rfl,h1,h2⟩
   ·exact h1 _⟩⟩
theorem Z6 {S:Nat->Option Nat->World->Prop} {i d j:Nat} {tl:List (Nat×Nat)} {o:Oper} {ks:List (Nat×Nat)} {a:Act} (f:FuncId) (args:Array Value) (ho:ops[i]?=some o) (hw:∀ z,Region.wanted o (yielded ops (a.put (some d) z).tmps)=true)
  (he:∀ z w,(execOp (a.put (some d) z).eval o).run P w=.ok (.enter f args) w)
  (h:∀ g w,S j g w->Calls P f args w fun e w'=>(∃ v,e=.returned v/\S (j+1) g w'/\ZaT P ops Q S bar d tl ks (j+1) (a.put o.dst v))\/∃ c,e=.panicked c/\∀ z,Q (.panic c) (a.put (some d) z) w') :
  ZaT P ops Q S bar d tl ((0,i)::ks) j a:=ZiX f args ho hw he fun g w hS=>(h g w hS).mono fun _ _ h=>h.imp (fun⟨v,h⟩=>⟨v,j+1,h⟩) id
theorem ZbH {d:Nat} {j:ι} {tl:List (Nat×Nat)} {a:Act} (h:∀ G w,S j (some G) w->Zah P ops Q (AnyS S) bar tl (a.put (some d) (.pointer (some ⟨G,0,none⟩))) w):ZaT P ops Q S bar d tl [] j a:=h
theorem Zz {S:World->Prop} {i:Nat} {o:Oper} {ks:List (Nat×Nat)} {a:Act} {w:World} (f:FuncId) (args:Array Value) (ho:ops[i]?=some o) (hw:Region.wanted o (yielded ops a.tmps)=true)
  (he:(execOp a.eval o).run P w=.ok (.enter f args) w)
  (h:Calls P f args w fun e w'=>(∃ v,e=.returned v/\S w'/\Zah P ops Q S bar ks (a.put o.dst v) w')\/∃ c,e=.panicked c/\Q (.panic c) a w') :
  Zah P ops Q S bar ((0,i)::ks) a w:=by
 refine⟨o,ho,?_⟩
 rw[if_pos hw]
 unfold Oper.wp
 rw[he,Oper.upon_enter]
 refine h.mono fun e w' h=>?_
 rcases h with ⟨v,rfl,h1,h2⟩ | ⟨c,rfl,h1⟩
 ·exact⟨.inr h1,h2⟩
 ·exact h1
end
abbrev Zc5 (ob:Obj) (bs:List (Nat×Obj)) (g:Option Nat):List (Nat×Obj):=match g with | none=>bs | some G=>(G,ob)::bs
theorem Env.bareG {B:Nat} {w0 w:World} {bs:List (Nat×Obj)} {ps:List SP} {ob:Obj} {g:Option Nat} (h:Env B w0 (Zc5 ob bs g) ps w):Env B w0 bs ps w:=by
 cases g with
 | none=>exact h
 | some G=>exact h.tail
theorem ZmS {X Y U V A:Rat} {xs xt ys yt us ut vs vt ao ap p1 q1 p2 q2 p3 q3 p4 q4 p5 q5 x y:ByteArray} (hx:IsP X xs xt) (hy:IsP Y ys yt) (hu:IsP U us ut) (hv:IsP V vs vt) (ha:IsP A ao ap)
  (h1:IsP (V-U) p1 q1) (h2:IsP (Y-X) p2 q2) (h3:IsP ((V-U)/(Y-X)) p3 q3) (hp:0<Y-X) (h4:IsP (A-X) p4 q4) (h5:IsP ((V-U)/(Y-X)*(A-X)) p5 q5) (h6:IsP (U+(V-U)/(Y-X)*(A-X)) x y)
  (w:World) (hT:Tabs w):Calls Tryz.prog 227 #[pV xs xt,pV ys yt,pV us ut,pV vs vt,pV ao ap] w (Z1 (pV x y) w):=by
 have HX:=Zpz hx
 have HY:=Zpz hy
 have HU:=Zpz hu
 have HV:=Zpz hv
 have HA:=Zpz ha
 have H1:=Zpz h1
 have H2:=Zpz h2
 have H3:=Zpz h3
 have H4:=Zpz h4
 have H5:=Zpz h5
 have H6:=Zpz h6
 have HP:=Zpz hp
 have HT:=Zpz hT
 clear hx hy hu hv ha h1 h2 h3 h4 h5 h6 hp hT
 obtain⟨G,hG⟩:=ZpB w.heap.size
 obtain⟨W,hW⟩:=ZpB ((((((w.alloc (pObj xs xt)).alloc (pObj ys yt)).alloc (pObj us ut)).alloc (pObj vs vt)).alloc (pObj ao ap)).alloc (pObj Zpv Zpv))
 have HE0:Hid (Env w.heap.size w [(G+1+1+1+1+1,pObj Zpv Zpv),(G+1+1+1+1,pObj ao ap),(G+1+1+1,pObj vs vt),(G+1+1,pObj us ut),(G+1,pObj ys yt),(G,pObj xs xt)] [] W):=by
  rw[<- hW]
  exact((((((Env.start w).push _ hG.symm).push _ (by simp[hG])).push _ (by simp[hG])).push _ (by simp[hG])).push _ (by simp[hG])).push _ (by simp[hG])
 have HTW:Hid (∀ V,Below w.heap.size w V->Tabs V):=fun V hV=>HT.out.below hV ZpA
 go_enter Tryz.func227,Tryz.ntmps227
 go_wp2_with fail
 try rw[hW]
 try rw[hG]
 clear hW hG
 refine Za5 16 11 [(0,17)] [(1,0),(1,1),(1,6),(1,7),(0,2),(1,3),(1,4),(0,5),(0,8),(1,9),(1,10),(0,11),(0,12),(1,13),(1,14),(0,15)] (fun _ g V=>Env w.heap.size w (Zc5 (pObj Zpv Zpv) [(G+1+1+1+1+1,pObj Zpv Zpv),(G+1+1+1+1,pObj ao ap),(G+1+1+1,pObj vs vt),(G+1+1,pObj us ut),(G+1,pObj ys yt),(G,pObj xs xt)] g) [] V) (fun i=>i==17)
  Zb Zb (fun j hj=>by have h:17<j:=hj;simp;omega) Zi rfl rfl (fun _=>rfl) (fun a V K hK=>by go_simp;exact hK) (fun j V h=>h.push _ rfl) HE0.out.drew ?_
 iterate 4
  refine Z4 _ rfl (fun z=>rfl) (fun z j g w' hS=>by have hE:=hS.bareG;have a0:=hE.cell 2 0 (v:=.string vs) rfl rfl;have a1:=hE.cell 2 1 (v:=.string vt) rfl rfl;have b0:=hE.cell 3 0 (v:=.string us) rfl rfl;have b1:=hE.cell 3 1 (v:=.string ut) rfl rfl;have c0:=hE.cell 4 0 (v:=.string ys) rfl rfl;have c1:=hE.cell 4 1 (v:=.string yt) rfl rfl;have d0:=hE.cell 5 0 (v:=.string xs) rfl rfl;have d1:=hE.cell 5 1 (v:=.string xt) rfl rfl;exact Zg) ?_
  simp only[Act.put,Zl]
 refine Z6 104 _ rfl (fun z=>rfl) (fun z w'=>Zh) (fun g V hS=>?_)
 refine(ZdR HV.out HU.out H1.out rfl _ (HTW.out _ hS.bareG.base)).mono ?_
 rintro e V' ⟨rfl,hb⟩
 refine .inl ⟨_,rfl,hS.step hb,?_⟩
 clear hb hS
 simp only[Act.put,Zl]
 iterate 2
  refine Z4 _ rfl (fun z=>rfl) (fun z j g w' hS=>Zg) ?_
  simp only[Act.put,Zl]
 refine Z6 180 _ rfl (fun z=>rfl) (fun z w'=>Zh) (fun g V hS=>?_)
 refine(ZbM p1 q1 _).mono ?_
 rintro e V' ⟨rfl,hb⟩
 refine .inl ⟨_,rfl,hS.step hb,?_⟩
 clear hb hS
 simp only[Act.put,Zl]
 refine Z6 104 _ rfl (fun z=>rfl) (fun z w'=>Zh) (fun g V hS=>?_)
 refine(ZdR HY.out HX.out H2.out rfl _ (HTW.out _ hS.bareG.base)).mono ?_
 rintro e V' ⟨rfl,hb⟩
 refine .inl ⟨_,rfl,hS.step hb,?_⟩
 clear hb hS
 simp only[Act.put,Zl]
 iterate 2
  refine Z4 _ rfl (fun z=>rfl) (fun z j g w' hS=>Zg) ?_
  simp only[Act.put,Zl]
 refine Z6 180 _ rfl (fun z=>rfl) (fun z w'=>Zh) (fun g V hS=>?_)
 refine(ZbM p2 q2 _).mono ?_
 rintro e V' ⟨rfl,hb⟩
 refine .inl ⟨_,rfl,hS.step hb,?_⟩
 clear hb hS
 simp only[Act.put,Zl]
 refine Z6 169 _ rfl (fun z=>rfl) (fun z w'=>Zh) (fun g V hS=>?_)
 refine(Zjn H1.out H2.out H3.out HP.out rfl _ (HTW.out _ hS.bareG.base)).mono ?_
 rintro e V' ⟨rfl,hb⟩
 refine .inl ⟨_,rfl,hS.step hb,?_⟩
 clear hb hS
 simp only[Act.put,Zl]
 iterate 2
  refine Z4 _ rfl (fun z=>rfl) (fun z j g w' hS=>Zg) ?_
  simp only[Act.put,Zl]
 refine Z6 180 _ rfl (fun z=>rfl) (fun z w'=>Zh) (fun g V hS=>?_)
 refine(ZbM p3 q3 _).mono ?_
 rintro e V' ⟨rfl,hb⟩
 refine .inl ⟨_,rfl,hS.step hb,?_⟩
 clear hb hS
 simp only[Act.put,Zl]
 refine ZbH fun g V hS=>?_
 simp only[Act.put,Zl]
 have HE8:Hid (Env w.heap.size w [(g,pObj Zpv Zpv),(G+1+1+1+1+1,pObj Zpv Zpv),(G+1+1+1+1,pObj ao ap),(G+1+1+1,pObj vs vt),(G+1+1,pObj us ut),(G+1,pObj ys yt),(G,pObj xs xt)] [] V):=hS
 have r0:=HE8.out.cell 0 0 rfl rfl
 have r1:=HE8.out.cell 0 1 rfl rfl
 have f0:=HE8.out.free 0 0 rfl
 have f1:=HE8.out.free 0 1 rfl
 refine ZB rfl rfl fun K hK=>?_
 go_simp
 have HE9:=Zpz ((HE8.out.fill (.string p3) (.string q3)).only [1,0,2,4,6] _ rfl Zd)
 refine hK _ _ (.inl rfl) ?_
 clear hK K r0 r1 f0 f1 HE8 HE0 hS
 refine ZF ?_
 obtain⟨Z,hZ⟩:=ZpB ((V.setCell ⟨g,0,none⟩ (.string p3)).setCell ⟨g,1,none⟩ (.string q3))
 rw[hZ] at HE9 ⊢
 clear hZ
 go_wp2_with fail
 refine ZP [(1,0),(1,1),(1,2),(1,3),(0,4),(1,5),(1,6),(0,7),(0,8),(1,9),(1,10),(0,11),(0,12),(1,13),(1,14),(0,15),(0,16)] (Env w.heap.size w [(G+1+1+1+1+1,pObj Zpv Zpv),(g,pObj p3 q3),(G+1+1+1+1,pObj ao ap),(G+1+1,pObj us ut),(G,pObj xs xt)] []) (fun i=>i==16)
  Zb Zb (fun j hj=>by have h:16<j:=hj;simp;omega) Zi HE9.out.drew ?_
 obtain⟨w4,hw4⟩:=ZpB Z.drew
 have HE4:=Zpz HE9.out.drew
 rw[hw4] at HE4 ⊢
 clear hw4 HE9
 iterate 4
  refine Zx _ rfl rfl (fun w' hS=>by have b0:=hS.cell 1 0 (v:=.string p3) rfl rfl;have b1:=hS.cell 1 1 (v:=.string q3) rfl rfl;have c0:=hS.cell 2 0 (v:=.string ao) rfl rfl;have c1:=hS.cell 2 1 (v:=.string ap) rfl rfl;have a0:=hS.cell 3 0 (v:=.string us) rfl rfl;have a1:=hS.cell 3 1 (v:=.string ut) rfl rfl;have d0:=hS.cell 4 0 (v:=.string xs) rfl rfl;have d1:=hS.cell 4 1 (v:=.string xt) rfl rfl;exact Ze) ?_
  simp only[Act.put,Zl]
 refine Zz 104 _ rfl rfl Zf ?_
 have HEC:=HE4
 refine(ZdR HA.out HX.out H4.out rfl _ (HTW.out _ HEC.out.base)).mono ?_
 rintro e w5 ⟨rfl,hb⟩
 have HE5:=Zpz (HEC.out.step hb)
 refine .inl ⟨_,rfl,HE5.out,?_⟩
 clear hb HEC
 simp only[Act.put,Zl]
 iterate 2
  refine Zx _ rfl rfl (fun w' hS=>Ze) ?_
  simp only[Act.put,Zl]
 refine Zz 180 _ rfl rfl Zf ?_
 have HEC:=HE5
 refine(ZbM p4 q4 _).mono ?_
 rintro e w6 ⟨rfl,hb⟩
 have HE6:=Zpz (HEC.out.step hb)
 refine .inl ⟨_,rfl,HE6.out,?_⟩
 clear hb HEC
 simp only[Act.put,Zl]
 refine Zz 119 _ rfl rfl Zf ?_
 have HEC:=HE6
 refine(ZdY H3.out H4.out H5.out rfl _ (HTW.out _ HEC.out.base)).mono ?_
 rintro e w7 ⟨rfl,hb⟩
 have HE7:=Zpz (HEC.out.step hb)
 refine .inl ⟨_,rfl,HE7.out,?_⟩
 clear hb HEC
 simp only[Act.put,Zl]
 iterate 2
  refine Zx _ rfl rfl (fun w' hS=>Ze) ?_
  simp only[Act.put,Zl]
 refine Zz 180 _ rfl rfl Zf ?_
 have HEC:=HE7
 refine(ZbM p5 q5 _).mono ?_
 rintro e w8 ⟨rfl,hb⟩
 have HE8:=Zpz (HEC.out.step hb)
 refine .inl ⟨_,rfl,HE8.out,?_⟩
 clear hb HEC
 simp only[Act.put,Zl]
 refine Zz 42 _ rfl rfl Zf ?_
 have HEC:=HE8
 refine(Zit HU.out H5.out H6.out rfl _ (HTW.out _ HEC.out.base)).mono ?_
 rintro e w9 ⟨rfl,hb⟩
 have HE9:=Zpz (HEC.out.step hb)
 refine .inl ⟨_,rfl,HE9.out,?_⟩
 clear hb HEC
 simp only[Act.put,Zl]
 iterate 2
  refine Zx _ rfl rfl (fun w' hS=>Ze) ?_
  simp only[Act.put,Zl]
 refine Zz 180 _ rfl rfl Zf ?_
 have HEC:=HE9
 refine(ZbM x y _).mono ?_
 rintro e w10 ⟨rfl,hb⟩
 have HE10:=Zpz (HEC.out.step hb)
 refine .inl ⟨_,rfl,HE10.out,?_⟩
 clear hb HEC
 simp only[Act.put,Zl]
 have r0:=HE10.out.cell 0 0 rfl rfl
 have r1:=HE10.out.cell 0 1 rfl rfl
 have f0:=HE10.out.free 0 0 rfl
 have f1:=HE10.out.free 0 1 rfl
 refine ZB rfl rfl fun K hK=>?_
 go_simp
 have HE11:=Zpz (HE10.out.fill (.string x) (.string y))
 refine hK _ _ (.inl rfl) ?_
 clear hK K r0 r1 f0 f1 HE4 HE5 HE6 HE7 HE8 HE9 HE10
 refine ZF ?_
 go_wp2
 have q0:=HE11.out.cell 0 0 (v:=.string x) rfl rfl
 have q1:=HE11.out.cell 0 1 (v:=.string y) rfl rfl
 exact ZoM (v:=pV x y) (by simp[results,Tryz.f227,go_sem,q0,q1]) rfl ⟨rfl,HE11.out.base⟩
def ZnG (bs:List BB) (q:Rat) (w:World) (e:Ending) (w':World):Prop:=
 ∃ x y r,e=.returned (Zpw x y)/\ZW bs.length (cR bs) (hR bs) q r/\IsP r x y/\Below w.heap.size w w'
theorem Zlo {v:Value} {bs:List BB} {w:World} {q:Rat} {s t:ByteArray} (hv:BL w v bs) (hC:CurveP bs) (hq:IsP q s t) (hz:Sz 300 q) (hT:Tabs w) :
  Calls Tryz.prog 204 #[v,Zpw s t] w (ZnG bs q w):=by
 have HQ:=Zpz hq
 have HZ:=Zpz hz
 have HC:=Zpz hC
 have HT:=Zpz hT
 have HV:=Zpz hv
 clear hq hz hC hT hv
 go_enter Tryz.func204,Tryz.ntmps204
 go_wp2_with fail
 have hb0:Below w.heap.size w ((w.alloc (pObj s t)).alloc (pObj Zpv Zpv)):=((ZoL _ w).alloc ZpA _).alloc Zc _
 refine(ZlL (HV.out.after hb0 ZpA) HC.out HQ.out).mono ?_
 rintro e w2 ⟨i,j,inn,he,hA,hb⟩
 have HX:Zv w.heap.size [pObj s t,pObj Zpv Zpv] w2:=(Zv.two w _ _).below hb Zc
 have HB2:Zpt w w2:=hb0.trans (hb.mono hb0.size)
 obtain⟨q0,hq0⟩:=ZpB (bAt bs i)
 obtain⟨q1,hq1⟩:=ZpB (bAt bs j)
 have HQ0:=Zpz hq0
 have HQ1:=Zpz hq1
 rw[hq0,hq1] at he
 obtain⟨⟨s0,t0⟩,u0,v0⟩:=q0
 obtain⟨⟨s1,t1⟩,u1,v1⟩:=q1
 subst he
 obtain⟨P,hP⟩:=ZpB w.heap.size
 obtain⟨G,hG⟩:=ZpB w2.heap.size
 have h0:w2.heap[P]?=some (pObj s t):=HX.block 0 Za rfl
 have h1:w2.heap[P+1]?=some (pObj Zpv Zpv):=HX.block 1 Za rfl
 have HPP:=Zpz hP
 have hPG:P+1<G:=by rw[<- hG];exact(Zpu h1)
 clear hb hb0 HX hq0 hq1
 have hV0:((w2.alloc (bO s0 t0 u0 v0)).alloc (bO s1 t1 u1 v1)).heap[P]?=some (pObj s t):=((Zo1 _ _ _ (by simp;omega)).trans (Zo1 _ _ _ Za)).trans h0
 have hV1:((w2.alloc (bO s0 t0 u0 v0)).alloc (bO s1 t1 u1 v1)).heap[P+1]?=some (pObj Zpv Zpv):=((Zo1 _ _ _ (by simp;omega)).trans (Zo1 _ _ _ Za)).trans h1
 have HBV:Hid (Below w.heap.size w ((w2.alloc (bO s0 t0 u0 v0)).alloc (bO s1 t1 u1 v1))):=(HB2.out.alloc HB2.out.size _).alloc (by have:=HB2.out.size;simp;omega) _
 have c0:((w2.alloc (bO s0 t0 u0 v0)).alloc (bO s1 t1 u1 v1)).cell? ⟨P+1,0,none⟩=some (.string Zpv):=Zn hV1 0 rfl
 have c1:((w2.alloc (bO s0 t0 u0 v0)).alloc (bO s1 t1 u1 v1)).cell? ⟨P+1,1,none⟩=some (.string Zpv):=Zn hV1 1 rfl
 have f0:((w2.alloc (bO s0 t0 u0 v0)).alloc (bO s1 t1 u1 v1)).frozen? ⟨P+1,0,none⟩=false:=Zo hV1 0
 have f1:((w2.alloc (bO s0 t0 u0 v0)).alloc (bO s1 t1 u1 v1)).frozen? ⟨P+1,1,none⟩=false:=Zo hV1 1
 have d0:((w2.alloc (bO s0 t0 u0 v0)).alloc (bO s1 t1 u1 v1)).cell? ⟨P,0,none⟩=some (.string s):=Zn hV0 0 rfl
 have d1:((w2.alloc (bO s0 t0 u0 v0)).alloc (bO s1 t1 u1 v1)).cell? ⟨P,1,none⟩=some (.string t):=Zn hV0 1 rfl
 have HV1:=Zpz hV1
 clear h0 h1 hV0 hV1
 rcases hA with ⟨hp,⟨hi,rfl,rfl⟩ | ⟨hi,rfl,rfl⟩⟩
 ·have HPc:=Zpz hp
  have HI:=Zpz hi
  obtain⟨⟨x1,y1,j1⟩,⟨x2,y2,j2⟩,⟨x3,y3,j3⟩,⟨x4,y4,j4⟩,⟨x5,y5,j5⟩,⟨x,y,j6⟩,j7,j8⟩:=Ze5 HC.out HQ.out.nn HZ.out hp hi
  have hC0:=(HC.out.isC (i:=i) Za).1
  have hH0:=(HC.out.isH (i:=i) Za).1
  have hC1:=(HC.out.isC (i:=i+1) hi).1
  have hH1:=(HC.out.isH (i:=i+1) hi).1
  rw[HQ0.out] at hC0 hH0
  rw[HQ1.out] at hC1 hH1
  have j6':=j6
  rw[j7] at j6'
  have HR:=Zpz (ZmS hC0 hC1 hH0 hH1 HQ.out j1 j2 j3 j8 j4 j5 j6' _ (HT.out.below HBV.out ZpA))
  have HA:Hid (ZW bs.length (cR bs) (hR bs) q (lin bs.length (cR bs) (hR bs) i q)):=⟨i,hp,rfl⟩
  have HJ:=Zpz j6
  clear hp hi j1 j2 j3 j4 j5 j6 j6' j7 j8 hC0 hH0 hC1 hH1
  rw[hP]
  go_wp2_with fail
  refine HR.out.mono ?_
  rintro e w5 ⟨rfl,hb⟩
  have hV5:w5.heap[P+1]?=some (pObj Zpv Zpv):=(hb.block _ (by simp;omega)).trans HV1.out
  have HB5:Zpt w w5:=HBV.out.trans (hb.mono HBV.out.size)
  have HV5:=Zpz hV5
  clear c0 c1 f0 f1 d0 d1 hb HR
  have c0:w5.cell? ⟨P+1,0,none⟩=some (.string Zpv):=Zn hV5 0 rfl
  have c1:w5.cell? ⟨P+1,1,none⟩=some (.string Zpv):=Zn hV5 1 rfl
  have f0:w5.frozen? ⟨P+1,0,none⟩=false:=Zo hV5 0
  have f1:w5.frozen? ⟨P+1,1,none⟩=false:=Zo hV5 1
  clear hV5
  go_wp2
  obtain⟨q0,q1⟩:=Zu HV5.out (.string x) (.string y)
  refine ZoM (v:=Zpw x y) (by simp[results,Tryz.f204,go_sem,q0,q1]) rfl ⟨x,y,_,rfl,HA.out,HJ.out,?_⟩
  have:=Zs HB5.out (b:=P+1) (by rw[HPP.out];omega) (.string x) (.string y)
  exact this
 ·have HA:Hid (ZW bs.length (cR bs) (hR bs) q (hR bs j)):=by
   refine⟨j,hp,?_⟩
   unfold lin slo
   rw[if_neg Za]
   grind
  have hH0:=(HC.out.isH (i:=j) Za).1
  rw[HQ0.out] at hH0
  have HH:=Zpz hH0
  clear hp hi hH0
  rw[hP]
  go_wp2
  obtain⟨q0,q1⟩:=Zu HV1.out (.string u0) (.string v0)
  refine ZoM (v:=Zpw u0 v0) (by simp[results,Tryz.f204,go_sem,q0,q1]) rfl ⟨u0,v0,_,rfl,HA.out,HH.out,?_⟩
  have:=Zs HBV.out (b:=P+1) (by rw[HPP.out];omega) (.string u0) (.string v0)
  exact this
theorem Zl7 (w:World) (s t:ByteArray):PL (w.alloc (Zpx s t)) (.slice (some ⟨w.heap.size,0,none⟩) 1 1) [(s,t)]:=by
 refine⟨_,1,rfl,Nat.le_refl _,by simp[maxLen],fun _=>⟨_,0,rfl,Zc,fun j hj=>?_⟩⟩
 obtain rfl:j=0:=by simpa using hj
 exact⟨ZK _ _ _ 0 rfl,ZK _ _ _ 1 rfl⟩
def Zhq (bs:List BB) (q:Rat) (x y:ByteArray) (n:Int):Prop:=n=0/\∃ r,ZW bs.length (cR bs) (hR bs) q r/\IsP r x y
theorem ZjT {v:Value} {bs:List BB} {w:World} {q:Rat} {s t:ByteArray} (Bl Bc:Nat) (hl:w.heap[Bl]?=some (.cells #[v] 72)) (hc:w.heap[Bc]?=some (pObj s t)) (hv:BL w v bs) (hC:CurveP bs) (hq:IsP q s t) (hz:Sz 300 q) (hT:Tabs w) :
  Calls Tryz.prog 203 #[.pointer (some ⟨Bl,0,none⟩),.pointer (some ⟨Bc,0,none⟩)] w (Zny (Zhq bs q) w):=by
 have hb0:Below w.heap.size w (w.alloc (pObj Zpv Zpv)):=(ZoL _ w).alloc ZpA _
 have HB0:=Zpz hb0
 have HR:=Zpz (Zlo (hv.after hb0 ZpA) hC hq hz (hT.below hb0 ZpA))
 have l0:(w.alloc (pObj Zpv Zpv)).cell? ⟨Bl,0,none⟩=some v:=(Zai _ _ _ (Zpu hl)).trans (Zn hl 0 rfl)
 have c0:(w.alloc (pObj Zpv Zpv)).cell? ⟨Bc,0,none⟩=some (.string s):=(Zai _ _ _ (Zpu hc)).trans (Zn hc 0 rfl)
 have c1:(w.alloc (pObj Zpv Zpv)).cell? ⟨Bc,1,none⟩=some (.string t):=(Zai _ _ _ (Zpu hc)).trans (Zn hc 1 rfl)
 have HP:Hid ((w.alloc (pObj Zpv Zpv)).heap[w.heap.size]?=some (pObj Zpv Zpv)):=ZoO w _
 clear hb0 hl hc hv hC hq hz hT
 go_enter Tryz.func203,Tryz.ntmps203
 go_wp2_with fail
 refine HR.out.mono ?_
 rintro e w2 ⟨x,y,r,rfl,hr,hx,hb⟩
 have h2:w2.heap[w.heap.size]?=some (pObj Zpv Zpv):=(hb.block _ Zc).trans HP.out
 have HB2:Zpt w w2:=HB0.out.trans (hb.mono HB0.out.size)
 have HA:Hid (Zhq bs q x y 0):=⟨rfl,r,hr,hx⟩
 have H2:=Zpz h2
 clear l0 c0 c1 hb hr hx HR HP
 have c0:w2.cell? ⟨w.heap.size,0,none⟩=some (.string Zpv):=Zn h2 0 rfl
 have c1:w2.cell? ⟨w.heap.size,1,none⟩=some (.string Zpv):=Zn h2 1 rfl
 have f0:w2.frozen? ⟨w.heap.size,0,none⟩=false:=Zo h2 0
 have f1:w2.frozen? ⟨w.heap.size,1,none⟩=false:=Zo h2 1
 clear h2
 go_wp2
 obtain⟨q0,q1⟩:=Zu H2.out (.string x) (.string y)
 exact ZoM (v:=Zpw x y) (by simp[results,Tryz.f203,go_sem,q0,q1]) rfl ⟨x,y,0,.inl ⟨rfl,rfl⟩,HA.out,Zs HB2.out ZpA (.string x) (.string y)⟩
theorem Zey {bs:List BB} {s t:ByteArray} : ZgK bs [(s,t)]<->(CurveP bs/\Zw 300 (s,t)=true):=by
 unfold ZgK
 simp
theorem Zjy {v:Value} {bs:List BB} {w:World} {s t:ByteArray} (hv:BL w v bs) (hz:LimB bs) (hs:s.size<=1000000) (ht:t.size<=1000000) (hD:DetV w) (hT:Tabs w) :
  Calls Tryz.prog 168 #[v,Zpw s t] w (ZL (ZbB bs s t) w):=by
 obtain⟨n,hn⟩:=ZpB bs.length
 obtain⟨p,c,rfl⟩:∃ p c,v=.slice p n c:=by obtain⟨p,c,h,_⟩:=id hv;exact⟨_,_,by rw[<- hn];exact h⟩
 clear hn
 obtain⟨w3,hw3⟩:=ZpB (((w.alloc (.cells #[.slice p n c] 72)).alloc (pObj s t)).alloc (pObj Zpv Zpv))
 have hs3:w3.heap.size=w.heap.size+3:=by rw[<- hw3];simp
 have HX:Hid (Zv w.heap.size [.cells #[.slice p n c] 72,pObj s t,pObj Zpv Zpv] w3):=by rw[<- hw3];exact Zv.three w _ _ _
 have HB3:Zpt w w3:=by rw[<- hw3];exact(((ZoL _ w).alloc ZpA _).alloc Zc _).alloc (by simp<;>omega) _
 have hb4:Below w3.heap.size w3 (w3.alloc (Zpx s t)):=(ZoL _ w3).alloc ZpA _
 have HB4:Hid (Below w.heap.size w (w3.alloc (Zpx s t))):=HB3.out.trans (hb4.mono HB3.out.size)
 have hlim:LimP [(s,t)]:=fun p hp=>by
  rw[List.mem_singleton] at hp
  subst hp
  exact⟨hs,ht⟩
 have HR:=Zpz (ZkS (hv.after HB4.out ZpA) hz (Zl7 w3 s t) hlim (hD.below HB4.out ZpA) (hT.below HB4.out ZpA))
 rw[hs3] at HR
 have HX4:=Zpz (HX.out.below hb4 (by rw[hs3];exact Nat.le_refl _))
 have HV:=Zpz hv
 have HT:=Zpz hT
 have l0:w3.cell? ⟨w.heap.size,0,none⟩=some (.slice p n c):=HX.out.cell 0 0 rfl rfl rfl
 have d0:w3.cell? ⟨w.heap.size+1,0,none⟩=some (.string s):=HX.out.cell 1 0 rfl rfl rfl
 have d1:w3.cell? ⟨w.heap.size+1,1,none⟩=some (.string t):=HX.out.cell 1 1 rfl rfl rfl
 have hs3':=hs3
 rw[<- hw3] at l0 d0 d1 HR HX4 HB4 hs3'
 clear hv hz hD hT hb4 hw3 hs hs3 HB3 HX hlim ht
 go_enter Tryz.func168,Tryz.ntmps168
 go_wp2_with fail
 refine HR.out.mono ?_
 rintro e w5 ⟨hE,hb⟩
 have HX5:=Zpz (HX4.out.below hb Zc)
 have HB5:=Zpz (HB4.out.trans (hb.mono HB4.out.size))
 clear l0 d0 d1 hb HR HX4 HB4
 have c0:w5.cell? ⟨w.heap.size+1+1,0,none⟩=some (.string Zpv):=HX5.out.cell 2 0 rfl rfl rfl
 have c1:w5.cell? ⟨w.heap.size+1+1,1,none⟩=some (.string Zpv):=HX5.out.cell 2 1 rfl rfl rfl
 have f0:w5.frozen? ⟨w.heap.size+1+1,0,none⟩=false:=HX5.out.free 2 0 rfl rfl
 have f1:w5.frozen? ⟨w.heap.size+1+1,1,none⟩=false:=HX5.out.free 2 1 rfl rfl
 have hl5:=HX5.out.lt
 rcases hE with ⟨hr,rfl⟩ | ⟨hr,rfl⟩
 ·have HRP:=Zpz (Zey.1 hr)
  have hsm:=ZbF (Zey.1 hr).2
  have HTR:Hid (Calls Tryz.prog 183 #[.func (.func 203) #[] #[.pointer (some ⟨w.heap.size,0,none⟩),.pointer (some ⟨w.heap.size+1,0,none⟩)]] w5 (ZL (Zhq bs (ratP s t)) w5)):=
   Zlp (enters_of Tryz.func203 Zb rfl) fun W hW=>by
    have hx:=HX5.out.below hW (by simpa using hl5)
    have hbw:=HB5.out.trans (hW.mono HB5.out.size)
    exact ZjT w.heap.size (w.heap.size+1) (hx.block 0 rfl rfl) (hx.block 1 rfl rfl) (HV.out.after hbw ZpA) HRP.out.1 hsm.1 hsm.2 (HT.out.below hbw ZpA)
  clear hr hsm HV HT
  go_wp2_with fail
  refine HTR.out.mono ?_
  rintro e w7 ⟨x,y,m,rfl,⟨rfl,hA⟩,hb⟩
  have HA:Hid (ZbB bs s t x y 0):=.inr ⟨HRP.out,rfl,hA⟩
  have HX7:=Zpz (HX5.out.below hb (by simpa using hl5))
  have HB7:=Zpz (HB5.out.trans (hb.mono HB5.out.size))
  clear c0 c1 f0 f1 hb hA hl5 HTR
  have c0:w7.cell? ⟨w.heap.size+1+1,0,none⟩=some (.string Zpv):=HX7.out.cell 2 0 rfl rfl rfl
  have c1:w7.cell? ⟨w.heap.size+1+1,1,none⟩=some (.string Zpv):=HX7.out.cell 2 1 rfl rfl rfl
  have f0:w7.frozen? ⟨w.heap.size+1+1,0,none⟩=false:=HX7.out.free 2 0 rfl rfl
  have f1:w7.frozen? ⟨w.heap.size+1+1,1,none⟩=false:=HX7.out.free 2 1 rfl rfl
  go_wp2
  obtain⟨q0,q1⟩:=Zu (HX7.out.block 2 (b:=w.heap.size+1+1) rfl rfl) (.string x) (.string y)
  exact ZoM (v:=.tuple #[Zpw x y,.int .i64 0]) (by simp[results,Tryz.f168,go_sem,q0,q1]) rfl ⟨x,y,0,rfl,HA.out,Zs HB7.out (by show _<=_;omega) (.string x) (.string y)⟩
 ·have HA:Hid (ZbB bs s t Zpv Zpv 2):=.inl ⟨fun h=>hr (Zey.2 h),rfl,rfl,rfl⟩
  clear hr HV HT hl5
  go_wp2
  obtain⟨q0,q1⟩:=Zu (HX5.out.block 2 (b:=w.heap.size+1+1) rfl rfl) (.string Zpv) (.string Zpv)
  exact ZoM (v:=.tuple #[Zpw Zpv Zpv,.int .i64 2]) (by simp[results,Tryz.f168,go_sem,q0,q1]) rfl ⟨Zpv,Zpv,2,rfl,HA.out,Zs HB5.out (by show _<=_;omega) (.string Zpv) (.string Zpv)⟩
def ZaJ (l:List UInt8) (k:Nat):List UInt8:=l.take (l.length-4*k)
def hval (l:List UInt8) (k:Nat):Nat:=Zq ((ZaJ l k).drop (l.length-4*k-4))
def Zcj (l:List UInt8):Nat:=(l.length+3)/4
theorem ZcO (l:List UInt8) (k:Nat):(ZaJ l k).length=l.length-4*k:=by unfold ZaJ;rw[Zpr];omega
theorem ZkZ (l:List UInt8):ZaJ l 0=l:=by unfold ZaJ;exact ZoV Za
theorem Zlb (l:List UInt8) (k:Nat):ZaJ l (k+1)=(ZaJ l k).take (l.length-4*k-4):=by
 unfold ZaJ
 rw[List.take_take]
 congr 1
 omega
theorem Zn0 {l:List UInt8} (h:∀ c ∈ l,ZG c=true) (k:Nat):hval l k<10000:=by
 have h1:=Zb5 (s:=(ZaJ l k).drop (l.length-4*k-4)) fun c hc=>h c (List.mem_of_mem_take (List.mem_of_mem_drop hc))
 have h2:((ZaJ l k).drop (l.length-4*k-4)).length<=4:=by rw[List.length_drop,ZcO];omega
 have h3:10 ^ ((ZaJ l k).drop (l.length-4*k-4)).length<=10 ^ 4:=ZoW Za h2
 unfold hval
 omega
theorem ZlZ (l:List UInt8) (k:Nat):Zq (ZaJ l k)=hval l k+10000*Zq (ZaJ l (k+1)):=by
 have h1:=Zcu ((ZaJ l k).take (l.length-4*k-4)) ((ZaJ l k).drop (l.length-4*k-4))
 rw[List.take_append_drop,<- Zlb] at h1
 rw[h1]
 unfold hval
 rcases ZoR (l.length-4*k) 4 with h2 | h2
 ·have h3:ZaJ l (k+1)=[]:=ZoX (by rw[ZcO];omega)
  rw[h3,Zb7];omega
 ·have h3:((ZaJ l k).drop (l.length-4*k-4)).length=4:=by rw[List.length_drop,ZcO];omega
  rw[h3];omega
theorem ZlF (l:List UInt8) (k:Nat):val 10000 ((List.range k).map (hval l))+10000 ^ k*Zq (ZaJ l k)=Zq l:=by
 induction k with
 | zero=>simp[val,ZkZ]
 | succ k ih=>
  rw[List.range_succ,List.map_append,List.map_cons,List.map_nil,ZbQ,Zpi]
  simp only[List.length_map,List.length_range]
  rw[ZlZ] at ih
  grind
theorem ZhX (l:List UInt8):val 10000 ((List.range (Zcj l)).map (hval l))=Zq l:=by
 have h:=ZlF l (Zcj l)
 have h2:ZaJ l (Zcj l)=[]:=ZoX (by rw[ZcO];unfold Zcj;omega)
 rw[h2,Zb7] at h
 simpa using h
def Zc7 (l:List UInt8) (k i:Nat):Nat:=Zq ((l.take i).drop (l.length-4*k-4))
theorem ZjL (l:List UInt8) (k:Nat):Zc7 l k (l.length-4*k-4)=0:=by
 unfold Zc7
 have:(l.take (l.length-4*k-4)).drop (l.length-4*k-4)=[]:=ZoX (by rw[List.length_drop,Zpr];omega)
 rw[this];rfl
theorem ZkI (l:List UInt8) (k i:Nat) (h1:l.length-4*k-4<=i) (h2:i<l.length):Zc7 l k (i+1)=10*Zc7 l k i+dg1 l[i]:=by
 unfold Zc7
 rw[List.take_succ_eq_append_getElem h2,List.drop_append_of_le_length (by rw[Zpr];omega),Zef]
 omega
theorem Zlu (l:List UInt8) (k:Nat):Zc7 l k (l.length-4*k)=hval l k:=rfl
theorem Znn {l:List UInt8} (h:∀ c ∈ l,ZG c=true) (k i:Nat) (h1:i<=l.length-4*k):Zc7 l k i<10000:=by
 have h1:=Zb5 (s:=(l.take i).drop (l.length-4*k-4)) fun c hc=>h c (List.mem_of_mem_take (List.mem_of_mem_drop hc))
 have h2:((l.take i).drop (l.length-4*k-4)).length<=4:=by rw[List.length_drop,Zpr];omega
 have h3:10 ^ ((l.take i).drop (l.length-4*k-4)).length<=10 ^ 4:=ZoW Za h2
 unfold Zc7
 omega
structure DigInv (xs:List Nat) (i k:Nat) (s:List UInt8):Prop where
 dig:∀ c ∈ s,ZG c=true
 len:s.length=4*i+k
 eq:Zq s=val 10000 (xs.take i)+10000 ^ i*(xs.getD i 0 % 10 ^ k)
theorem DigInv.start (xs:List Nat):DigInv xs 0 0 []:=⟨Zc,rfl,by simp[val,Zb7,Nat.mod_one]⟩
theorem DigInv.step {xs:List Nat} {i k:Nat} {s:List UInt8} (h:DigInv xs i k s) {p:Nat} (hp:p=xs.getD i 0/10 ^ k):DigInv xs i (k+1) (UInt8.ofNat (48+p % 10)::s):=by
 have hd:=Zdd (Nat.mod_lt p Za:p % 10<10)
 refine⟨fun c hc=>?_,by rw[Zpl,h.len];omega,?_⟩
 ·rcases List.mem_cons.1 hc with rfl | hc
  ·exact hd.2
  ·exact h.dig c hc
 ·rw[Zcp,hd.1,h.len,h.eq,Nat.mod_pow_succ,<- hp,Nat.pow_add,Nat.pow_mul]
  have:(10:Nat) ^ 4=10000:=rfl
  rw[this]
  generalize p % 10=d
  generalize (10000:Nat) ^ i=a
  generalize (10:Nat) ^ k=b
  grind
theorem DigInv.next {xs:List Nat} {i:Nat} {s:List UInt8} (h:DigInv xs i 4 s) (hx:xs.getD i 0<10000):DigInv xs (i+1) 0 s:=by
 refine⟨h.dig,by rw[h.len];omega,?_⟩
 rw[h.eq,Nat.mod_eq_of_lt (show xs.getD i 0<10 ^ 4 from hx),ZS,Nat.pow_zero,Nat.mod_one]
 omega
theorem DigInv.done {xs:List Nat} {s:List UInt8} (h:DigInv xs xs.length 0 s):(∀ c ∈ s,ZG c=true)/\Zq s=val 10000 xs/\s.length=4*xs.length:=by
 refine⟨h.dig,?_,by rw[h.len];omega⟩
 rw[h.eq,ZoV ZpA,Nat.pow_zero,Nat.mod_one]
 omega
theorem Zi8 (s:List UInt8):Zq (48::s)=Zq s:=by rw[Zcp];simp[dg1]
theorem Zlq {s:List UInt8} (hd:∀ c ∈ s,ZG c=true) (hn:s≠[]) (hh:¬ (1<s.length/\s.head?=some 48)):Go.Lib.decDigits (Zq s)=s:=
 ZdX hd hn fun h1 h2=>hh ⟨h1,h2⟩
theorem ZiZ (t:ByteArray) (a:Nat):(t.extract a t.size).data.toList=t.data.toList.drop a:=by
 rw[ByteArray.data_extract,Array.toList_extract,List.extract_eq_take_drop]
 exact ZoV (by rw[List.length_drop,Zy];exact Nat.le_refl _)
theorem Zjm (s:ByteArray) (h:0<s.size):s.data.toList.head?=some 48<->(s[0].toNat:Int)=48:=by
 have h1:s.data.toList.head?=some s[0]:=by
  have:0<s.data.toList.length:=by rw[Zy];exact h
  rw[List.head?_eq_getElem?,Zo6 this]
  rfl
 rw[h1]
 constructor
 ·intro h2
  have:=ZoP h2
  rw[this];rfl
 ·intro h2
  congr 1
  apply UInt8.toNat_inj.1
  have:(48:UInt8).toNat=48:=rfl
  omega
structure SumInv (B:Nat) (n m:List Nat) (k:Nat) (o:List Nat) (c:Nat):Prop where
 inv:PlusInv B n m k o c
 top:k=0\/B ^ (k-1)<=val B n+val B m
theorem SumInv.start (B:Nat) (n m:List Nat):SumInv B n m 0 [] 0:=⟨PlusInv.start B n m,.inl rfl⟩
theorem Zfz {B:Nat} (hB:1<B) {n k:Nat} (h:k<(Zp B n).length):B ^ k<=n:=by
 rcases ZoR n (B ^ k) with h1 | h1
 ·have:=Zac hB h1;omega
 ·exact h1
theorem SumInv.step {B:Nat} (hB:1<B) {n m:Nat} {k:Nat} {o:List Nat} {c:Nat} (h:SumInv B (Zp B n) (Zp B m) k o c) {x:Nat} (hx:x=(Zp B n).getD k 0+c+(Zp B m).getD k 0)
  (hgo:k<(Zp B n).length\/k<(Zp B m).length\/0<c):SumInv B (Zp B n) (Zp B m) (k+1) (o++[x % B]) (x/B):=by
 refine⟨h.inv.step hB (ZJ hB n) (ZJ hB m) hx,.inr ?_⟩
 rw[Zpe,ZA hB,ZA hB]
 rcases ZoR k (Zp B n).length with h1 | h1
 ·have:=Zfz hB h1;omega
 rcases ZoR k (Zp B m).length with h2 | h2
 ·have:=Zfz hB h2;omega
 ·have hc:0<c:=Za
  have h3:=h.inv.eq
  rw[ZoV h1,ZoV h2,ZA hB,ZA hB] at h3
  have h4:B ^ k*1<=B ^ k*c:=Nat.mul_le_mul_left _ hc
  omega
theorem SumInv.done {B:Nat} (hB:1<B) {n m:Nat} {k:Nat} {o:List Nat} (h:SumInv B (Zp B n) (Zp B m) k o 0) (h1:(Zp B n).length<=k) (h2:(Zp B m).length<=k):o=Zp B (n+m):=by
 have h3:=h.inv.eq
 rw[ZoV h1,ZoV h2,ZA hB,ZA hB,Nat.mul_zero,Nat.add_zero] at h3
 have h4:=Zba hB h.inv.lt
 have h5:=h.top
 rw[ZA hB,ZA hB,<- h3] at h5
 have hl:o.length<=(Zp B (val B o)).length:=by
  rw[h.inv.len]
  rcases h5 with rfl | h5
  ·omega
  ·have:=Zd9 hB h5
   omega
 rw[ZoV hl] at h4
 rw[<- h3,h4]
theorem SumInv.bound {n m k c L:Nat} {o:List Nat} (h:SumInv 10000 (Zp 10000 n) (Zp 10000 m) k o c) (h1:(Zp 10000 n).length<=L) (h2:(Zp 10000 m).length<=L):k<=L+1:=by
 rcases h.top with rfl | h3
 ·omega
 ·rcases ZoR (L+1) k with h4 | h4
  ·exfalso
   have a1:=Z8 (ZJ (B:=10000) Za n)
   have a2:=Z8 (ZJ (B:=10000) Za m)
   have b1:=ZoW (n:=10000) Za h1
   have b2:=ZoW (n:=10000) Za h2
   have b3:=ZoW (n:=10000) Za (show L+1<=k-1 by omega)
   rw[Zpi] at b3
   omega
  ·exact h4
structure OverInv (B:Nat) (n:List Nat) (d:Nat) (k:Nat) (o:List Nat) (r:Nat):Prop where
 inv:ShortInv B n d k o r
 zero:∀ j,j<k->o.getD j 0=0
theorem OverInv.start {B:Nat} (hB:1<B) (n:List Nat) {d:Nat} (hd:0<d):OverInv B n d n.length (List.replicate n.length 0) 0:=
 ⟨ShortInv.start hB n hd,fun j _=>by simp only[List.getD,List.getElem?_replicate];split<;>rfl⟩
theorem OverInv.step {B:Nat} {n:List Nat} (hn:∀ y ∈ n,y<B) {d k:Nat} {o:List Nat} {r:Nat} (h:OverInv B n d (k+1) o r) (hk:k<n.length) {s:Nat} (hs:s=r*B+n.getD k 0) {q:Nat} (hq:q=s/d) {t:Nat} (ht:t=s % d) :
  OverInv B n d k (o.set k q) t:=by
 subst hq;subst ht
 refine⟨h.inv.step hn hk hs,fun j hj=>?_⟩
 have:=h.zero j Za
 simp only[List.getD,List.getElem?_set] at this ⊢
 rw[if_neg Za];exact this
theorem OverInv.skip {B:Nat} {n:List Nat} (hn:∀ y ∈ n,y<B) {d k:Nat} {o:List Nat} {r:Nat} (h:OverInv B n d (k+1) o r) (hk:k<n.length) {s:Nat} (hs:s=r*B+n.getD k 0) (hlt:s<d):OverInv B n d k o s:=by
 have h1:=h.step hn hk hs (q:=0) (t:=s) (by rw[Nat.div_eq_of_lt hlt]) (by rw[Nat.mod_eq_of_lt hlt])
 have h2:=h.zero k Za
 have h3:o.set k 0=o:=by
  have hl:k<o.length:=by rw[h.inv.len];exact hk
  have h4:o[k]=0:=by simpa[List.getD,Zo6 hl] using h2
  refine List.ext_getElem Zc fun j _ _=>?_
  rw[List.getElem_set]
  split
  ·rename_i e;subst e;exact h4.symm
  ·rfl
 rwa [h3] at h1
theorem OverInv.done {B:Nat} {n:List Nat} {d:Nat} {o:List Nat} {r:Nat} (h:OverInv B n d 0 o r):val B o=val B n/d/\r=val B n % d:=h.inv.done
theorem OverInv.digit {B:Nat} {n:List Nat} (hn:∀ y ∈ n,y<B) {d k:Nat} {o:List Nat} {r:Nat} (h:OverInv B n d (k+1) o r) (hk:k<n.length) {s:Nat} (hs:s=r*B+n.getD k 0):s/d<B:=by
 have h1:=h.inv.rest
 have h2:n.getD k 0<B:=by simp only[List.getD,Zo6 hk,Option.getD_some];exact hn _ (Zpc hk)
 refine Nat.div_lt_of_lt_mul ?_
 have:(r+1)*B<=d*B:=Zpd _ Za
 rw[Nat.add_mul] at this
 omega
theorem Zg3 {B x:Nat} (hx:0<x) (hB:x<B):Zp B x=[x]:=by
 rw[Za2 Za hx,Nat.mod_eq_of_lt hB,Nat.div_eq_of_lt hB,ZO]
theorem ZcW:(Tryz.prog.info? 3).map (fun i=>(i.zero,i.size,i.bytes))=some (some (.int .i64 0),1,8):=Zb
def Zif (v:Value):Prop:=v=.slice none 0 0\/∃ ad m c,v=.slice (some ad) m c
def PNum (w:World) (v:Value) (n:Nat):Prop:=Nums .i64 w v (Zp 10000 n)/\Zif v
theorem PNum.after {w w':World} {v:Value} {n B:Nat} (h:PNum w v n) (hb:Below B w w') (hB:w.heap.size<=B):PNum w' v n:=⟨Nums.below h.1 hb hB,h.2⟩
theorem Nums.form {k:IntKind} {w:World} {v:Value} {xs:List Nat} (h:Nums k w v xs):∃ p c,v=.slice p xs.length c:=by
 obtain⟨p,c,h1,_⟩:=h
 exact⟨p,c,h1⟩
theorem PNum.form {w:World} {v:Value} {n:Nat} (h:PNum w v n):∃ p m c,v=.slice p m c:=by
 obtain⟨p,c,h1⟩:=h.1.form
 exact⟨p,_,c,h1⟩
theorem PNum.kept {w w':World} {v:Value} {n:Nat} (h:PNum w v n) (hs:w.heap.size<=w'.heap.size) (hk:∀ b,v.ownBlock=some b->b<w.heap.size->w'.heap[b]?=w.heap[b]?):PNum w' v n:=by
 obtain⟨⟨p,c,rfl,h1,h2,h3⟩,hf⟩:=h
 refine⟨⟨p,c,rfl,h1,h2,fun hne=>?_⟩,hf⟩
 obtain⟨b,off,rfl,hb,ha⟩:=h3 hne
 refine⟨b,off,rfl,ZoS hb hs,fun j hj=>?_⟩
 have:=hk b rfl hb
 exact(Zo3 (w:=w) (a:=⟨b,off+j,none⟩) this).trans (ha j hj)
def Zar (w:World) (n:Nat) (e:Ending) (w':World):Prop:=∃ v,e=.returned v/\PNum w' v n/\Below w.heap.size w w'
theorem Zm9 (w:World):PNum w (.slice none 0 0) 0:=⟨by rw[ZO];exact Nums.nil _ _,.inl rfl⟩
def Grow (k:IntKind) (E:TypeId) (w:World) (B:Nat) (v:Value) (xs:List Nat):Prop:=w.ownsRow B E 1 v xs.length (xs.map fun x=>Value.int k (x:Nat))
section
variable {k:IntKind} {E:TypeId} {w:World} {B:Nat} {v:Value} {xs:List Nat}
theorem Grow.nil:Grow k E w B (.slice none 0 0) []:=World.ownsRow_nil w B E 1
theorem Grow.nums (h:Grow k E w B v xs):Nums k w v xs:=by
 rcases h.2 with ⟨rfl,h0⟩ | ⟨g,cap,cur,rfl,hb,hg,hle,hcap,hr⟩
 ·obtain rfl:xs=[]:=ZoX h0
  exact Nums.nil k w
 ·have:Row k E w B g cap xs:=⟨h.1,.inr ⟨g,cap,cur,rfl,hb,hg,hle,hcap,hr⟩⟩
  exact this.nums
theorem Grow.kept {w':World} (h:Grow k E w B v xs) (hk:∀ g,B<=g->v.ownBlock=some g->w'.heap[g]?=w.heap[g]?):Grow k E w' B v xs:=by
 obtain⟨h1,h2⟩:=h
 refine⟨h1,?_⟩
 rcases h2 with h2 | ⟨g,cap,cur,rfl,hb,hg,hr⟩
 ·exact .inl h2
 ·exact .inr ⟨g,cap,cur,rfl,hb,by rw[hk g hb rfl];exact hg,hr⟩
theorem Grow.after {w':World} (h:Grow k E w B v xs) (hb:Below w.heap.size w w'):Grow k E w' B v xs:=
 h.kept fun g _ hv=>hb.block g (ZoZ h g hv).2
theorem Grow.alloc (h:Grow k E w B v xs) (o:Obj):Grow k E (w.alloc o) B v xs:=World.ownsRow.alloc h o
theorem Grow.snoc {n x:Nat} {y:Int} {v':Value} (hn:xs.length=n) (hy:y=(x:Nat)) (h:w.ownsRow B E 1 v' (n+1) ((xs.map fun x=>Value.int k (x:Nat))++[.int k y])):Grow k E w B v' (xs++[x]):=by
 subst hn;subst hy
 unfold Grow
 rw[Zo2,List.map_append]
 exact h
theorem Grow.form (h:Grow k E w B v xs):∃ p c,v=.slice p xs.length c:=h.nums.form
theorem Grow.pform (h:Grow k E w B v xs):Zif v:=by
 rcases h.2 with ⟨rfl,_⟩ | ⟨g,cap,cur,rfl,_⟩
 ·exact .inl rfl
 ·exact .inr ⟨_,_,_,rfl⟩
end
theorem ZjQ (p:Option Addr) (cap:Nat) (xs:List Nat) (w:World) (hlc:xs.length<=cap) (hcap:cap<=maxLen) (hlt:∀ x ∈ xs,x<10000)
  (hp:xs≠[]->∃ b off,p=some ⟨b,off,none⟩/\At .i64 w b off xs) :
  Calls Tryz.prog 165 #[.slice p xs.length cap] w fun e w'=>
   w=w'/\e=.returned (.slice p (Zp 10000 (val 10000 xs)).length cap):=by
 unfold maxLen at hcap
 have HP:=Zpz hp
 clear hp
 go_enter Tryz.func165,Tryz.ntmps165
 go_wp2
 go_loop [0] (fun v=>∃ k:Nat,k<=xs.length/\v=.slice p k cap/\Hid (val 10000 xs=val 10000 (xs.take k))) (fun v=>lenV v)
 case atStart=>exact⟨xs.length,Nat.le_refl _,rfl,by rw[ZoV ZpA];rfl⟩
 case round=>
  obtain⟨k,hk,rfl,HV⟩:=hrel
  rcases Zo0 k with h0 | h0
  ·subst h0
   go_wp2
   go_ret
   exact⟨rfl,by rw[HV.out];simp[val,ZO]⟩
  ·obtain⟨j,rfl⟩:∃ j,k=j+1:=⟨k-1,Za⟩
   have hj:j<xs.length:=Za
   obtain⟨b,off,rfl,hc⟩:=HP.out (ZoT Za)
   have hcj:w.cell? ⟨b,off+j,none⟩=some (.int .i64 (xs[j]:Nat)):=hc j hj
   clear hc
   by_cases hz:xs[j]=0
   ·have hz':((xs[j]:Nat):Int)=0:=by rw[hz];rfl
    rw[hz'] at hcj
    have HZ:=Zpz hz
    clear hz hz'
    go_wp2
    go_round
    case rel=>exact⟨j,Za,Zc,by rw[HV.out,Zdj hj HZ.out];rfl⟩
    case measure=>simp[lenV]
   ·have hz':(((xs[j]:Nat):Int)==0)=false:=by simpa using hz
    have HZ:=Zpz hz
    clear hz
    go_wp2
    go_ret
    exact⟨rfl,by rw[HV.out,ZeB Za hlt hj HZ.out];simp;omega⟩
theorem Zdi {v:Value} {xs:List Nat} {w:World} (h:Nums .i64 w v xs) (hf:Zif v) (hlt:∀ x ∈ xs,x<10000) (m:Nat) (hm:val 10000 xs=m) :
  Calls Tryz.prog 165 #[v] w fun e w'=>∃ v',e=.returned v'/\w=w'/\PNum w' v' m/\v'.ownBlock=v.ownBlock:=by
 subst hm
 obtain⟨p,cap,rfl,h1,h2,h3⟩:=h
 refine(ZjQ p cap xs w h1 h2 hlt (fun hne=>by obtain⟨b,off,hb,_,ha⟩:=h3 hne;exact⟨b,off,hb,ha⟩)).mono ?_
 rintro e w' ⟨rfl,rfl⟩
 have hpre:=Zba (B:=10000) Za hlt
 have hle:=ZcR (B:=10000) Za hlt
 refine⟨_,rfl,rfl,⟨⟨p,cap,rfl,Za,h2,fun hne=>?_⟩,?_⟩,by cases p<;>rfl⟩
 rotate_left
 ·rcases hf with hf | ⟨ad,m,c,hf⟩
  ·injection hf with e1 e2 e3
   subst e1;subst e3
   have:(Zp 10000 (val 10000 xs)).length=0:=Za
   rw[this];exact .inl rfl
  ·injection hf with e1 e2 e3
   subst e1
   exact .inr ⟨_,_,_,rfl⟩
 have hne2:xs≠[]:=fun h=>by rw[h] at hne;exact hne (by simp[val,ZO])
 obtain⟨b,off,hb,hbl,ha⟩:=h3 hne2
 refine⟨b,off,hb,hbl,fun j hj=>?_⟩
 have hj2:j<xs.length:=Za
 rw[ha j hj2]
 have:(Zp 10000 (val 10000 xs))[j]=xs[j]:=by
  have e:(Zp 10000 (val 10000 xs))[j]?=(xs.take (Zp 10000 (val 10000 xs)).length)[j]?:=by rw[<- hpre]
  rw[Zo6 hj,List.getElem?_take_of_lt hj,Zo6 hj2] at e
  exact ZoP e
 rw[this]
theorem ZkM (c:UInt8) (h:ZG c=true):(48:Int)<=c.toNat/\(c.toNat:Int)<=57/\(c.toNat:Int)-48=(dg1 c:Nat):=by
 have:=of_decide_eq_true h
 unfold dg1
 omega
theorem ZmM (s:ByteArray) (hl:s.size<=1000000) (hd:∀ c ∈ s.data.toList,ZG c=true) (w:World) :
  Calls Tryz.prog 166 #[.string s] w (Zar w (Zq s.data.toList)):=by
 obtain⟨i0,hi,hz0,hz1,hz2⟩:=info_parts ZcW
 have HD:=Zpz hd
 clear hd
 go_enter Tryz.func166,Tryz.ntmps166
 go_wp2
 go_loopw [3,4] (fun vo ve wr=>∃ (k:Nat) (e:Int),k<=Zcj s.data.toList/\ve=.int .i64 e/\e=(s.size:Int)-4*k/\Hid (Grow .i64 3 wr w.heap.size vo ((List.range k).map (hval s.data.toList)))/\Zpt w wr) (fun _ ve _=>(intOf ve).toNat)
 case atStart=>exact⟨0,_,ZoY _,rfl,Zc,Grow.nil,ZoL _ _⟩
 case round=>
  obtain⟨k,e,hk,rfl,he,HO,HB⟩:=hrel
  have HE:=Zpz he
  clear he
  by_cases hgo:0<e
  ·obtain⟨r,hr⟩:∃ r:Nat,e=(r:Nat):=⟨e.toNat,Za⟩
   subst hr
   have HR:Hid (r=s.size-4*k/\0<r):=⟨by have:=HE.out;omega,Za⟩
   have hrs:r<=s.size:=by have:=HR.out.1;omega
   obtain⟨a,ha⟩:=ZpB (r-4)
   have hm:max 0 ((r:Int)-4)=(a:Nat):=Za
   have HA:Hid (a=s.size-4*k-4/\a<=r):=⟨by have:=HR.out.1;omega,Za⟩
   have hr0:0<r:=Za
   clear ha hgo
   go_wp2
   all_goals
    obtain⟨w0,rfl⟩:∃ w0:World,w0=wr:=⟨_,rfl⟩
    go_loopw [5,6] (fun vp vi wz=>∃ (i p:Nat),vi=.int .i64 i/\vp=.int .i64 p/\a<=i/\i<=r/\Hid (p=Zc7 s.data.toList k i)/\wz=w0) (fun _ vi _=>r-(intOf vi).toNat)
    case atStart=>exact⟨a,0,by first | rfl | (congr 1;omega),rfl,Nat.le_refl _,HA.out.2,by show _=_;rw[HA.out.1];exact(ZjL _ _).symm,rfl⟩
    case round=>
     obtain⟨i,p,rfl,rfl,hai,hir,HP,rfl⟩:=hrel
     obtain⟨w0,rfl⟩:∃ w0:World,w0=wr:=⟨_,rfl⟩
     have hp4:p<10000:=by rw[HP.out];exact Znn HD.out k i (by rw[Zy];have:=HR.out.1;omega)
     by_cases hlt:i<r
     ·have his:i<s.size:=Za
      have hil:i<s.data.toList.length:=by rw[Zy];exact his
      obtain⟨c,hc⟩:=ZpB (s[i])
      have hc2:s.data.toList[i]=c:=by rw[<- hc];rfl
      have hdc:ZG c=true:=by rw[<- hc2];exact HD.out _ (Zpc hil)
      obtain⟨q1,q2,q3⟩:=ZkM c hdc
      have HP2:Hid (10*p+dg1 c=Zc7 s.data.toList k (i+1)):=by
       show _=_
       rw[ZkI _ _ _ (by rw[Zy,<- HA.out.1];exact hai) hil,hc2,HP.out]
      have hd9:=Zil hdc
      have HC:=Zpz hc
      clear hc2 hdc
      go_wp2
      go_roundw
      case rel=>exact⟨i+1,10*p+dg1 c,by go_num,by first | rfl | (congr 1;omega),Za,Za,HP2,by first | rfl | trivial⟩
      case measure=>exact Zj
     ·obtain rfl:i=r:=Za
      have HX:Hid (p=hval s.data.toList k):=by
       show _=_
       rw[HP.out,HR.out.1,<- Zy,Zlu]
      obtain⟨po,no,co,rfl⟩:∃ p n c,u3=.slice p n c:=by obtain⟨q,c,h⟩:=HO.out.form;exact⟨_,_,_,h⟩
      have hown:w0.ownsRow w.heap.size 3 1 (.slice po no co) k (((List.range k).map (hval s.data.toList)).map fun x=>Value.int .i64 (x:Nat)):=by
       have:=HO.out;unfold Grow at this;simpa using this
      have hsz:=HB.out.size
      have hm1:k+1<=maxLen:=by unfold maxLen;unfold Zcj at hk;rw[Zy] at hk;omega
      have hm2:(k+1)*8<=140737488355328:=by unfold Zcj at hk;rw[Zy] at hk;omega
      have hownA:=hown.alloc (.cells #[.int .i64 (p:Nat)] 3)
      have hm3:w.heap.size<=(w0.alloc (.cells #[.int .i64 (p:Nat)] 3)).heap.size:=by simp;omega
      go_wp2_with (at_builtin;go_loud (refine Zpg _ rfl _ _ 23 rfl w.heap.size 3 i0 (.int .i64 0) 1 8 Tryz.underlying23 hi hz0 hz1 hz2 rfl Zd _ k _ rfl hownA ⟨w0.heap.size,0,none⟩ 1 1 [.int .i64 (p:Nat)] rfl rfl (cell_one_new _ _ _) (by simp[Value.oneCell']) hm1 hm2 hm3 ?_);intro v' w1 hown1 hgrow1 _)
      have HG:Hid (Grow .i64 3 w1 w.heap.size v' ((List.range (k+1)).map (hval s.data.toList))):=by
       have h1:=Grow.snoc (k:=.i64) (xs:=(List.range k).map (hval s.data.toList)) (x:=p) Zc rfl hown1
       rw[HX.out] at h1
       rw[List.range_succ,List.map_append]
       exact h1
      have HB1:Zpt w w1:=(HB.out.alloc hsz _).grown hgrow1 hm3 (fun z hz=>(ZoZ hownA z hz).1)
      clear hown hownA hown1 hgrow1
      go_roundw
      case rel=>exact⟨k+1,_,by unfold Zcj;rw[Zy];have:=HR.out;omega,rfl,by have:=HE.out;push_cast;omega,HG,HB1⟩
      case measure=>exact Zj
  ·have HK:Hid (k=Zcj s.data.toList):=by
    show _=_
    have:=HE.out
    unfold Zcj at *;rw[Zy] at *;omega
   have hlt:∀ x ∈ (List.range k).map (hval s.data.toList),x<10000:=by
    intro x hx
    obtain⟨j,_,rfl⟩:=List.mem_map.1 hx
    exact Zn0 HD.out j
   have ht:=Zdi HO.out.nums HO.out.pform hlt (Zq s.data.toList) (by rw[HK.out];exact ZhX _)
   obtain⟨po,no,co,rfl⟩:∃ p n c,u3=.slice p n c:=by obtain⟨q,c,h⟩:=HO.out.form;exact⟨_,_,_,h⟩
   clear hlt
   go_wp2_with fail
   refine ht.mono ?_
   rintro e' w' ⟨v',rfl,rfl,hv,_⟩
   obtain⟨p',m',c',rfl⟩:=hv.form
   have HV:=Zpz hv
   clear ht hv
   go_wp2
   go_ret
   exact⟨_,rfl,HV.out,HB.out⟩
def Zea (n:Nat) (s:ByteArray):Prop:=(∀ c ∈ s.data.toList,ZG c=true)/\Zq s.data.toList=n
theorem Zea.tail {n:Nat} {s:ByteArray} (h:Zea n s) (hs:1<s.size) (h0:(s[0]'Za).toNat=48):Zea n (s.extract 1 s.size):=by
 have e:=ZiZ s 1
 rcases hl:s.data.toList with _ | ⟨c,t⟩
 ·have:=Zy s;rw[hl] at this;simp at this;omega
 ·rw[hl] at e
  have hc:s[0]'Za=c:=by
   have h1:s.data.toList[0]'(by rw[Zy];omega)=c:=by simp[hl]
   exact h1
  rw[hc] at h0
  have hc48:c=48:=UInt8.toNat_inj.1 h0
  refine⟨fun x hx=>?_,?_⟩
  ·rw[e] at hx
   exact h.1 x (by rw[hl];exact List.mem_cons_of_mem _ (by simpa using hx))
  ·rw[e]
   have:=h.2
   rw[hl,hc48,Zi8] at this
   simpa using this
theorem Zea.done {n:Nat} {s:ByteArray} (h:Zea n s) (h0:0<s.size) (hh:¬ (1<s.size/\(s[0]'h0).toNat=48)):s=str (Lib.decDigits n):=by
 rw[<- h.2,Zlq h.1 (ZoT (by rw[Zy];exact h0)),Za1]
 rintro⟨h1,h2⟩
 refine hh ⟨by rw[Zy] at h1;exact h1,?_⟩
 have:=(Zjm s h0).1 h2
 omega
theorem ZiD {xs:List Nat} {i k:Nat} {s:ByteArray} (h:DigInv xs i k s.data.toList) {p:Nat} (hp:p=xs.getD i 0/10 ^ k):DigInv xs i (k+1) ((⟨#[UInt8.ofNat (48+p % 10)]⟩:ByteArray)++s).data.toList:=by
 have:=h.step hp
 simpa using this
theorem ZjF (w:World) (q:Nat) (hq:q<10) :
  (convert 236 9 (.slice (some ⟨w.heap.size,0,none⟩) 1 1)).run Tryz.prog (w.alloc (.cells #[.int .u8 (48+(q:Nat))] 5))=.ok (.string ⟨#[UInt8.ofNat (48+q)]⟩) (w.alloc (.cells #[.int .u8 (48+(q:Nat))] 5)):=by
 have h:=run_convert_bytes_back (P:=Tryz.prog) (w.alloc (.cells #[.int .u8 (48+(q:Nat))] 5)) 236 9 5 ⟨w.heap.size,0,none⟩ 1 [UInt8.ofNat (48+q)] Tryz.underlying236 Tryz.underlying5 Tryz.underlying9 ?_
 ·exact h
 ·intro j hj
  match j,hj with
  | 0,_=>
   have h2:(w.alloc (.cells #[.int .u8 (48+(q:Nat))] 5)).cell? ⟨w.heap.size,0,none⟩=some (.int .u8 (48+(q:Nat))):=ZK _ _ _ 0 rfl
   have h3:((UInt8.ofNat (48+q)).toNat:Int)=48+(q:Nat):=by rw[UInt8.toNat_ofNat'];omega
   have h4:(⟨w.heap.size,0,none⟩:Addr).add 0=⟨w.heap.size,0,none⟩:=by unfold Addr.add;split<;>simp_all
   rw[h4]
   show _=some (Value.int .u8 ((UInt8.ofNat (48+q)).toNat:Int))
   rw[h3];exact h2
  | j+1,h=>simp at h
def Zj9 (s:ByteArray) (w:World) (e:Ending) (w':World):Prop:=e=.returned (.string s)/\Below w.heap.size w w'
theorem ZfO {v:Value} {n:Nat} {w:World} (h1:PNum w v n) (hl1:(Zp 10000 n).length<=1000000) :
  Calls Tryz.prog 189 #[v] w (Zj9 (str (Lib.decDigits n)) w):=by
 obtain⟨p1,c1,rfl,_,_,hp1⟩:=h1.1
 obtain⟨xs,hxs⟩:=ZpB (Zp 10000 n)
 rw[hxs] at hl1 hp1 ⊢
 have HX:Hid (∀ x ∈ xs,x<10000):=by rw[<- hxs];exact ZJ Za n
 have HV:Hid (val 10000 xs=n):=by rw[<- hxs];exact ZA Za n
 have HP1:=Zpz hp1
 clear hxs hp1 h1
 go_enter Tryz.func189,Tryz.ntmps189
 go_wp2
 go_loopw [3,4] (fun vs vi wr=>∃ (i:Nat) (s:ByteArray),vi=.int .i64 i/\i<=xs.length/\vs=.string s/\Hid (DigInv xs i 0 s.data.toList)/\Zpt w wr) (fun _ vi _=>xs.length-(intOf vi).toNat)
 case atStart=>exact⟨0,_,rfl,ZoY _,rfl,DigInv.start _,ZoL _ _⟩
 case round=>
  obtain⟨i,s,rfl,hi,rfl,HI,HB⟩:=hrel
  by_cases hlt:i<xs.length
  ·obtain⟨b1,o1,rfl,hb1,a1⟩:=HP1.out (ZoT Za)
   obtain⟨x,hx⟩:=ZpB (xs.getD i 0)
   have hxl:x<10000:=by rw[<- hx];exact ZM Za HX.out i
   have cx:wr.cell? ⟨b1,o1+i,none⟩=some (.int .i64 (x:Nat)):=(HB.out.cell (p:=⟨b1,o1+i,none⟩) hb1).trans (a1.getD hlt hx)
   have Hx:=Zpz hx
   clear hx a1
   go_wp2
   obtain⟨w0,hw0⟩:∃ w0:World,w0=wr:=⟨_,rfl⟩
   go_loopw [3,5,6] (fun vs vp vk wz=>∃ (k p:Nat) (s:ByteArray),vk=.int .i64 k/\k<=4/\vp=.int .i64 p/\p<10000/\vs=.string s/\Hid (p=x/10 ^ k)/\Hid (DigInv xs i k s.data.toList)/\Zpt w wz) (fun _ _ vk _=>4-(intOf vk).toNat)
   case atStart=>exact⟨0,x,s,rfl,Za,rfl,hxl,rfl,by show _=_;simp,HI,HB⟩
   case round=>
    clear HI HB cx hw0
    obtain⟨k,p,s,rfl,hk,rfl,hp4,rfl,HP,HI,HB⟩:=hrel
    by_cases hk4:k<4
    ·obtain⟨q,hq⟩:=ZpB (p % 10)
     obtain⟨r,hr⟩:=ZpB (p/10)
     have e1:(p:Int) % 10=(q:Nat):=Za
     have e2:(p:Int)/10=(r:Nat):=Za
     have e3:(p:Int).tmod 10=(q:Nat):=by rw[<- e1];exact Int.tmod_eq_emod_of_nonneg Za
     have e4:(p:Int).tdiv 10=(r:Nat):=by rw[<- e2];exact Int.tdiv_eq_ediv_of_nonneg Za
     have hq10:q<10:=Za
     have HS:=ZiD HI.out (p:=p) (by rw[HP.out,Hx.out])
     rw[hq] at HS
     have HS:=Zpz HS
     have HQR:Hid (p/10=r/\p % 10=q):=⟨hr,hq⟩
     clear hq hr
     have HP2:Hid (p/10=x/10 ^ (k+1)):=by show _=_;rw[HP.out,Zpi,Nat.div_div_eq_div_mul]
     have hcv:=ZjF wr q hq10
     obtain⟨z,hz⟩:=ZpB ((⟨#[UInt8.ofNat (48+q)]⟩:ByteArray))
     rw[hz] at hcv HS
     have hz1:z.size=1:=by rw[<- hz];rfl
     have hsl:s.size<=5000000:=by rw[<- Zy,HI.out.len];omega
     have HB2:=Zpz (HB.out.alloc HB.out.size (.cells #[.int .u8 (48+(q:Nat))] 5))
     clear hz
     go_wp2
     go_roundw
     case rel=>exact⟨k+1,r,z++s,by go_num,Za,rfl,Za,rfl,by rw[<- HQR.out.1];exact HP2.out,HS,HB2⟩
     case measure=>exact Zj
    ·obtain rfl:k=4:=Za
     have HN:=Zpz (HI.out.next (by rw[Hx.out];exact hxl))
     go_wp2
     go_roundw
     case rel=>exact⟨i+1,s,by go_num,Za,rfl,HN,HB⟩
     case measure=>exact Zj
  ·obtain rfl:i=xs.length:=Za
   have HD:=Zpz HI.out.done
   have HSH:Hid (Zea n s):=⟨HD.out.1,by rw[HD.out.2.1,HV.out]⟩
   have HSZ:Hid (s.size<=4000000/\(s.size=0->n=0)):=⟨by rw[<- Zy,HD.out.2.2];omega,fun h=>by
    have h1:=HD.out.2.2
    rw[Zy,h] at h1
    have h2:xs=[]:=ZoX Za
    rw[<- HV.out,h2];rfl⟩
   go_wp2
   obtain⟨w0,rfl⟩:∃ w0:World,w0=wr:=⟨_,rfl⟩
   go_loopw [3] (fun vs wz=>∃ (s:ByteArray),vs=.string s/\Hid (Zea n s)/\Hid (s.size<=4000000/\(s.size=0->n=0))/\wz=w0) (fun vs _=>match vs with | .string s=>s.size | _=>0)
   case atStart=>exact⟨s,rfl,HSH,HSZ,rfl⟩
   case round=>
    clear HSH HSZ HD HI
    obtain⟨s,rfl,HSH,HSZ,rfl⟩:=hrel
    have hsm:=HSZ.out.1
    rcases Zo0 s.size with h0 | h0
    ·have HE:Hid (str (Lib.decDigits n)=(⟨#[48]⟩:ByteArray)):=by show _=_;rw[HSZ.out.2 h0,ZbD];rfl
     have hl0:s.toList=[]:=by rw[Zo8];exact ZoX (by rw[Zy];exact h0)
     go_wp2
     go_ret
     exact⟨by rw[HE.out];rfl,HB.out⟩
    ·obtain⟨c,hc⟩:=ZpB (s[0]'h0)
     have hne:s.toList.isEmpty=false:=by rw[Zo8,List.isEmpty_eq_false_iff];exact ZoT (by rw[Zy];exact h0)
     by_cases h1:1<s.size
     ·have h1':(1:Int)<s.size:=Za
      by_cases h48:(c.toNat:Int)=48
      ·have hb:((c.toNat:Int)==48)=true:=by simp[h48]
       have HS2:Hid (Zea n (s.extract 1 s.size)):=HSH.out.tail h1 (by rw[hc];omega)
       have hx:(s.extract 1 s.size).size=s.size-1:=by rw[<- Zy,ZiZ,List.length_drop,Zy]
       have HSZ2:Hid ((s.extract 1 s.size).size<=4000000/\((s.extract 1 s.size).size=0->n=0)):=⟨Za,fun h=>Za⟩
       have HXS:Hid ((s.extract 1 s.size).size<s.size):=by show _<_;omega
       clear hx hne h48
       go_wp2
       go_roundw
       case rel=>exact⟨s.extract 1 s.size,rfl,HS2,HSZ2,by first | rfl | trivial⟩
       case measure=>exact HXS.out
      ·have hb:((c.toNat:Int)==48)=false:=by simp[h48]
       have HE:Hid (s=str (Lib.decDigits n)):=HSH.out.done h0 (fun⟨_,h⟩=>by rw[hc] at h;omega)
       clear h48
       go_wp2
       go_ret
       exact⟨by rw[<- HE.out];rfl,HB.out⟩
     ·have h1':¬ (1:Int)<s.size:=Za
      have HE:Hid (s=str (Lib.decDigits n)):=HSH.out.done h0 (fun⟨h,_⟩=>h1 h)
      clear h1
      go_wp2
      go_ret
      exact⟨by rw[<- HE.out];rfl,HB.out⟩
theorem Zm2 (b o i:Nat):(⟨b,o,none⟩:Addr).add i=⟨b,o+i,none⟩:=by unfold Addr.add;split<;>simp_all
theorem ZfC {w:World} {ops:Array Oper} {rest:List Oper} {o:Oper} {a:Act} {Q:Exit->Act->World->Prop} (hgd:o.guard=none) (s x:Operand) (t:TypeId)
  (ho:o.op=.call { callee:=.builtin .append,args:=#[s,x],argTypes:=#[t,t] })
  (base:Nat) (e:TypeId) (i:TypeInfo) (k:IntKind) (bytes:Nat) (ht:Tryz.prog.underlying t=some (.slice e)) (hi:Tryz.prog.info? e=some i) (hz:i.zero=some (.int k 0))
  (hsize:i.size=1) (hby:i.bytes=bytes)
  (v:Value) (n:Nat) (xs:List Value) (hs:a.eval s=v) (hown:w.ownsRow base e 1 v n xs)
  (v2:Value) (ys:List Nat) (hx:a.eval x=v2) (hv2:Nums k w v2 ys) (hf:Zif v2)
  (h63:n+ys.length<=maxLen) (hbytes:(n+ys.length)*bytes<=140737488355328) (hbase:base<=w.heap.size)
  (h:∀ v' w',w'.ownsRow base e 1 v' (n+ys.length) (xs++ys.map fun x=>Value.int k (x:Nat))->w.grownBy w' v.ownBlock->wpList Tryz.prog ops Q rest (a.put o.dst v') w'):wpList Tryz.prog ops Q (o::rest) a w:=by
 obtain⟨p,cap,rfl,h1,h2,h3⟩:=hv2
 rcases hf with hf | ⟨ad,m,c,hf⟩
 ·injection hf with e1 e2 e3
  subst e1;subst e3
  obtain rfl:ys=[]:=ZoX e2
  refine wpList_append_own_none hgd s x t ho base e i 1 ht hi v n xs hs hown hx (h v w ?_ ⟨rfl,rfl,rfl,Nat.le_refl _,fun _ _ _=>rfl⟩)
  simpa using hown
 ·injection hf with e1 e2 e3
  subst e1
  refine Zpg w hgd s x t ho base e i (.int k 0) 1 bytes ht hi hz hsize hby rfl Zd v n xs hs hown ad ys.length cap (ys.map fun x=>Value.int k (x:Nat)) hx Zc ?_ ?_ h63 hbytes hbase (fun v' w' h5 h6 _=>h v' w' h5 h6)
  ·intro j u hu
   have hj:j<ys.length:=by
    rcases ZoR j ys.length with h' | h'
    ·exact h'
    ·rw[List.getElem?_eq_none (by simpa using h')] at hu;cases hu
   obtain⟨b,off,hb,_,hat⟩:=h3 (ZoT Za)
   obtain rfl:=ZoP hb
   rw[Zm2]
   rw[hat j hj]
   rw[List.getElem?_map,Zo6 hj] at hu
   exact hu
  ·intro u hu
   obtain⟨y,_,rfl⟩:=List.mem_map.1 hu
   rfl
def sgnN (n m:Nat):Int:=if n<m then -1 else if n=m then 0 else 1
theorem Zkt {n m:Nat} (h:n<m):sgnN n m = -1:=by unfold sgnN;rw[if_pos h]
theorem Zkf {n m:Nat} (h:m<n):sgnN n m=1:=by unfold sgnN;rw[if_neg Za,if_neg Za]
theorem ZnQ (n:Nat):sgnN n n=0:=by unfold sgnN;rw[if_neg Za,if_pos rfl]
theorem ZeE {n m:Nat} : sgnN n m<0<->n<m:=by unfold sgnN;split<;>(try split)<;>omega
theorem Zkc {n m:Nat} : sgnN n m<=0<->n<=m:=by unfold sgnN;split<;>(try split)<;>omega
theorem Zl2 (p1 p2:Option Addr) (c1 c2:Nat) (l1 l2:Nat) (h1:l1<=1000000) (h2:l2<=1000000) (hne:l1≠l2) (w:World) :
  Calls Tryz.prog 116 #[.slice p1 l1 c1,.slice p2 l2 c2] w fun e w'=>e=.returned (.int .i64 (if l1<l2 then -1 else 1))/\w=w':=by
 have hb:((l1:Int) !=l2)=true:=by rw[bne_iff_ne];omega
 rcases ZoR l1 l2 with h | h
 ·have h':(l1:Int)<l2:=Za
  rw[if_pos h]
  clear hne h
  go_enter Tryz.func116,Tryz.ntmps116
  go_wp2
  go_ret
  exact⟨rfl,rfl⟩
 ·have h':¬ (l1:Int)<l2:=Za
  rw[if_neg Za]
  clear hne h
  go_enter Tryz.func116,Tryz.ntmps116
  go_wp2
  go_ret
  exact⟨rfl,rfl⟩
theorem Zlf (p1 p2:Option Addr) (c1 c2:Nat) (xs ys:List Nat) (hl:xs.length<=1000000) (hlen:ys.length=xs.length) (w:World)
  (hp1:xs≠[]->∃ b off,p1=some ⟨b,off,none⟩/\b<w.heap.size/\At .i64 w b off xs) (hp2:ys≠[]->∃ b off,p2=some ⟨b,off,none⟩/\b<w.heap.size/\At .i64 w b off ys)
  (hx:∀ x ∈ xs,x<10000) (hy:∀ x ∈ ys,x<10000) :
  Calls Tryz.prog 116 #[.slice p1 xs.length c1,.slice p2 xs.length c2] w fun e w'=>e=.returned (.int .i64 (sgnN (val 10000 xs) (val 10000 ys)))/\Below w.heap.size w w':=by
 obtain⟨n,hn⟩:=ZpB xs.length
 rw[hn] at hl ⊢
 have HN:Hid (xs.length=n/\ys.length=n):=⟨hn,Za⟩
 have HX:=Zpz hx
 have HY:=Zpz hy
 have HP1:=Zpz hp1
 have HP2:=Zpz hp2
 clear hn hx hy hp1 hp2 hlen
 go_enter Tryz.func116,Tryz.ntmps116
 go_wp2
 go_loopw [5] (fun vi wr=>∃ (k:Nat),k<=n/\vi=.int .i64 ((k:Int)-1)/\Hid (xs.drop k=ys.drop k)/\Zpt w wr) (fun vi _=>(intOf vi+1).toNat)
 case atStart=>exact⟨n,Nat.le_refl _,rfl,by show _=_;rw[List.drop_of_length_le (by rw[HN.out.1];exact Nat.le_refl _),List.drop_of_length_le (by rw[HN.out.2];exact Nat.le_refl _)],ZoL _ _⟩
 case round=>
  obtain⟨k,hk,rfl,HK,HB⟩:=hrel
  rcases Zo0 k with h0 | h0
  ·subst h0
   have HE:Hid (xs=ys):=HK.out
   clear HK
   go_wp2
   go_ret
   exact⟨by rw[HE.out,ZnQ];rfl,HB.out⟩
  ·obtain⟨j,rfl⟩:∃ j,k=j+1:=⟨k-1,Za⟩
   have hj1:j<xs.length:=by rw[HN.out.1];omega
   have hj2:j<ys.length:=by rw[HN.out.2];omega
   obtain⟨b1,o1,rfl,hb1,a1⟩:=HP1.out (ZoT Za)
   obtain⟨b2,o2,rfl,hb2,a2⟩:=HP2.out (ZoT Za)
   obtain⟨x,hx⟩:=ZpB (xs[j])
   obtain⟨y,hy⟩:=ZpB (ys[j])
   have HXY:Hid (xs[j]=x/\ys[j]=y):=⟨hx,hy⟩
   have HC:Hid (∀ W,Below w.heap.size w W->W.cell? ⟨b1,o1+j,none⟩=some (.int .i64 (x:Nat))/\W.cell? ⟨b2,o2+j,none⟩=some (.int .i64 (y:Nat))):=fun W hW=>
    ⟨by rw[<- hx];exact(hW.cell (p:=⟨b1,o1+j,none⟩) hb1).trans (a1 j hj1),by rw[<- hy];exact(hW.cell (p:=⟨b2,o2+j,none⟩) hb2).trans (a2 j hj2)⟩
   have ej:((j+1:Nat):Int)-1=(j:Nat):=Za
   rw[ej]
   clear a1 a2 hx hy ej
   have hjl:(j:Int)<n:=Za
   have hj0:(0:Int)<=(j:Int):=Za
   obtain⟨w1,hw1⟩:∃ w1:World,wr=w1:=⟨_,rfl⟩
   subst hw1
   obtain⟨e1,e2⟩:=HC.out wr HB.out
   go_wp2_with fail
   go_region
   clear e1 e2
   obtain⟨w2,hw2⟩:=ZpB wr.drew
   have HB2:Zpt w w2:=by rw[<- hw2];exact HB.out.drew
   rw[hw2]
   clear hw2
   rcases ZoR x y with hlt | hge
   ·have HS:Hid (sgnN (val 10000 xs) (val 10000 ys) = -1):=Zkt (Zct HX.out hj1 (by rw[HN.out.1,HN.out.2]) HK.out (by rw[HXY.out.1,HXY.out.2];exact hlt))
    have h1:(x:Int)<y:=Za
    clear hlt
    go_wp2
    go_ret
    exact⟨by rw[HS.out];rfl,HB2.out⟩
   ·have h1:¬ (x:Int)<y:=Za
    obtain⟨e1,e2⟩:=HC.out w2 HB2.out
    go_wp2_with fail
    go_region
    clear e1 e2
    obtain⟨w3,hw3⟩:=ZpB w2.drew
    have HB3:Zpt w w3:=by rw[<- hw3];exact HB2.out.drew
    rw[hw3]
    clear hw3
    rcases ZoR y x with hgt | heq
    ·have HS:Hid (sgnN (val 10000 xs) (val 10000 ys)=1):=Zkf (Zct HY.out hj2 (by rw[HN.out.1,HN.out.2]) HK.out.symm (by rw[HXY.out.1,HXY.out.2];exact hgt))
     have h2:(y:Int)<x:=Za
     clear hgt
     go_wp2
     go_ret
     exact⟨by rw[HS.out];rfl,HB3.out⟩
    ·obtain rfl:x=y:=Za
     have HK2:Hid (xs.drop j=ys.drop j):=by
      show _=_
      rw[List.drop_eq_getElem_cons hj1,List.drop_eq_getElem_cons hj2,HK.out,HXY.out.1,HXY.out.2]
     have h2:¬ (x:Int)<x:=Za
     go_wp2
     go_roundw
     case rel=>exact⟨j,Za,by go_num,HK2,HB3⟩
     case measure=>simp[intOf]<;>omega
theorem Zd4 {v1 v2:Value} {n m:Nat} {w:World} (h1:PNum w v1 n) (h2:PNum w v2 m) (hl1:(Zp 10000 n).length<=1000000) (hl2:(Zp 10000 m).length<=1000000) :
  Calls Tryz.prog 116 #[v1,v2] w fun e w'=>e=.returned (.int .i64 (sgnN n m))/\Below w.heap.size w w':=by
 obtain⟨p1,c1,rfl,_,_,hp1⟩:=h1.1
 obtain⟨p2,c2,rfl,_,_,hp2⟩:=h2.1
 by_cases hlen:(Zp 10000 n).length=(Zp 10000 m).length
 ·rw[<- hlen]
  have:=Zlf p1 p2 c1 c2 _ _ hl1 hlen.symm w hp1 hp2 (ZJ Za n) (ZJ Za m)
  rwa [ZA Za,ZA Za] at this
 ·refine(Zl2 p1 p2 c1 c2 _ _ hl1 hl2 hlen w).mono ?_
  rintro e w' ⟨rfl,rfl⟩
  refine⟨?_,ZoL _ _⟩
  rcases Nat.lt_or_gt_of_ne hlen with h | h
  ·rw[if_pos h,Zkt (ZbZ (B:=10000) Za h)]
  ·rw[if_neg Za,Zkf (ZbZ (B:=10000) Za h)]
end Go.Proofs.YtmpaflidennnoaaGreatDoor
