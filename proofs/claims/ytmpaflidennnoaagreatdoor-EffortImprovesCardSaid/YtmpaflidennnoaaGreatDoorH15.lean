/- The parts Float2, ESur1, EValues, EGreatB. -/
import Derived.Test.YtmpaflidennnoaaGreatDoorH14
set_option maxRecDepth 100000
set_option maxHeartbeats 8000000
set_option linter.unusedVariables false
set_option linter.unusedSimpArgs false
namespace Go.Proofs.YtmpaflidennnoaaGreatDoor
open Go.RowKit Go.Shelf
attribute [local go_sem ↓] Go.wp_at_zero Go.wp_at_succ
section
variable {P:Program} {ops:Array Oper} {Q:Exit->Act->World->Prop} {md:Region.Mode} {I:World->Prop} {S:Nat->Option Nat->World->Prop} {bar:Nat->Bool}
def Zda (P:Program) (ops:Array Oper) (Q:Exit->Act->World->Prop) (I:World->Prop) (S:Nat->Option Nat->World->Prop) (bar:Nat->Bool) (d:Nat) (tl:List (Nat×Nat)):List (Nat×Nat)->Nat->Act->Prop
 | [],j,a=>∀ G w,S j (some G) w->Zah P ops Q (I) bar tl (a.put (some d) (.pointer (some ⟨G,0,none⟩))) w
 | (1,i)::ks,j,a=>∃ o v,ops[i]?=some o/\(∀ z,YieldsIf P ops (I) o v (a.put (some d) z))/\Zda P ops Q I S bar d tl ks j (a.put o.dst v)
 | (0,i)::ks,j,a=>∃ o,ops[i]?=some o/\(((∀ z,Region.wanted o (yielded ops (a.put (some d) z).tmps)=true)/\∀ z g w,S j g w->o.wp P (a.put (some d) z) w (fun a' w'=>∃ v j',a'=(a.put (some d) z).put o.dst v/\S j' g w'/\Zda P ops Q I S bar d tl ks j' (a.put o.dst v)) Q)\/
   ((∀ z,Region.wanted o (yielded ops (a.put (some d) z).tmps)=false)/\Zda P ops Q I S bar d tl ks j (a.put o.dst undef)))
 | (_+2,i)::ks,j,a=>∃ o v,ops[i]?=some o/\(∀ z,YieldsIf P ops (fun _=>True) o v (a.put (some d) z))/\Zda P ops Q I S bar d tl ks j (a.put o.dst v)
theorem Zbb (hI:∀ j g w,S j g w->I w) {fl d:Nat} (hs:ZaP ops fl d=true) {tl:List (Nat×Nat)} : ∀ (ks:List (Nat×Nat)) (j:Nat) (a:Act) (G:Nat) (w:World),(ks.all fun k=>decide (k.2≠fl))=true->S j (some G) w->Zda P ops Q I S bar d tl ks j a->
  Zah P ops Q (I) bar (ks++tl) (a.put (some d) (.pointer (some ⟨G,0,none⟩))) w
 | [],j,a,G,w,_,hS,h=>h G w hS
 | (1,i)::ks,j,a,G,w,hk,hS,h=>by
  simp only[List.all_cons,Zpj,Zpk] at hk
  obtain⟨o,v,h0,hy,hrest⟩:=h
  refine⟨o,v,h0,hy _,?_⟩
  rw[ZE _ _ _ (ZD hs h0 hk.1)]
  exact Zbb hI hs ks j _ G w hk.2 hS hrest
 | (0,i)::ks,j,a,G,w,hk,hS,h=>by
  simp only[List.all_cons,Zpj,Zpk] at hk
  obtain⟨o,h0,h⟩:=h
  refine⟨o,h0,?_⟩
  rcases h with ⟨hw,h⟩ | ⟨hw,h⟩
  ·rw[if_pos (hw _)]
   refine Oper.wp_mono (fun a' w' h'=>?_) (h _ _ _ hS)
   obtain⟨v,j',rfl,hS',hrest⟩:=h'
   refine⟨.inr (hI _ _ _ hS'),?_⟩
   rw[ZE _ _ _ (ZD hs h0 hk.1)]
   exact Zbb hI hs ks j' _ G w' hk.2 hS' hrest
  ·rw[if_neg (by rw[hw];exact Bool.false_ne_true)]
   refine⟨.inr (hI _ _ _ hS),?_⟩
   rw[ZE _ _ _ (ZD hs h0 hk.1)]
   exact Zbb hI hs ks j _ G w hk.2 hS h
 | (n+2,i)::ks,j,a,G,w,hk,hS,h=>by
  simp only[List.all_cons,Zpj,Zpk] at hk
  obtain⟨o,v,h0,hy,hrest⟩:=h
  refine⟨o,v,h0,hy _,?_⟩
  rw[ZE _ _ _ (ZD hs h0 hk.1)]
  exact Zbb hI hs ks j _ G w hk.2 hS hrest
def ZaY (md:Region.Mode) (ops:Array Oper) (bar:Nat->Bool) (fl:Nat) (tl:List (Nat×Nat)):List (Nat×Nat)->Array Bool->Bool
 | [],listed=>decide (Region.ready md ops listed=[fl]) && Zbk md ops bar tl (listed.setIfInBounds fl true)
 | (1,k)::ks,listed=>(Region.ready md ops listed).contains k && Region.free md ops listed k && !bar k && ((List.range ops.size).all fun j=>!bar j || decide (j=k) || Zcm md ops ops.size j k) && ZaY md ops bar fl tl ks (listed.setIfInBounds k true)
 | (0,k)::ks,listed=>(Region.ready md ops listed).contains k && (Region.ready md ops listed).all (fun j=>decide (j=k) || decide (j=fl)) && Zbk md ops bar (((0,k)::ks)++tl) (listed.setIfInBounds fl true) && ZaY md ops bar fl tl ks (listed.setIfInBounds k true)
 | (_+2,k)::ks,listed=>(Region.ready md ops listed).contains k && Region.free md ops listed k && bar k && ZaY md ops bar fl tl ks (listed.setIfInBounds k true)
theorem Zbh (hI:∀ j g w,S j g w->I w) (hsel:Region.noSelect ops=true) (hQ:∀ c a o v w,Q (.panic c) (a.put o v) w->Q (.panic c) a w) (hbo:∀ j,ops.size<=j->bar j=false) {fl d:Nat} {tl:List (Nat×Nat)} {of:Oper} {ob:Obj} (hof:ops[fl]?=some of) (hd:of.dst=some d)
  (hwf:∀ a:Act,Region.wanted of (yielded ops a.tmps)=true) (hal:∀ (a:Act) (w:World) (K:Act->World->Prop),K (a.put of.dst (.pointer (some ⟨w.heap.size,0,none⟩))) (w.alloc ob)->of.wp P a w K Q) (hst:∀ j w,S j none w->S j (some w.heap.size) (w.alloc ob)) (hs:ZaP ops fl d=true) :
  ∀ (ks:List (Nat×Nat)) (listed:Array Bool) (j:Nat) (a:Act) (z:Value) (w:World),(ks.all fun k=>decide (k.2≠fl))=true->ZaY md ops bar fl tl ks listed=true->Zao md ops listed->S j none w->Zda P ops Q I S bar d tl ks j a->
   wpJ P md ops Q (I) bar ((ks.length+tl.length)+1) listed (a.put (some d) z) w
 | [],listed,j,a,z,w,_,hB,hC,hS,h=>by
  simp only[ZaY,Zpj,Zpk] at hB
  obtain⟨hr,hr2⟩:=hB
  refine⟨fun h1=>(by rw[hr] at h1;cases h1),fun i hi=>?_⟩
  have hi0:=hi
  rw[hr] at hi
  obtain rfl:i=fl:=by simpa using hi
  refine ZbG hof (hwf _) (hal _ _ _ ?_)
  have hS':=hst j w hS
  refine⟨.inr (hI _ _ _ hS'),?_⟩
  have h2:=h w.heap.size _ hS'
  rw[hd,ZbX]
  have:=ZaF (md:=md) hsel hQ hbo tl _ _ _ hr2 (hC.step hi0) (.inl (hI _ _ _ hS')) h2
  simpa using this
 | (1,k)::ks,listed,j,a,z,w,hk,hB,hC,hS,h=>by
  simp only[List.all_cons,Zpj,Zpk] at hk
  simp only[ZaY,Zpj] at hB
  obtain⟨⟨⟨⟨hr,hf⟩,hbk⟩,hw⟩,hB'⟩:=hB
  obtain⟨o,v,h0,hy,hrest⟩:=h
  have hbk':bar k=false:=by simpa using hbk
  have hwait:Zcl md ops bar k:=fun j hj hne=>by
   have hjl:j<ops.size:=by
    rcases ZoR j ops.size with h' | h'
    ·exact h'
    ·rw[hbo j h'] at hj;cases hj
   rw[Zpo] at hw
   have:=hw j (List.mem_range.2 hjl)
   rw[hj] at this
   simpa[hne] using this
  have ih:=Zbh hI hsel hQ hbo hof hd hwf hal hst hs ks (listed.setIfInBounds k true) j (a.put o.dst v) z w hk.2 hB' (hC.step (by simpa using hr)) hS hrest
  rw[<- ZE _ _ _ (ZD hs h0 hk.1)] at ih
  have e:((1,k)::ks).length+tl.length+1=(ks.length+tl.length+1)+1:=by simp only[Zpl];omega
  rw[e]
  exact Zb8 h0 hsel (fun c a w=>hQ c a o.dst v w) hwait hbk' _ listed _ w hC (Region.free_spec h0 hf) (by simpa using hr) (hy _) (hI _ _ _ hS) ih
 | (0,k)::ks,listed,j,a,z,w,hk,hB,hC,hS,h=>by
  have hk0:=hk
  simp only[List.all_cons,Zpj,Zpk] at hk
  have h':=h
  simp only[ZaY,Zpj] at hB
  obtain⟨⟨⟨hr,hall⟩,hB1⟩,hB2⟩:=hB
  obtain⟨o,h0,h⟩:=h
  have e:((0,k)::ks).length+tl.length+1=(ks.length+tl.length+1)+1:=by simp only[Zpl];omega
  rw[e]
  refine⟨fun h1=>(by rw[h1] at hr;simp at hr),fun i hi=>?_⟩
  rw[Zpo] at hall
  have hik:=hall i hi
  simp only[Bool.or_eq_true,Zpk] at hik
  by_cases ek:i=k
  ·subst ek
   rcases h with ⟨hw,h⟩ | ⟨hw,h⟩
   ·refine ZbG h0 (hw _) (Oper.wp_mono (fun a' w' h''=>?_) (h _ _ _ hS))
    obtain⟨v,j',rfl,hS',hrest⟩:=h''
    refine⟨.inr (hI _ _ _ hS'),?_⟩
    rw[ZE _ _ _ (ZD hs h0 hk.1)]
    exact Zbh hI hsel hQ hbo hof hd hwf hal hst hs ks _ j' _ z w' hk.2 hB2 (hC.step hi) hS' hrest
   ·refine Zhk h0 (hw _) ⟨.inr (hI _ _ _ hS),?_⟩
    rw[ZE _ _ _ (ZD hs h0 hk.1)]
    exact Zbh hI hsel hQ hbo hof hd hwf hal hst hs ks _ j _ z w hk.2 hB2 (hC.step hi) hS h
  ·have e2:i=fl:=by
    rcases hik with h | h
    ·exact Zpp h ek
    ·exact h
   subst e2
   refine ZbG hof (hwf _) (hal _ _ _ ?_)
   have hS':=hst j w hS
   refine⟨.inr (hI _ _ _ hS'),?_⟩
   rw[hd,ZbX]
   have hp:=Zbb hI hs ((0,k)::ks) j a w.heap.size _ hk0 hS' h'
   have:=ZaF (md:=md) hsel hQ hbo _ _ _ _ hB1 (hC.step hi) (.inl (hI _ _ _ hS')) hp
   have e3:(((0,k)::ks)++tl).length=ks.length+tl.length+1:=by simp only[Zo2,Zpl];omega
   rwa [e3] at this
 | (n+2,k)::ks,listed,j,a,z,w,hk,hB,hC,hS,h=>by
  simp only[List.all_cons,Zpj,Zpk] at hk
  simp only[ZaY,Zpj] at hB
  obtain⟨⟨⟨hr,hf⟩,hbk⟩,hB'⟩:=hB
  obtain⟨o,v,h0,hy,hrest⟩:=h
  have ih:=Zbh hI hsel hQ hbo hof hd hwf hal hst hs ks (listed.setIfInBounds k true) j (a.put o.dst v) z w hk.2 hB' (hC.step (by simpa using hr)) hS hrest
  rw[<- ZE _ _ _ (ZD hs h0 hk.1)] at ih
  have e:((n+2,k)::ks).length+tl.length+1=(ks.length+tl.length+1)+1:=by simp only[Zpl];omega
  rw[e]
  exact Zdf h0 hsel (fun c a w=>hQ c a o.dst v w) hbk _ listed _ w (Region.free_spec h0 hf) (by simpa using hr) (hy _) ih
end
section
variable {P:Program} {ops:Array Oper} {Q:Exit->Act->World->Prop} {md:Region.Mode} {S:Nat->Option Nat->Option Nat->World->Prop} {bar:Nat->Bool}
def AnyT (S:Nat->Option Nat->Option Nat->World->Prop) (w:World):Prop:=∃ j g h,S j g h w
def two (d e:Nat) (a:Act) (z y:Value):Act:=(a.put (some d) z).put (some e) y
theorem Zd5 {d e:Nat} {a:Act} {f:Option Tmp} (h1:f≠some d) (h2:f≠some e) (z y v:Value):(two d e a z y).put f v=two d e (a.put f v) z y:=by
 unfold two
 rw[ZE _ _ _ h2,ZE _ _ _ h1]
theorem Zm4 {d e:Nat} (hde:d≠e) {a:Act} (z y v:Value):(two d e a z y).put (some d) v=two d e a v y:=by
 unfold two
 rw[ZE _ _ _ (fun h=>hde (ZoP h)),ZbX]
theorem Znc {d e:Nat} {a:Act} (z y v:Value):(two d e a z y).put (some e) v=two d e a z v:=by
 unfold two
 rw[ZbX]
abbrev ptrV (g:Nat):Value:=.pointer (some ⟨g,0,none⟩)
def ZaC (P:Program) (ops:Array Oper) (Q:Exit->Act->World->Prop) (S:Nat->Option Nat->Option Nat->World->Prop) (bar:Nat->Bool) (d e:Nat) (tl:List (Nat×Nat)):List (Nat×Nat)->Nat->Act->Prop
 | [],j,a=>∀ G H w,S j (some G) (some H) w->Zah P ops Q (AnyT S) bar tl (two d e a (ptrV G) (ptrV H)) w
 | (1,i)::ks,j,a=>∃ o v,ops[i]?=some o/\(∀ z y,YieldsIf P ops (AnyT S) o v (two d e a z y))/\ZaC P ops Q S bar d e tl ks j (a.put o.dst v)
 | (0,i)::ks,j,a=>∃ o,ops[i]?=some o/\(((∀ z y,Region.wanted o (yielded ops (two d e a z y).tmps)=true)/\∀ z y g h w,S j g h w->o.wp P (two d e a z y) w (fun a' w'=>∃ v j',a'=(two d e a z y).put o.dst v/\S j' g h w'/\ZaC P ops Q S bar d e tl ks j' (a.put o.dst v)) Q)\/
   ((∀ z y,Region.wanted o (yielded ops (two d e a z y).tmps)=false)/\ZaC P ops Q S bar d e tl ks j (a.put o.dst undef)))
 | (_+2,i)::ks,j,a=>∃ o v,ops[i]?=some o/\(∀ z y,YieldsIf P ops (fun _=>True) o v (two d e a z y))/\ZaC P ops Q S bar d e tl ks j (a.put o.dst v)
theorem Zb2 {f1 f2 d e:Nat} (hde:d≠e) (h1:ZaP ops f1 d=true) (h2:ZaP ops f2 e=true) {tl:List (Nat×Nat)} (G:Nat):∀ (ks:List (Nat×Nat)) (j:Nat) (a:Act),(ks.all fun k=>decide (k.2≠f1) && decide (k.2≠f2))=true->ZaC P ops Q S bar d e tl ks j a->
  Zda P ops Q (AnyT S) (fun j h w=>S j (some G) h w) bar e tl ks j (a.put (some d) (ptrV G))
 | [],j,a,_,h=>fun H w hS=>h G H w hS
 | (1,i)::ks,j,a,hk,h=>by
  simp only[List.all_cons,Zpj,Zpk] at hk
  obtain⟨o,v,h0,hy,hrest⟩:=h
  refine⟨o,v,h0,fun z=>hy _ z,?_⟩
  rw[ZE _ _ _ (ZD h1 h0 hk.1.1)]
  exact Zb2 hde h1 h2 G ks j _ (by simpa using hk.2) hrest
 | (0,i)::ks,j,a,hk,h=>by
  simp only[List.all_cons,Zpj,Zpk] at hk
  obtain⟨o,h0,h⟩:=h
  refine⟨o,h0,?_⟩
  rcases h with ⟨hw,h⟩ | ⟨hw,h⟩
  ·refine .inl ⟨fun z=>hw _ z,fun z g w hS=>Oper.wp_mono (fun a' w' h'=>?_) (h (ptrV G) z _ _ _ hS)⟩
   obtain⟨v,j',rfl,hS',hrest⟩:=h'
   refine⟨v,j',rfl,hS',?_⟩
   rw[ZE _ _ _ (ZD h1 h0 hk.1.1)]
   exact Zb2 hde h1 h2 G ks j' _ (by simpa using hk.2) hrest
  ·refine .inr ⟨fun z=>hw _ z,?_⟩
   rw[ZE _ _ _ (ZD h1 h0 hk.1.1)]
   exact Zb2 hde h1 h2 G ks j _ (by simpa using hk.2) h
 | (n+2,i)::ks,j,a,hk,h=>by
  simp only[List.all_cons,Zpj,Zpk] at hk
  obtain⟨o,v,h0,hy,hrest⟩:=h
  refine⟨o,v,h0,fun z=>hy _ z,?_⟩
  rw[ZE _ _ _ (ZD h1 h0 hk.1.1)]
  exact Zb2 hde h1 h2 G ks j _ (by simpa using hk.2) hrest
theorem Zb3 {f1 f2 d e:Nat} (hde:d≠e) (h1:ZaP ops f1 d=true) (h2:ZaP ops f2 e=true) {tl:List (Nat×Nat)} (H:Nat):∀ (ks:List (Nat×Nat)) (j:Nat) (a:Act),(ks.all fun k=>decide (k.2≠f1) && decide (k.2≠f2))=true->ZaC P ops Q S bar d e tl ks j a->
  Zda P ops Q (AnyT S) (fun j g w=>S j g (some H) w) bar d tl ks j (a.put (some e) (ptrV H))
 | [],j,a,_,h=>fun G w hS=>by
  rw[ZE _ _ _ (fun h=>hde (ZoP h))]
  exact h G H w hS
 | (1,i)::ks,j,a,hk,h=>by
  simp only[List.all_cons,Zpj,Zpk] at hk
  obtain⟨o,v,h0,hy,hrest⟩:=h
  refine⟨o,v,h0,fun z=>?_,?_⟩
  ·rw[ZE _ _ _ (fun h=>hde (ZoP h))]
   exact hy z _
  rw[ZE _ _ _ (ZD h2 h0 hk.1.2)]
  exact Zb3 hde h1 h2 H ks j _ (by simpa using hk.2) hrest
 | (0,i)::ks,j,a,hk,h=>by
  simp only[List.all_cons,Zpj,Zpk] at hk
  obtain⟨o,h0,h⟩:=h
  refine⟨o,h0,?_⟩
  have hc:∀ z,(a.put (some e) (ptrV H)).put (some d) z=two d e a z (ptrV H):=fun z=>ZE _ _ _ (fun h=>hde (ZoP h)) _ _
  rcases h with ⟨hw,h⟩ | ⟨hw,h⟩
  ·refine .inl ⟨fun z=>by rw[hc];exact hw z _,fun z g w hS=>?_⟩
   rw[hc]
   refine Oper.wp_mono (fun a' w' h'=>?_) (h z (ptrV H) _ _ _ hS)
   obtain⟨v,j',rfl,hS',hrest⟩:=h'
   refine⟨v,j',rfl,hS',?_⟩
   rw[ZE _ _ _ (ZD h2 h0 hk.1.2)]
   exact Zb3 hde h1 h2 H ks j' _ (by simpa using hk.2) hrest
  ·refine .inr ⟨fun z=>by rw[hc];exact hw z _,?_⟩
   rw[ZE _ _ _ (ZD h2 h0 hk.1.2)]
   exact Zb3 hde h1 h2 H ks j _ (by simpa using hk.2) h
 | (n+2,i)::ks,j,a,hk,h=>by
  simp only[List.all_cons,Zpj,Zpk] at hk
  obtain⟨o,v,h0,hy,hrest⟩:=h
  refine⟨o,v,h0,fun z=>?_,?_⟩
  ·rw[ZE _ _ _ (fun h=>hde (ZoP h))]
   exact hy z _
  rw[ZE _ _ _ (ZD h2 h0 hk.1.2)]
  exact Zb3 hde h1 h2 H ks j _ (by simpa using hk.2) hrest
def Zca (md:Region.Mode) (ops:Array Oper) (bar:Nat->Bool) (f1 f2:Nat) (tl:List (Nat×Nat)):List (Nat×Nat)->Array Bool->Bool
 | [],listed=>!(Region.ready md ops listed).isEmpty && (Region.ready md ops listed).all (fun j=>decide (j=f1) || decide (j=f2)) && ZaY md ops bar f2 tl [] (listed.setIfInBounds f1 true) && ZaY md ops bar f1 tl [] (listed.setIfInBounds f2 true)
 | (1,k)::ks,listed=>(Region.ready md ops listed).contains k && Region.free md ops listed k && !bar k && ((List.range ops.size).all fun j=>!bar j || decide (j=k) || Zcm md ops ops.size j k) && Zca md ops bar f1 f2 tl ks (listed.setIfInBounds k true)
 | (0,k)::ks,listed=>(Region.ready md ops listed).contains k && (Region.ready md ops listed).all (fun j=>decide (j=k) || (decide (j=f1) || decide (j=f2))) && ZaY md ops bar f2 tl ((0,k)::ks) (listed.setIfInBounds f1 true) && ZaY md ops bar f1 tl ((0,k)::ks) (listed.setIfInBounds f2 true) && Zca md ops bar f1 f2 tl ks (listed.setIfInBounds k true)
 | (_+2,k)::ks,listed=>(Region.ready md ops listed).contains k && Region.free md ops listed k && bar k && Zca md ops bar f1 f2 tl ks (listed.setIfInBounds k true)
structure Floats (P:Program) (ops:Array Oper) (Q:Exit->Act->World->Prop) (f d:Nat) (ob:Obj):Prop where
 op:∃ o,ops[f]?=some o/\o.dst=some d/\(∀ a:Act,Region.wanted o (yielded ops a.tmps)=true)/\∀ (a:Act) (w:World) (K:Act->World->Prop),K (a.put o.dst (.pointer (some ⟨w.heap.size,0,none⟩))) (w.alloc ob)->o.wp P a w K Q
theorem all1 {f1 f2:Nat} {ks:List (Nat×Nat)} (h:(ks.all fun k=>decide (k.2≠f1) && decide (k.2≠f2))=true):(ks.all fun k=>decide (k.2≠f2))=true:=by
 rw[Zpo] at h ⊢
 intro x hx
 have:=h x hx
 simp only[Zpj] at this
 exact this.2
theorem all2 {f1 f2:Nat} {ks:List (Nat×Nat)} (h:(ks.all fun k=>decide (k.2≠f1) && decide (k.2≠f2))=true):(ks.all fun k=>decide (k.2≠f1))=true:=by
 rw[Zpo] at h ⊢
 intro x hx
 have:=h x hx
 simp only[Zpj] at this
 exact this.1
theorem Zh9 (hsel:Region.noSelect ops=true) (hQ:∀ c a o v w,Q (.panic c) (a.put o v) w->Q (.panic c) a w) (hbo:∀ j,ops.size<=j->bar j=false) {f1 f2 d e:Nat} {tl:List (Nat×Nat)} {o1 o2:Obj} (hde:d≠e) (hf1:Floats P ops Q f1 d o1) (hf2:Floats P ops Q f2 e o2)
  (hst1:∀ j h w,S j none h w->S j (some w.heap.size) h (w.alloc o1)) (hst2:∀ j g w,S j g none w->S j g (some w.heap.size) (w.alloc o2)) (hs1:ZaP ops f1 d=true) (hs2:ZaP ops f2 e=true) :
  ∀ (ks:List (Nat×Nat)) (listed:Array Bool) (j:Nat) (a:Act) (z y:Value) (w:World),(ks.all fun k=>decide (k.2≠f1) && decide (k.2≠f2))=true->Zca md ops bar f1 f2 tl ks listed=true->Zao md ops listed->S j none none w->ZaC P ops Q S bar d e tl ks j a->
   wpJ P md ops Q (AnyT S) bar ((ks.length+tl.length)+2) listed (two d e a z y) w:=by
 obtain⟨q1,hq1,hd1,hw1,hl1⟩:=hf1.op
 obtain⟨q2,hq2,hd2,hw2,hl2⟩:=hf2.op
 have lay1:∀ (ks:List (Nat×Nat)) (listed:Array Bool) (j:Nat) (a:Act) (z y:Value) (w:World),(ks.all fun k=>decide (k.2≠f1) && decide (k.2≠f2))=true->ZaY md ops bar f2 tl ks (listed.setIfInBounds f1 true)=true->Zao md ops listed->f1 ∈ Region.ready md ops listed->S j none none w->ZaC P ops Q S bar d e tl ks j a->
   wpOp P ops Q f1 (fun a' w'=>(bar f1=true\/AnyT S w')/\wpJ P md ops Q (AnyT S) bar ((ks.length+tl.length)+1) (listed.setIfInBounds f1 true) a' w') (two d e a z y) w:=fun ks listed j a z y w hk hB hC hi hS h=>by
  refine ZbG hq1 (hw1 _) (hl1 _ _ _ ?_)
  have hS':=hst1 j none w hS
  refine⟨.inr ⟨_,_,_,hS'⟩,?_⟩
  rw[hd1,Zm4 hde]
  exact Zbh (I:=AnyT S) (S:=fun j h w'=>S j (some w.heap.size) h w') (fun j g w h=>⟨_,_,_,h⟩) hsel hQ hbo hq2 hd2 hw2 hl2 (fun j w' h=>hst2 j _ w' h) hs2 ks _ j _ y _ (all1 hk) hB (hC.step hi) hS' (Zb2 hde hs1 hs2 _ ks j a hk h)
 have lay2:∀ (ks:List (Nat×Nat)) (listed:Array Bool) (j:Nat) (a:Act) (z y:Value) (w:World),(ks.all fun k=>decide (k.2≠f1) && decide (k.2≠f2))=true->ZaY md ops bar f1 tl ks (listed.setIfInBounds f2 true)=true->Zao md ops listed->f2 ∈ Region.ready md ops listed->S j none none w->ZaC P ops Q S bar d e tl ks j a->
   wpOp P ops Q f2 (fun a' w'=>(bar f2=true\/AnyT S w')/\wpJ P md ops Q (AnyT S) bar ((ks.length+tl.length)+1) (listed.setIfInBounds f2 true) a' w') (two d e a z y) w:=fun ks listed j a z y w hk hB hC hi hS h=>by
  refine ZbG hq2 (hw2 _) (hl2 _ _ _ ?_)
  have hS':=hst2 j none w hS
  refine⟨.inr ⟨_,_,_,hS'⟩,?_⟩
  rw[hd2,Znc]
  unfold two
  rw[<- ZE _ _ _ (fun h=>hde (ZoP h))]
  exact Zbh (I:=AnyT S) (S:=fun j g w'=>S j g (some w.heap.size) w') (fun j g w h=>⟨_,_,_,h⟩) hsel hQ hbo hq1 hd1 hw1 hl1 (fun j w' h=>hst1 j _ w' h) hs1 ks _ j _ z _ (all2 hk) hB (hC.step hi) hS' (Zb3 hde hs1 hs2 _ ks j a hk h)
 intro ks
 induction ks with
 | nil=>
  intro listed j a z y w hk hB hC hS h
  simp only[Zca,Zpj] at hB
  obtain⟨⟨⟨hr,hall⟩,hB1⟩,hB2⟩:=hB
  refine⟨fun h1=>(by rw[h1] at hr;simp at hr),fun i hi=>?_⟩
  rw[Zpo] at hall
  have hik:=hall i hi
  simp only[Bool.or_eq_true,Zpk] at hik
  rcases hik with rfl | rfl
  ·exact lay1 [] listed j a z y w hk hB1 hC hi hS h
  ·exact lay2 [] listed j a z y w hk hB2 hC hi hS h
 | cons k0 ks ih=>
  obtain⟨kd,k⟩:=k0
  intro listed j a z y w hk hB hC hS h
  have hk0:=hk
  simp only[List.all_cons,Zpj,Zpk] at hk
  have hk2:(ks.all fun k=>decide (k.2≠f1) && decide (k.2≠f2))=true:=by simpa using hk.2
  have e0:((kd,k)::ks).length+tl.length+2=(ks.length+tl.length+2)+1:=by simp only[Zpl];omega
  match kd,hB,h,e0,hk0 with
  | 1,hB,h,e0,hk0=>
   simp only[Zca,Zpj] at hB
   obtain⟨⟨⟨⟨hr,hf⟩,hbk⟩,hw⟩,hB'⟩:=hB
   obtain⟨o,v,h0,hy,hrest⟩:=h
   have hbk':bar k=false:=by simpa using hbk
   have hwait:Zcl md ops bar k:=fun j hj hne=>by
    have hjl:j<ops.size:=by
     rcases ZoR j ops.size with h' | h'
     ·exact h'
     ·rw[hbo j h'] at hj;cases hj
    rw[Zpo] at hw
    have:=hw j (List.mem_range.2 hjl)
    rw[hj] at this
    simpa[hne] using this
   have ih':=ih (listed.setIfInBounds k true) j (a.put o.dst v) z y w hk2 hB' (hC.step (by simpa using hr)) hS hrest
   rw[<- Zd5 (ZD hs1 h0 hk.1.1) (ZD hs2 h0 hk.1.2)] at ih'
   rw[e0]
   exact Zb8 h0 hsel (fun c a w=>hQ c a o.dst v w) hwait hbk' _ listed _ w hC (Region.free_spec h0 hf) (by simpa using hr) (hy _ _) ⟨_,_,_,hS⟩ ih'
  | 0,hB,h,e0,hk0=>
   have h':=h
   simp only[Zca,Zpj] at hB
   obtain⟨⟨⟨⟨hr,hall⟩,hB1⟩,hB2⟩,hB3⟩:=hB
   obtain⟨o,h0,hh⟩:=h
   rw[e0]
   refine⟨fun h1=>(by rw[h1] at hr;simp at hr),fun i hi=>?_⟩
   rw[Zpo] at hall
   have hik:=hall i hi
   simp only[Bool.or_eq_true,Zpk] at hik
   have e3:((0,k)::ks).length+tl.length+1=ks.length+tl.length+2:=by simp only[Zpl];omega
   by_cases ek:i=k
   ·subst ek
    rcases hh with ⟨hw,hh⟩ | ⟨hw,hh⟩
    ·refine ZbG h0 (hw _ _) (Oper.wp_mono (fun a' w' h''=>?_) (hh _ _ _ _ _ hS))
     obtain⟨v,j',rfl,hS',hrest⟩:=h''
     refine⟨.inr ⟨_,_,_,hS'⟩,?_⟩
     rw[Zd5 (ZD hs1 h0 hk.1.1) (ZD hs2 h0 hk.1.2)]
     exact ih _ j' _ z y w' hk2 hB3 (hC.step hi) hS' hrest
    ·refine Zhk h0 (hw _ _) ⟨.inr ⟨_,_,_,hS⟩,?_⟩
     rw[Zd5 (ZD hs1 h0 hk.1.1) (ZD hs2 h0 hk.1.2)]
     exact ih _ j _ z y w hk2 hB3 (hC.step hi) hS hh
   ·rcases hik with h2 | h2 | h2
    ·exact Zpp h2 ek
    ·subst h2
     have:=lay1 ((0,k)::ks) listed j a z y w hk0 hB1 hC hi hS h'
     rwa [e3] at this
    ·subst h2
     have:=lay2 ((0,k)::ks) listed j a z y w hk0 hB2 hC hi hS h'
     rwa [e3] at this
  | n+2,hB,h,e0,hk0=>
   simp only[Zca,Zpj] at hB
   obtain⟨⟨⟨hr,hf⟩,hbk⟩,hB'⟩:=hB
   obtain⟨o,v,h0,hy,hrest⟩:=h
   have ih':=ih (listed.setIfInBounds k true) j (a.put o.dst v) z y w hk2 hB' (hC.step (by simpa using hr)) hS hrest
   rw[<- Zd5 (ZD hs1 h0 hk.1.1) (ZD hs2 h0 hk.1.2)] at ih'
   rw[e0]
   exact Zdf h0 hsel (fun c a w=>hQ c a o.dst v w) hbk _ listed _ w (Region.free_spec h0 hf) (by simpa using hr) (hy _ _) ih'
def Ziv (l:List Oper) (f1 f2 d e:Nat) (tl:List (Nat×Nat)) (ks:List (Nat×Nat)) (bar:Nat->Bool):Bool:=
 Region.noSelect l.toArray && decide ((ks.length+tl.length)+2=l.length) && Zca .any l.toArray bar f1 f2 tl ks (Array.replicate l.toArray.size false) && ZaP l.toArray f1 d && ZaP l.toArray f2 e && decide (d≠e) && ks.all fun k=>decide (k.2≠f1) && decide (k.2≠f2)
theorem ZmQ {d e:Nat} (a:Act):two d e a (a.tmps.getD d undef) (a.tmps.getD e undef)=a:=by
 unfold two
 rw[ZdG,ZdG]
theorem ZfD {id:Nat} {a:Act} {w:World} {l:List Oper} (f1 f2 d e:Nat) (tl:List (Nat×Nat)) (ks:List (Nat×Nat)) (S:Nat->Option Nat->Option Nat->World->Prop) (bar:Nat->Bool) {o1 o2:Obj} (hm:P.follows .mixedOrders=true)
  (hB:Ziv l f1 f2 d e tl ks bar=true) (hbo:∀ j,l.length<=j->bar j=false) (hQ:∀ c a o v w,Q (.panic c) (a.put o v) w->Q (.panic c) a w) (hf1:Floats P l.toArray Q f1 d o1) (hf2:Floats P l.toArray Q f2 e o2)
  (hst1:∀ j h w,S j none h w->S j (some w.heap.size) h (w.alloc o1)) (hst2:∀ j g w,S j g none w->S j g (some w.heap.size) (w.alloc o2)) (hS:S 0 none none w.drew)
  (H:ZaC P l.toArray Q S bar d e tl ks 0 a):(Code.region id l.toArray true).wp P Q a w:=by
 simp only[Ziv,Zpj,Zpk] at hB
 obtain⟨⟨⟨⟨⟨⟨hsel,hn⟩,hb⟩,hs1⟩,hs2⟩,hde⟩,hk⟩:=hB
 have:=ZbP _ _ _ _ (Zh9 (md:=.any) hsel hQ (fun j hj=>hbo j (by simpa using hj)) hde hf1 hf2 hst1 hst2 hs1 hs2 ks _ 0 a (a.tmps.getD d undef) (a.tmps.getD e undef) w.drew hk hb Zao.start hS H)
 rw[hn,ZmQ] at this
 exact wp_region_any hm (by simpa using this)
theorem Zck {i d e j:Nat} {tl:List (Nat×Nat)} {o:Oper} {ks:List (Nat×Nat)} {a:Act} (v:Value) (ho:ops[i]?=some o) (hw:∀ z y,Region.wanted o (yielded ops (two d e a z y).tmps)=true) (hv:∀ z y j g h w,S j g h w->(execOp (two d e a z y).eval o).run P w=.ok (.value v) w)
  (h:ZaC P ops Q S bar d e tl ks j (a.put o.dst v)):ZaC P ops Q S bar d e tl ((1,i)::ks) j a:=⟨o,v,ho,fun z y=>.inl ⟨hw z y,fun w ⟨j,g,h,hS⟩=>hv z y j g h w hS⟩,h⟩
theorem Zc6 {i d e j:Nat} {tl:List (Nat×Nat)} {o:Oper} {ks:List (Nat×Nat)} {a:Act} (f:FuncId) (args:Array Value) (ho:ops[i]?=some o) (hw:∀ z y,Region.wanted o (yielded ops (two d e a z y).tmps)=true)
  (he:∀ z y w,(execOp (two d e a z y).eval o).run P w=.ok (.enter f args) w)
  (h:∀ g h w,S j g h w->Calls P f args w fun e' w'=>(∃ v,e'=.returned v/\S (j+1) g h w'/\ZaC P ops Q S bar d e tl ks (j+1) (a.put o.dst v))\/∃ c,e'=.panicked c/\∀ z y,Q (.panic c) (two d e a z y) w') :
  ZaC P ops Q S bar d e tl ((0,i)::ks) j a:=⟨o,ho,.inl ⟨hw,fun z y g h' w hS=>by
   unfold Oper.wp
   rw[he z y w,Oper.upon_enter]
   refine(h g h' w hS).mono fun e' w' h=>?_
   rcases h with ⟨v,rfl,h1,h2⟩ | ⟨c,rfl,h1⟩
   ·exact⟨v,_,rfl,h1,h2⟩
   ·exact h1 _ _⟩⟩
theorem Ze3 {i d e j:Nat} {tl:List (Nat×Nat)} {o:Oper} {ks:List (Nat×Nat)} {a:Act} (f:FuncId) (args:Array Value) (ho:ops[i]?=some o) (hw:∀ z y,Region.wanted o (yielded ops (two d e a z y).tmps)=true)
  (he:∀ z y w,(execOp (two d e a z y).eval o).run P w=.ok (.enter f args) w)
  (h:∀ g h w,S j g h w->Calls P f args w fun e' w'=>∃ v j',e'=.returned v/\S j' g h w'/\ZaC P ops Q S bar d e tl ks j' (a.put o.dst v)) :
  ZaC P ops Q S bar d e tl ((0,i)::ks) j a:=⟨o,ho,.inl ⟨hw,fun z y g h' w hS=>by
   unfold Oper.wp
   rw[he z y w,Oper.upon_enter]
   refine(h g h' w hS).mono fun e' w' h=>?_
   obtain⟨v,j',rfl,h1,h2⟩:=h
   exact⟨v,j',rfl,h1,h2⟩⟩⟩
theorem ZgU {d e j:Nat} {tl:List (Nat×Nat)} {a:Act} (h:∀ G H w,S j (some G) (some H) w->Zah P ops Q (AnyT S) bar tl (two d e a (ptrV G) (ptrV H)) w):ZaC P ops Q S bar d e tl [] j a:=h
end
structure Laid2 (w1:World) (oA oB:Obj) (g h:Option Nat) (V:World):Prop where
 base:Below w1.heap.size w1 V
 a:∀ G,g=some G->w1.heap.size<=G/\V.heap[G]?=some oA
 b:∀ H,h=some H->w1.heap.size<=H/\V.heap[H]?=some oB
 ne:∀ G H,g=some G->h=some H->G≠H
theorem Laid2.start (w1:World) (oA oB:Obj):Laid2 w1 oA oB none none w1.drew:=⟨(ZoL _ w1).drew,fun G h=>(by cases h),fun G h=>(by cases h),fun G H h=>(by cases h)⟩
theorem Laid2.step {w1:World} {oA oB:Obj} {g h:Option Nat} {V V':World} (L:Laid2 w1 oA oB g h V) (hb:Below V.heap.size V V'):Laid2 w1 oA oB g h V':=by
 refine⟨L.base.trans (hb.mono L.base.size),fun G hG=>?_,fun H hH=>?_,L.ne⟩
 ·obtain⟨h1,h2⟩:=L.a G hG
  exact⟨h1,(hb.block G (Zpu h2)).trans h2⟩
 ·obtain⟨h1,h2⟩:=L.b H hH
  exact⟨h1,(hb.block H (Zpu h2)).trans h2⟩
theorem Laid2.lay1 {w1:World} {oA oB:Obj} {h:Option Nat} {V:World} (L:Laid2 w1 oA oB none h V):Laid2 w1 oA oB (some V.heap.size) h (V.alloc oA):=by
 have hb:Below V.heap.size V (V.alloc oA):=(ZoL _ V).alloc ZpA _
 have L2:=L.step hb
 refine⟨L2.base,fun G hG=>?_,L2.b,fun G H hG hH=>?_⟩
 ·obtain rfl:=ZoP hG
  exact⟨L.base.size,ZoO V oA⟩
 ·obtain rfl:=ZoP hG
  have:=(ZoK.1 (L.b H hH).2).1
  omega
theorem Laid2.lay2 {w1:World} {oA oB:Obj} {g:Option Nat} {V:World} (L:Laid2 w1 oA oB g none V):Laid2 w1 oA oB g (some V.heap.size) (V.alloc oB):=by
 have hb:Below V.heap.size V (V.alloc oB):=(ZoL _ V).alloc ZpA _
 have L2:=L.step hb
 refine⟨L2.base,L2.a,fun H hH=>?_,fun G H hG hH=>?_⟩
 ·obtain rfl:=ZoP hH
  exact⟨L.base.size,ZoO V oB⟩
 ·obtain rfl:=ZoP hH
  have:=(ZoK.1 (L.a G hG).2).1
  omega
structure SurW (b Bw Bi Bc Bq i sb so N sc:Nat) (s1 s2 c1 c2:ByteArray) (V:World):Prop where
 pw:V.cell? ⟨Bw,0,none⟩=some (.pointer (some ⟨b,0,none⟩))
 pi:V.cell? ⟨Bi,0,none⟩=some (.int .i64 i)
 pc:V.cell? ⟨Bc,0,none⟩=some (.pointer (some ⟨Bq,0,none⟩))
 ps:V.cell? ⟨b,0,none⟩=some (.slice (some ⟨sb,so,none⟩) N sc)
 v1:V.cell? ⟨sb,so+i*3,none⟩=some (.string s1)
 v2:V.cell? ⟨sb,so+i*3+1,none⟩=some (.string s2)
 q1:V.cell? ⟨Bq,0,none⟩=some (.string c1)
 q2:V.cell? ⟨Bq,1,none⟩=some (.string c2)
 tabs:Tabs V
 eff:EffZ V
noncomputable def posR (x:Rat):Rat:=if x<=0 then 0 else x
theorem Zjh {b Bw Bi Bc Bq i sb so N sc:Nat} {s1 s2 c1 c2:ByteArray} {wq cq hq kq:Rat} {bd:BB} {w:World} (hF:∀ V,Below w.heap.size w V->SurW b Bw Bi Bc Bq i sb so N sc s1 s2 c1 c2 V) (hi:i<N) (hN:N<=24) (hsc:N<=sc/\sc<=9223372036854775807)
  (hw:IsP wq s1 s2) (hc:IsP cq c1 c2) (hh:IsP hq bd.2.1 bd.2.2) (hk:IsP kq bd.1.1 bd.1.2) (zw:Sz 9 wq) (zc:Sz 309 cq) (zh:Sz 18 hq) (zk:Sz 18 kq) :
  Calls Tryz.prog 172 #[bV bd,.pointer (some ⟨Bw,0,none⟩),.pointer (some ⟨Bi,0,none⟩),.pointer (some ⟨Bc,0,none⟩)] w (fun e w'=>∃ x y,e=.returned (pV x y)/\IsP (posR (wq*hq-cq*kq)) x y/\Below w.heap.size w w'):=by
 obtain⟨⟨k1,k2⟩,h1,h2⟩:=bd
 dsimp only at hh hk
 obtain⟨xa,ya,hxa⟩:=Zaa (Rat.mul_nonneg hw.nn hh.nn) (Sz.mul hw.nn hh.nn zw zh) Zd Zd
 obtain⟨xb,yb,hxb⟩:=Zaa (Rat.mul_nonneg hc.nn hk.nn) (Sz.mul hc.nn hk.nn zc zk) Zd Zd
 have hsub:wq*hq-cq*kq<=0\/∃ x y,IsP (wq*hq-cq*kq) x y:=by
  by_cases h:wq*hq-cq*kq<=0
  ·exact .inl h
  ·refine .inr (Zaa Zk (Sz.sub hxa.nn hxb.nn Zk (Sz.mul hw.nn hh.nn zw zh) (Sz.mul hc.nn hk.nn zc zk)) Zd Zd)
 have HSUB:=Zpz hsub
 have HXA:=Zpz hxa
 have HXB:=Zpz hxb
 have HW:=Zpz hw
 have HC:=Zpz hc
 have HH:=Zpz hh
 have HK:=Zpz hk
 obtain⟨G,hG⟩:=ZpB w.heap.size
 obtain⟨w1,hw1⟩:=ZpB ((w.alloc (bObj ((k1,k2),h1,h2))).alloc (pObj Zpv Zpv))
 have hb1:Below w.heap.size w w1:=by rw[<- hw1];exact((ZoL _ w).alloc ZpA _).alloc Zc _
 have g0:w1.heap[G]?=some (bObj ((k1,k2),h1,h2)):=by
  rw[<- hw1,<- hG]
  exact(Zo1 _ _ _ Zc).trans (ZoO w _)
 have g1:w1.heap[G+1]?=some (pObj Zpv Zpv):=by
  rw[<- hw1,<- hG]
  have:=ZoO (w.alloc (bObj ((k1,k2),h1,h2))) (pObj Zpv Zpv)
  rwa [Zpa] at this
 have HFV:Hid (∀ V,Below w1.heap.size w1 V->SurW b Bw Bi Bc Bq i sb so N sc s1 s2 c1 c2 V/\V.heap[G]?=some (bObj ((k1,k2),h1,h2))/\V.heap[G+1]?=some (pObj Zpv Zpv)):=fun V hV=>
  ⟨hF V (hb1.trans (hV.mono hb1.size)),(hV.block _ (Zpu g0)).trans g0,(hV.block _ (Zpu g1)).trans g1⟩
 have HB1:=Zpz hb1
 have HGG:=Zpz hG
 have i0':(0:Int)<=(i:Int):=Za
 have i1':(i:Int)<(N:Int):=Za
 have hG1:G+1<w1.heap.size:=(Zpu g1)
 clear hF hw hc hh hk zw zc zh zk hxa hxb hb1 hsub g0 g1
 go_enter Tryz.func172,Tryz.ntmps172
 go_wp2_with fail
 try rw[hw1]
 try rw[hG]
 clear hw1 hG
 refine ZfD 24 25 6 7 [(0,26),(0,27)] [(1,0),(1,1),(1,2),(1,3),(1,4),(1,5),(1,6),(1,7),(1,8),(1,9),(1,10),(1,15),(1,16),(1,17),(1,18),(1,19),(0,11),(1,12),(1,13),(0,14),(0,20),(1,21),(1,22),(0,23)] (fun _ g h V=>Laid2 w1 (pObj Zpv Zpv) (pObj Zpv Zpv) g h V) (fun i=>i==26 || i==27)
  Zb Zb (fun j hj=>by have h:28<=j:=hj;simp;omega) Zi
  ⟨_,rfl,rfl,fun _=>rfl,fun a V K hK=>by go_simp;exact hK⟩ ⟨_,rfl,rfl,fun _=>rfl,fun a V K hK=>by go_simp;exact hK⟩ (fun j h V L=>L.lay1) (fun j g V L=>L.lay2) (Laid2.start _ _ _) ?_
 iterate 16
  refine Zck _ rfl (fun z y=>rfl) (fun z y j g h w' hS=>by obtain⟨⟨e0,e1,e2,e3,e4,e5,e6,e7,_,_⟩,hb,_⟩:=HFV.out _ hS.base;have d0:=Zn hb 0 (v:=.string k1) rfl;have d1:=Zn hb 1 (v:=.string k2) rfl;have d2:=Zn hb 2 (v:=.string h1) rfl;have d3:=Zn hb 3 (v:=.string h2) rfl;simp only[two,Act.put,Zm];exact Ze) ?_
  simp only[Act.put,Zl]
 refine Zc6 119 _ rfl (fun z y=>rfl) (fun z y w'=>by simp only[two,Act.put,Zm];exact Zf) (fun g h V hS=>?_)
 refine(ZdY HW.out HH.out HXA.out rfl _ (HFV.out _ hS.base).1.tabs).mono ?_
 rintro e V' ⟨rfl,hb⟩
 refine .inl ⟨_,rfl,hS.step hb,?_⟩
 clear hb hS
 simp only[Act.put,Zl]
 iterate 2
  refine Zck _ rfl (fun z y=>rfl) (fun z y j g h w' hS=>by skip;simp only[two,Act.put,Zm];exact Ze) ?_
  simp only[Act.put,Zl]
 refine Zc6 103 _ rfl (fun z y=>rfl) (fun z y w'=>by simp only[two,Act.put,Zm];exact Zf) (fun g h V hS=>?_)
 refine(ZaH xa ya _).mono ?_
 rintro e V' ⟨rfl,hb⟩
 refine .inl ⟨_,rfl,hS.step hb,?_⟩
 clear hb hS
 simp only[Act.put,Zl]
 refine Zc6 119 _ rfl (fun z y=>rfl) (fun z y w'=>by simp only[two,Act.put,Zm];exact Zf) (fun g h V hS=>?_)
 refine(ZdY HC.out HK.out HXB.out rfl _ (HFV.out _ hS.base).1.tabs).mono ?_
 rintro e V' ⟨rfl,hb⟩
 refine .inl ⟨_,rfl,hS.step hb,?_⟩
 clear hb hS
 simp only[Act.put,Zl]
 iterate 2
  refine Zck _ rfl (fun z y=>rfl) (fun z y j g h w' hS=>by skip;simp only[two,Act.put,Zm];exact Ze) ?_
  simp only[Act.put,Zl]
 refine Zc6 103 _ rfl (fun z y=>rfl) (fun z y w'=>by simp only[two,Act.put,Zm];exact Zf) (fun g h V hS=>?_)
 refine(ZaH xb yb _).mono ?_
 rintro e V' ⟨rfl,hb⟩
 refine .inl ⟨_,rfl,hS.step hb,?_⟩
 clear hb hS
 simp only[Act.put,Zl]
 refine ZgU fun g h V hS=>?_
 simp only[two]
 simp only[Act.put,Zl]
 obtain⟨hg1,hg2⟩:=hS.a _ rfl
 obtain⟨hh1,hh2⟩:=hS.b _ rfl
 have hne:=hS.ne _ _ rfl rfl
 have HLB:Zpt w1 V:=hS.base
 clear hS
 have c0:=Zn hg2 0 (v:=.string Zpv) rfl
 have c1':=Zn hg2 1 (v:=.string Zpv) rfl
 have f0:=Zo hg2 0
 have f1:=Zo hg2 1
 refine ZB rfl rfl fun K hK=>?_
 go_simp
 obtain⟨V1,hV1⟩:=ZpB ((V.setCell ⟨g,0,none⟩ (.string xa)).setCell ⟨g,1,none⟩ (.string ya))
 have hg3:V1.heap[g]?=some (pObj xa ya):=by rw[<- hV1];exact Zan hg2 _ _
 have hh3:V1.heap[h]?=some (pObj Zpv Zpv):=by rw[<- hV1];exact((ZoN _ _ _ _ (by show h≠g;exact fun e=>hne e.symm)).trans (ZoN _ _ _ _ (by show h≠g;exact fun e=>hne e.symm))).trans hh2
 have HLB1:Zpt w1 V1:=by rw[<- hV1];exact Zs HLB.out hg1 _ _
 rw[hV1]
 refine hK _ _ (.inl rfl) ?_
 clear hK K hV1 c0 c1' f0 f1 hg2 hh2 HLB
 have c0:=Zn hh3 0 (v:=.string Zpv) rfl
 have c1':=Zn hh3 1 (v:=.string Zpv) rfl
 have f0:=Zo hh3 0
 have f1:=Zo hh3 1
 refine ZB rfl rfl fun K hK=>?_
 go_simp
 obtain⟨V2,hV2⟩:=ZpB ((V1.setCell ⟨h,0,none⟩ (.string xb)).setCell ⟨h,1,none⟩ (.string yb))
 have hh4:V2.heap[h]?=some (pObj xb yb):=by rw[<- hV2];exact Zan hh3 _ _
 have hg4:V2.heap[g]?=some (pObj xa ya):=by rw[<- hV2];exact((ZoN _ _ _ _ (by show g≠h;exact hne)).trans (ZoN _ _ _ _ (by show g≠h;exact hne))).trans hg3
 have HLB2:Zpt w1 V2:=by rw[<- hV2];exact Zs HLB1.out hh1 _ _
 rw[hV2]
 refine hK _ _ (.inl rfl) ?_
 clear hK K hV2 c0 c1' f0 f1 hg3 hh3 HLB1
 have HGH:=Zpz (Zpq hg4 hh4)
 have a0:=Zn hg4 0 (v:=.string xa) rfl
 have a1:=Zn hg4 1 (v:=.string ya) rfl
 have b0:=Zn hh4 0 (v:=.string xb) rfl
 have b1:=Zn hh4 1 (v:=.string yb) rfl
 clear hg4 hh4
 refine ZF ?_
 obtain⟨n,hn⟩:=ZpB (sgnR (wq*hq) (cq*kq))
 go_wp2_with fail
 refine(ZbC HXA.out HXB.out hn _).mono ?_
 rintro e V3 ⟨rfl,hb⟩
 have HLB3:Zpt w1 V3:=HLB2.out.trans (hb.mono HLB2.out.size)
 have HG3:Hid (V3.heap[g]?=some (pObj xa ya)/\V3.heap[h]?=some (pObj xb yb)):=⟨(hb.block _ (Zpu HGH.out.1)).trans HGH.out.1,(hb.block _ (Zpu HGH.out.2)).trans HGH.out.2⟩
 clear hb HGH a0 a1 b0 b1 HLB2
 have HF3:=Zpz (HFV.out _ HLB3.out)
 by_cases hle:wq*hq<=cq*kq
 ·have hge:n<=0:=by rw[<- hn];exact Int.not_lt.1 (ZbA hle)
  have HPO:Hid (posR (wq*hq-cq*kq)=0):=by show _=_;unfold posR;rw[if_pos Zk]
  obtain⟨⟨_,_,_,_,_,_,_,_,_,⟨z0,z1⟩⟩,_,hr⟩:=HF3.out
  have r0:=Zn hr 0 (v:=.string Zpv) rfl
  have r1:=Zn hr 1 (v:=.string Zpv) rfl
  have f0:=Zo hr 0
  have f1:=Zo hr 1
  have HR:=Zpz hr
  clear hn hle hr HF3
  go_wp2
  obtain⟨q0,q1⟩:=Zu HR.out (.string ⟨#[48]⟩) (.string ⟨#[49]⟩)
  refine ZoM (v:=pV ⟨#[48]⟩ ⟨#[49]⟩) (by simp[results,Tryz.f172,go_sem,q0,q1]) rfl ⟨_,_,rfl,by rw[HPO.out];exact Zaf,Zs (HB1.out.trans (HLB3.out.mono HB1.out.size)) (by have:=HGG.out;omega) _ _⟩
 ·have hge:¬ n<=0:=by rw[<- hn];exact Int.not_le.2 (Zby hle)
  have hpos:¬ wq*hq-cq*kq<=0:=Zk
  obtain⟨xs,ys,hxs⟩:=HSUB.out.resolve_left hpos
  have HXS:=Zpz hxs
  have HPO:Hid (posR (wq*hq-cq*kq)=wq*hq-cq*kq):=by show _=_;unfold posR;rw[if_neg hpos]
  have a0:=Zn HG3.out.1 0 (v:=.string xa) rfl
  have a1:=Zn HG3.out.1 1 (v:=.string ya) rfl
  have b0:=Zn HG3.out.2 0 (v:=.string xb) rfl
  have b1:=Zn HG3.out.2 1 (v:=.string yb) rfl
  clear hn hle hpos hxs
  go_wp2_with fail
  refine(ZdR HXA.out HXB.out HXS.out rfl _ HF3.out.1.tabs).mono ?_
  rintro e V4 ⟨rfl,hb⟩
  have HLB4:Zpt w1 V4:=HLB3.out.trans (hb.mono HLB3.out.size)
  clear hb a0 a1 b0 b1 HLB3 HF3 HG3
  go_wp2_with fail
  refine(ZaH xs ys _).mono ?_
  rintro e V5 ⟨rfl,hb⟩
  have HLB5:Zpt w1 V5:=HLB4.out.trans (hb.mono HLB4.out.size)
  have HR:=Zpz (HFV.out _ HLB5.out).2.2
  have r0:=Zn HR.out 0 (v:=.string Zpv) rfl
  have r1:=Zn HR.out 1 (v:=.string Zpv) rfl
  have f0:=Zo HR.out 0
  have f1:=Zo HR.out 1
  clear hb HLB4
  go_wp2
  obtain⟨q0,q1⟩:=Zu HR.out (.string xs) (.string ys)
  refine ZoM (v:=pV xs ys) (by simp[results,Tryz.f172,go_sem,q0,q1]) rfl ⟨_,_,rfl,by rw[HPO.out];exact HXS.out,Zs (HB1.out.trans (HLB5.out.mono HB1.out.size)) (by have:=HGG.out;omega) _ _⟩
end Go.Proofs.YtmpaflidennnoaaGreatDoor
namespace Go.Proofs.YtmpaflidennnoaaGreatDoor
open Go.RowKit Go.Shelf
attribute [local go_sem ↓] Go.wp_at_zero Go.wp_at_succ
attribute [local go_sem] Oper.semAt_some
abbrev cuO (v:Value):Obj:=.cells #[v] 72
theorem ZkW (p:Option Addr) (n c:Nat) (w:World):Calls Tryz.prog 171 #[.slice p n c] w (fun e w'=>e=.returned (.func (.func 206) #[] #[.pointer (some ⟨w.heap.size,0,none⟩)])/\w'=w.alloc (cuO (.slice p n c))):=by
 have hmf:∀ (fn:Fn) (first cap:Array Value) (w:World),(Instr.makeFunc fn first cap).run Tryz.prog w=.ok (.func fn first cap) w:=fun _ _ _ _=>rfl
 go_enter Tryz.func171,Tryz.ntmps171
 go_wp2
 exact ZoM (by simp[results,Tryz.f171,go_sem]) rfl ⟨rfl,rfl⟩
def ValF (bs:List BB) (n Bv cb co c:Nat) (w:World):Prop:=
 w.cell? ⟨Bv,0,none⟩=some (.slice (some ⟨cb,co,none⟩) n c)/\∀ k,k<n->w.cell? ⟨cb,co+k*4,none⟩=some (.string (bAt bs k).1.1)/\w.cell? ⟨cb,co+k*4+1,none⟩=some (.string (bAt bs k).1.2)/\w.cell? ⟨cb,co+k*4+2,none⟩=some (.string (bAt bs k).2.1)/\w.cell? ⟨cb,co+k*4+3,none⟩=some (.string (bAt bs k).2.2)
theorem ZjN {bs:List BB} {n Bv cb co c:Nat} {S:Nat->Prop} {w0:World} (hn:n<=64) (hc:n<=c/\c<=9223372036854775807) (hF:∀ V,Keeps S w0 V->ValF bs n Bv cb co c V) :
  Iter Tryz.prog 206 #[.pointer (some ⟨Bv,0,none⟩)] (fun k=>#[bV (bAt bs k)]) n S (fun _=>True) w0:=by
 intro q l J Jx W hK hJ hJx hY h0
 have HFF:Hid (∀ V,Keeps S W V->ValF bs n Bv cb co c V):=fun V hV=>hF V (hK.trans hV)
 have HY:=Zpz hY
 have HJ:=Zpz hJ
 clear hF hY hJ hK
 have a0:=(HFF.out W (Keeps.refl _ _)).1
 refine callsIn_of_wp Tryz.func206 rfl trivial ?_ rfl
 simp only[Tryz.ntmps206,Nat.reduceAdd,Nat.reduceSub,Zpy]
 gi_wp2
 clear a0
 gi_loopw [7] (fun iv wr=>∃ u:Nat,iv=.int .i64 u/\u<=n/\J u wr/\Hid (Keeps S W wr)) (fun iv _=>n-(intOf iv).toNat)
 case atStart=>exact⟨0,rfl,ZoY _,h0,Keeps.refl _ _⟩
 case round=>
  obtain⟨u,rfl,hu,hJs,HN⟩:=hrel
  by_cases hlt:u<n
  ·obtain⟨b0,b1,b2,b3⟩:=(HFF.out wr HN.out).2 u hlt
   have i0':(0:Int)<=(u:Int):=Za
   have i1':(u:Int)<(n:Int):=Za
   obtain⟨bd,hbd⟩:=ZpB (bAt bs u)
   rw[hbd] at b0 b1 b2 b3
   obtain⟨H,hH⟩:=ZpB wr.heap.size
   obtain⟨V,hV⟩:=ZpB (wr.alloc (bObj bd))
   have hk:∀ S':Nat->Prop,Keeps S' wr V:=fun S'=>by rw[<- hV];exact(Keeps.refl _ wr).alloc _
   have hJV:=HJ.out _ _ _ hJs (hk _)
   have HNV:=Zpz (HN.out.trans (hk _))
   have hy:=HY.out u V hlt hJV
   rw[hbd] at hy
   obtain⟨fn,tmps,assign,body,hy,hRR⟩:=hy
   have hn:V.heap[H]?=some (bObj bd):=by rw[<- hV,<- hH];exact ZoO wr _
   have c0:=Zn hn 0 (v:=.string bd.1.1) rfl
   have c1:=Zn hn 1 (v:=.string bd.1.2) rfl
   have c2:=Zn hn 2 (v:=.string bd.2.1) rfl
   have c3:=Zn hn 3 (v:=.string bd.2.2) rfl
   clear hk hn hbd hJV
   gi_wp2
   refine⟨(fun h=>by cases h),hRR.mono ?_⟩
   rintro e W3 (⟨rfl,hJ3,hk3⟩ | ⟨rfl,hJx3⟩)
   ·have HN3:=Zpz (HNV.out.trans hk3)
    clear hk3 hy hRR
    gi_wp2
    go_roundw
    case rel=>exact⟨u+1,by go_num,Za,hJ3,HN3⟩
    case measure=>exact Zj
   ·clear hy hRR
    gi_wp2
    refine ZoM (results_none rfl _ _ _) rfl ?_
    exact⟨⟨_,rfl⟩,.inr ⟨_,hlt,hJx3⟩⟩
  ·obtain rfl:u=n:=Za
   gi_wp2
   go_end0
   exact⟨⟨_,rfl⟩,.inl hJs⟩
def ZkN (e:Nat->BB):Option Nat->Value
 | none=>bV nob
 | some k=>bV (e k)
def ZgG (e:Nat->BB):Option Nat->Obj
 | none=>bObj nob
 | some k=>bObj (e k)
def BoxZ (e:Nat->BB) (B:Nat) (a1:Nat->Nat->Act) (k:Nat) (a':Act) (W:World):Prop:=
 ∃ A,B<=A/\a'=a1 k A/\W.heap[A]?=some (bObj (e k))
theorem Zia {e:Nat->BB} {g:Nat->Rat} {N:Nat} {Sx:Nat->Prop} {J:Nat->World->Prop} {gf of:Nat} {lb caps:Array Value} {w:World}
  (hgf:∀ args w,(callFunc gf args).run Tryz.prog w=.ok (.enter gf args) w) (hof:∀ args w,(callFunc of args).run Tryz.prog w=.ok (.enter of args) w)
  (hup:∀ b,w.heap.size<=b->Sx b) (hJ:∀ k W1 W2,J k W1->Keeps (fun b=>b<w.heap.size) W1 W2->J k W2) (h0:J 0 w) (hz:∀ V,Keeps Sx w V->EffZ V)
  (hit:∀ V,Keeps Sx w V->Iter Tryz.prog gf lb (fun k=>#[bV (e k)]) N (fun b=>b<w.heap.size/\Sx b) (fun _=>True) V)
  (hc:∀ k,k<N->∀ V,Keeps Sx w V->J k V->Calls Tryz.prog of (#[bV (e k)]++caps) V (fun e' V'=>∃ x y,e'=.returned (pV x y)/\IsP (g k) x y/\Keeps Sx V V'/\J (k+1) V')) :
  Calls Tryz.prog 170 #[.func (.func gf) #[] lb,.func (.func of) #[] caps] w (Ze7 Sx (ZkN e) g N J w):=by
 have HUP:=Zpz hup
 have HJ:=Zpz hJ
 have HIT:=Zpz hit
 have HC:=Zpz hc
 have HZ:=Zpz hz
 have HJ0:=Zpz h0
 have HGF:=Zpz hgf
 clear hup hJ hit hc hz h0 hgf
 obtain⟨w4,hw4⟩:=ZpB ((((w.alloc (.cells #[.func (.func of) #[] caps] 208)).alloc (bO Zpv Zpv Zpv Zpv)).alloc (pObj Zpv Zpv)).alloc (flO false))
 obtain⟨P,hP⟩:=ZpB w.heap.size
 have HX:Zv P [.cells #[.func (.func of) #[] caps] 208,bO Zpv Zpv Zpv Zpv,pObj Zpv Zpv,flO false] w4:=by rw[<- hw4,<- hP];exact Zv.four w _ _ _ _
 have hk4:Keeps Sx w w4:=by rw[<- hw4];exact((((Keeps.refl Sx w).alloc _).alloc _).alloc _).alloc _
 have HK5:Hid (∀ V:World,Keeps (fun b=>b<w.heap.size) w V->J 0 V):=fun V hV=>HJ.out _ _ _ HJ0.out hV
 have hs4:w4.heap.size=P+4:=by rw[<- hw4,<- hP];simp
 have z:=HZ.out _ hk4
 have z0:=z.z0
 have z1:=z.z1
 have c0:=HX.cell 2 0 (b:=P+1+1) (v:=.string Zpv) rfl rfl rfl
 have c1:=HX.cell 2 1 (b:=P+1+1) (v:=.string Zpv) rfl rfl rfl
 have f0:=HX.free 2 0 (b:=P+1+1) rfl rfl
 have f1:=HX.free 2 1 (b:=P+1+1) rfl rfl
 have HPP:=Zpz hP
 clear z
 refine ZcS Tryz.func170 rfl ?_
 simp only[Tryz.ntmps170,Nat.reduceAdd,Nat.reduceSub,Zpy]
 go_wp2_with fail
 obtain⟨w5,hw5⟩:=ZpB ((w4.setCell ⟨P+1+1,0,none⟩ (.string ⟨#[48]⟩)).setCell ⟨P+1+1,1,none⟩ (.string ⟨#[49]⟩))
 have o5:∀ k,k≠P+1+1->w5.heap[k]?=w4.heap[k]?:=fun k hk=>by rw[<- hw5];exact(ZoN _ _ _ _ hk).trans (ZoN _ _ _ _ hk)
 have hk5:Keeps Sx w w5:=by
  refine hk4.via (S':=fun b=>b≠P+1+1) ?_ fun b hb _=>by show b≠P+1+1;omega
  rw[<- hw5]
  exact((Keeps.refl _ w4).setCell Zc _).setCell Zc _
 have HG5:Hid (GreatI Sx w P (.cells #[.func (.func of) #[] caps] 208) (bO Zpv Zpv Zpv Zpv) ⟨#[48]⟩ ⟨#[49]⟩ false w5):=
  ⟨hk5,(o5 P Za).trans (HX.block 0 rfl rfl),(o5 _ Za).trans (HX.block 1 rfl rfl),by rw[<- hw5];exact Zan (HX.block 2 (b:=P+1+1) rfl rfl) _ _,(o5 _ Za).trans (HX.block 3 (b:=P+1+1+1) rfl rfl)⟩
 have hkB:Keeps (fun b=>b<w.heap.size) w w5:=by
  rw[<- hw5,<- hw4]
  exact((((((Keeps.refl _ w).alloc _).alloc _).alloc _).alloc _).setCell (by show ¬ P+1+1<w.heap.size;omega) _).setCell (by show ¬ P+1+1<w.heap.size;omega) _
 have hD:w5.heap.size=P+4:=by rw[<- hw5];simp[hs4]
 rw[hw5]
 clear hw5 o5 z0 z1 c0 c1 f0 f1 HX hk4 hs4 hw4
 refine(wpIn_wide (n:=9)).1 ?_
 refine Zec (P+4) hD (gf:=gf) (lb:=lb) (f:=fun k=>#[bV (e k)]) (N:=N) (S:=fun x=>x<P/\Sx x) (T:=fun _=>True)
  rfl HGF.out (fun _=>rfl) ?iter (fun _ h=>Za) ⟨trivial,trivial⟩
  (ZmC Sx w P (.cells #[.func (.func of) #[] caps] 208) (ZgG e) g J) (fun _ _ _=>False) ?ci ?cx ?start
  (BoxZ e (P+6) ?a1) ?cb ?assign ?body ?done ?stop
 case iter=>
  have:=HIT.out _ hk5
  rwa [hP] at this
 case ci=>
  rintro k W1 W2 ⟨r,m,x,y,h1,h2,h3,h4⟩ hk
  exact⟨r,m,x,y,h1,h2,h3.keep hP.symm hk (fun b hb _=>⟨trivial,Za,Za⟩) ⟨⟨trivial,Za,Za⟩,⟨trivial,Za,Za⟩,⟨trivial,Za,Za⟩,⟨trivial,Za,Za⟩⟩,
   HJ.out _ _ _ h4 (hk.mono fun b _ hb=>⟨trivial,Za,Za⟩)⟩
 case cx=>exact fun _ _ _ _ h _=>h
 case start=>
  exact⟨none,0,_,_,Best.zero g,Zaf,HG5.out,HK5.out _ hkB⟩
 case cb=>
  rintro k a' W1 W2 ⟨A,h1,h2,h3⟩ hk
  exact⟨A,h1,h2,hk.at h3 ⟨Za,Za⟩⟩
 case assign=>
  intro l k W hk hW
  gi_wp2
  have h1:(W.alloc (bObj (e k))).heap[W.heap.size]?=some (bObj (e k)):=ZoO W _
  have hkk:Keeps (fun _=>True) W (W.alloc (bObj (e k))):=(Keeps.refl _ W).alloc _
  obtain⟨V,hV⟩:=ZpB (W.alloc (bObj (e k)))
  rw[hV] at h1 hkk
  obtain⟨A,hA⟩:=ZpB W.heap.size
  rw[hA] at h1
  simp only[hV,hA]
  refine⟨hkk,A,Za,?_,h1⟩
  clear hkk h1 hV hA hW
  exact rfl
 case body=>
  have hfn:∀ k,Fence.wide.fn k:=fun _=>trivial
  rintro l k a' W hk ⟨r,m,x,y,hB,hI,hG,hJk⟩ ⟨A,hA,rfl,hA0⟩ hW
  have hcall:=HC.out k hk W hG.base hJk
  obtain⟨⟨⟨s0,s1⟩,s2,s3⟩,hst⟩:∃ z,e k=z:=⟨_,rfl⟩
  have HST:=Zpz hst
  rw[hst] at hA0 hcall
  try dsimp only at hA0 hcall
  try rw[hst]
  try dsimp only
  have HB:=Zpz hB
  have HI:=Zpz hI
  have HG:=Zpz hG
  have HCL:=Zpz hcall
  have HA0:=Zpz hA0
  have a0:W.cell? ⟨A,0,none⟩=some (.string s0):=Zn hA0 0 rfl
  have a1:W.cell? ⟨A,1,none⟩=some (.string s1):=Zn hA0 1 rfl
  have a2:W.cell? ⟨A,2,none⟩=some (.string s2):=Zn hA0 2 rfl
  have a3:W.cell? ⟨A,3,none⟩=some (.string s3):=Zn hA0 3 rfl
  have p0:W.cell? ⟨P,0,none⟩=some (.func (.func of) #[] caps):=Zn hG.b0 0 rfl
  clear hB hI hG hJk hcall hA0 hst
  gi_wp2_with fail
  refine(CallsIn.inRound l (Zpf.2 HCL.out)).mono ?_
  rintro e' V ⟨x2,y2,rfl,hx2,hkV,hJV⟩
  have HX2:=Zpz hx2
  have HJV:=Zpz hJV
  have HKV:=Zpz hkV
  have HGV:=Zpz (HG.out.keep hP.symm hkV (fun b _ hs=>hs) ⟨HUP.out _ Za,HUP.out _ Za,HUP.out _ Za,HUP.out _ Za⟩)
  have HAV:=Zpz (hkV.at HA0.out (HUP.out _ Za))
  clear hx2 hJV hkV a0 a1 a2 a3 p0
  have c0:(V.alloc (pObj x2 y2)).cell? ⟨V.heap.size,0,none⟩=some (.string x2):=ZK _ _ _ 0 rfl
  have c1:(V.alloc (pObj x2 y2)).cell? ⟨V.heap.size,1,none⟩=some (.string y2):=ZK _ _ _ 1 rfl
  have HG1:Hid (GreatI Sx w P (.cells #[.func (.func of) #[] caps] 208) (ZgG e r) x y r.isSome (V.alloc (pObj x2 y2))):=HGV.out.keep (S:=fun _=>True) hP.symm ((Keeps.refl _ V).alloc _) (fun _ _ _=>trivial) ⟨trivial,trivial,trivial,trivial⟩
  have d0:=Zn HG1.out.b2 0 (v:=.string x) rfl
  have d1:=Zn HG1.out.b2 1 (v:=.string y) rfl
  obtain⟨n,hn⟩:=ZpB (sgnR (g k) m)
  gi_wp2_with fail
  refine(CallsIn.inRound l (Zpf.2 (ZbC HX2.out HI.out hn _))).mono ?_
  rintro e' V2 ⟨rfl,hb⟩
  obtain⟨g8,hg8⟩:=ZpB V.heap.size
  have h8:V2.heap[g8]?=some (pObj x2 y2):=by
   rw[<- hg8]
   exact(hb.block _ Zc).trans (ZoO V _)
  have hkA:Keeps Sx V (V.alloc (pObj x2 y2)):=(Keeps.refl _ V).alloc _
  have hkJ:Keeps (fun b=>b<w.heap.size) V V2:=((Keeps.refl _ V).alloc _).trans (hb.keepsS _)
  have HK2:=Zpz (HKV.out.trans (hkA.trans (hb.keepsS Sx)))
  have HA2:=Zpz ((hkA.trans (hb.keepsS Sx)).at HAV.out (HUP.out _ Za))
  have HG2:=Zpz (HG1.out.keep hP.symm (hb.keepsS (fun _=>True)) (fun _ _ _=>trivial) ⟨trivial,trivial,trivial,trivial⟩)
  have HJ2:=Zpz (HJ.out _ _ _ HJV.out hkJ)
  have H8:=Zpz h8
  have HRE:Hid (∀ b,((b<P/\Sx b)\/b=P+4\/b=P+4+1)->Sx b):=fun b hs=>by
   rcases hs with ⟨_,h⟩ | h | h
   ·exact h
   ·exact HUP.out _ Za
   ·exact HUP.out _ Za
  have hPg:P+6<=g8:=by
   rw[<- hg8]
   exact ZoU hW HKV.out.size
  clear c0 c1 d0 d1 hb hkA hkJ h8 HG1 HGV HAV HJV
  by_cases hlt:m<g k
  ·have hge:(0:Int)<n:=by rw[<- hn];exact Zby (Rat.not_le.2 hlt)
   have HBU:=Zpz (HB.out.up hlt)
   clear hn hlt
   gi_wp2
   obtain⟨q0,q1,q2,q3,hab⟩:∃ a b c d,ZgG e r=bO a b c d:=by cases r<;>exact⟨_,_,_,_,rfl⟩
   refine ZaO [(true,0),(true,1),(false,2),(false,3),(false,4)] (fun W'=>W'.heap[A]?=some (bO s0 s1 s2 s3)/\W'.heap[g8]?=some (pObj x2 y2)) (fun _=>false)
    Zb Zb (fun _ _=>rfl) Zi (fun _ _ h=>h) ⟨HA2.out,H8.out⟩ ?_
   have b1:V2.drew.heap[P+1]?=some (bO q0 q1 q2 q3):=by rw[<- hab];exact HG2.out.b1
   have b2:V2.drew.heap[P+1+1]?=some (pObj x y):=HG2.out.b2
   have b3:V2.drew.heap[P+1+1+1]?=some (flO r.isSome):=HG2.out.b3
   have b0:V2.drew.heap[P]?=some (.cells #[.func (.func of) #[] caps] 208):=HG2.out.b0
   have bA:V2.drew.heap[A]?=some (bO s0 s1 s2 s3):=HA2.out
   have b8:V2.drew.heap[g8]?=some (pObj x2 y2):=H8.out
   have HKD:Hid (Keeps Sx W V2.drew):=HK2.out.drew
   have HKW:Hid (Keeps Sx w V2.drew):=HG2.out.base.drew
   have HJD:Hid (J (k+1) V2.drew):=HJ.out _ _ _ HJ2.out (Keeps.refl _ V2).drew
   obtain⟨V3,hV3⟩:=ZpB V2.drew
   rw[hV3] at b0 b1 b2 b3 bA b8 HKD HKW HJD ⊢
   clear hV3 HK2 HG2 HJ2 hab
   iterate 2
    refine Zr _ rfl rfl (fun w' hS=>by obtain⟨h1,h2⟩:=hS;have a0:=Zn h1 0 (v:=.string s0) rfl;have a1:=Zn h1 1 (v:=.string s1) rfl;have a2:=Zn h1 2 (v:=.string s2) rfl;have a3:=Zn h1 3 (v:=.string s3) rfl;have e0:=Zn h2 0 (v:=.string x2) rfl;have e1:=Zn h2 1 (v:=.string y2) rfl;exact Zf) ?_
    simp only[Act.put,Zl]
   have c0:=Zn b1 0 (v:=.string q0) rfl
   have c1:=Zn b1 1 (v:=.string q1) rfl
   have c2:=Zn b1 2 (v:=.string q2) rfl
   have c3:=Zn b1 3 (v:=.string q3) rfl
   have f0:=Zo b1 0
   have f1:=Zo b1 1
   have f2:=Zo b1 2
   have f3:=Zo b1 3
   refine Zt rfl rfl fun K hK=>?_
   go_simp
   obtain⟨V4,hV4⟩:=ZpB ((((V3.setCell ⟨P+1,0,none⟩ (.string s0)).setCell ⟨P+1,1,none⟩ (.string s1)).setCell ⟨P+1,2,none⟩ (.string s2)).setCell ⟨P+1,3,none⟩ (.string s3))
   have o4:∀ j,j≠P+1->V4.heap[j]?=V3.heap[j]?:=fun j hj=>by rw[<- hV4];exact(((ZoN _ _ _ _ hj).trans (ZoN _ _ _ _ hj)).trans (ZoN _ _ _ _ hj)).trans (ZoN _ _ _ _ hj)
   have d1:V4.heap[P+1]?=some (bO s0 s1 s2 s3):=by rw[<- hV4];exact ZoQ (ZoQ (ZoQ (ZoQ b1 _) _) _) _
   have k4:Keeps (fun b=>b≠P+1) V3 V4:=by rw[<- hV4];exact((((Keeps.refl _ V3).setCell Zc _).setCell Zc _).setCell Zc _).setCell Zc _
   rw[hV4]
   refine hK _ _ (.inr ⟨(o4 _ Za).trans bA,(o4 _ Za).trans b8⟩) ?_
   clear hK K hV4 c0 c1 c2 c3 f0 f1 f2 f3 b1
   have b0:=(o4 _ Za).trans b0
   have b2:=(o4 _ Za).trans b2
   have b3:=(o4 _ Za).trans b3
   have bA:=(o4 _ Za).trans bA
   have b8:=(o4 _ Za).trans b8
   have c0:=Zn b2 0 (v:=.string x) rfl
   have c1:=Zn b2 1 (v:=.string y) rfl
   have f0:=Zo b2 0
   have f1:=Zo b2 1
   refine Zt rfl rfl fun K hK=>?_
   go_simp
   obtain⟨V5,hV5⟩:=ZpB ((V4.setCell ⟨P+1+1,0,none⟩ (.string x2)).setCell ⟨P+1+1,1,none⟩ (.string y2))
   have o5:∀ j,j≠P+1+1->V5.heap[j]?=V4.heap[j]?:=fun j hj=>by rw[<- hV5];exact(ZoN _ _ _ _ hj).trans (ZoN _ _ _ _ hj)
   have d2:V5.heap[P+1+1]?=some (pObj x2 y2):=by rw[<- hV5];exact Zan b2 _ _
   have k5:Keeps (fun b=>b≠P+1+1) V4 V5:=by rw[<- hV5];exact((Keeps.refl _ V4).setCell Zc _).setCell Zc _
   rw[hV5]
   refine hK _ _ (.inr ⟨(o5 _ Za).trans bA,(o5 _ Za).trans b8⟩) ?_
   clear hK K hV5 c0 c1 f0 f1 b2
   have b0:=(o5 _ Za).trans b0
   have d1:=(o5 _ Za).trans d1
   have b3:=(o5 _ Za).trans b3
   have bA:=(o5 _ Za).trans bA
   have b8:=(o5 _ Za).trans b8
   have c0:=Zn b3 0 (v:=.bool r.isSome) rfl
   have f0:=Zo b3 0
   refine Zt rfl rfl fun K hK=>?_
   go_simp
   obtain⟨V6,hV6⟩:=ZpB (V5.setCell ⟨P+1+1+1,0,none⟩ (.bool true))
   have o6:∀ j,j≠P+1+1+1->V6.heap[j]?=V5.heap[j]?:=fun j hj=>by rw[<- hV6];exact ZoN _ _ _ _ hj
   have d3:V6.heap[P+1+1+1]?=some (flO true):=by rw[<- hV6];exact ZoQ b3 _
   have k6:Keeps (fun b=>b≠P+1+1+1) V5 V6:=by rw[<- hV6];exact(Keeps.refl _ V5).setCell Zc _
   rw[hV6]
   refine hK _ _ (.inr ⟨(o6 _ Za).trans bA,(o6 _ Za).trans b8⟩) ?_
   clear hK K hV6 c0 f0 b3
   have HKK:Hid (∀ (S:Nat->Prop),¬ S (P+1)->¬ S (P+1+1)->¬ S (P+1+1+1)->Keeps S V3 V6):=fun S h1 h2 h3=>
    (((k4.mono fun b _ hb e=>h1 (e ▸ hb)).trans (k5.mono fun b _ hb e=>h2 (e ▸ hb))).trans (k6.mono fun b _ hb e=>h3 (e ▸ hb)))
   have HG6:Hid (GreatI Sx w P (.cells #[.func (.func of) #[] caps] 208) (ZgG e (some k)) x2 y2 true V6):=
    ⟨HKW.out.via (HKK.out (fun b=>b<P) Za Za Za) (fun b hb _=>Za),(o6 _ Za).trans b0,by show V6.heap[P+1]?=some (bObj (e k));rw[HST.out];exact(o6 _ Za).trans d1,(o6 _ Za).trans d2,d3⟩
   have HJ6:Hid (J (k+1) V6):=HJ.out _ _ _ HJD.out (HKK.out _ Za Za Za)
   have HKE:Hid (Keeps (fun b=>(b<P/\Sx b)\/b=P+4\/b=P+4+1) W V6):=(HKD.out.mono fun b _ hs=>HRE.out b hs).trans (HKK.out _ Za Za Za)
   clear o4 o5 o6 k4 k5 k6 d1 d2 d3 b0 bA b8
   refine ZI ?_
   gi_wp2
   exact⟨HKE.out,some k,g k,x2,y2,HBU.out,HX2.out,HG6.out,HJ6.out⟩
  ·have hge:¬ (0:Int)<n:=by rw[<- hn];exact ZbA (Rat.not_lt.1 hlt)
   have HBU:=Zpz (HB.out.keep (Rat.not_lt.1 hlt))
   clear hn hlt
   gi_wp2
   exact⟨HK2.out.mono fun b _ hs=>HRE.out b hs,r,m,x,y,HBU.out,HI.out,HG2.out,HJ2.out⟩
 case done=>
  rintro W ⟨r,m,x,y,hB,hI,hG,hJk⟩ hdef
  obtain⟨q0,q1,q2,q3,hab,hae⟩:∃ a b c d,ZgG e r=bO a b c d/\ZkN e r=.agg #[.string a,.string b,.string c,.string d]:=by cases r<;>exact⟨_,_,_,_,rfl,rfl⟩
  obtain⟨ok,hok⟩:=ZpB r.isSome
  rw[hab,hok] at hG
  have HB:=Zpz hB
  have HI:=Zpz hI
  have HJN:=Zpz hJk
  have HAE:=Zpz hae
  have HOK:=Zpz hok
  clear hB hI hJk hab hae hok
  go_wp2
  refine Zag [(true,0),(true,1),(true,2),(false,3),(false,4),(false,5)] (fun W'=>W'.heap[P+1]?=some (bO q0 q1 q2 q3)/\W'.heap[P+1+1]?=some (pObj x y)/\W'.heap[P+1+1+1]?=some (flO ok)) (fun _=>false)
   Zb Zb (fun _ _=>rfl) Zi ⟨hG.b1,hG.b2,hG.b3⟩ ?_
  have b1:W.drew.heap[P+1]?=some (bO q0 q1 q2 q3):=hG.b1
  have b2:W.drew.heap[P+1+1]?=some (pObj x y):=hG.b2
  have b3:W.drew.heap[P+1+1+1]?=some (flO ok):=hG.b3
  have bd:W.drew.heap[P+4]?=some (.deferred (some [])):=hdef
  have HKW:Hid (Keeps Sx w W.drew):=hG.base.drew
  have HJD:Hid (J N W.drew):=HJ.out _ _ _ HJN.out (Keeps.refl _ W).drew
  obtain⟨V3,hV3⟩:=ZpB W.drew
  rw[hV3] at b1 b2 b3 bd HKW HJD ⊢
  clear hV3 hG hdef HJN
  iterate 3
   refine Zr _ rfl rfl (fun w' hS=>by obtain⟨h1,h2,h3⟩:=hS;have a0:=Zn h1 0 (v:=.string q0) rfl;have a1:=Zn h1 1 (v:=.string q1) rfl;have a2:=Zn h1 2 (v:=.string q2) rfl;have a3:=Zn h1 3 (v:=.string q3) rfl;have e0:=Zn h2 0 (v:=.string x) rfl;have e1:=Zn h2 1 (v:=.string y) rfl;have e2:=Zn h3 0 (v:=.bool ok) rfl;exact Zf) ?_
   simp only[Act.put,Zl]
  have c0:=Zn b1 0 (v:=.string q0) rfl
  have c1:=Zn b1 1 (v:=.string q1) rfl
  have c2:=Zn b1 2 (v:=.string q2) rfl
  have c3:=Zn b1 3 (v:=.string q3) rfl
  have f0:=Zo b1 0
  have f1:=Zo b1 1
  have f2:=Zo b1 2
  have f3:=Zo b1 3
  refine Zt rfl rfl fun K hK=>?_
  go_simp
  obtain⟨V4,hV4⟩:=ZpB ((((V3.setCell ⟨P+1,0,none⟩ (.string q0)).setCell ⟨P+1,1,none⟩ (.string q1)).setCell ⟨P+1,2,none⟩ (.string q2)).setCell ⟨P+1,3,none⟩ (.string q3))
  have o4:∀ j,j≠P+1->V4.heap[j]?=V3.heap[j]?:=fun j hj=>by rw[<- hV4];exact(((ZoN _ _ _ _ hj).trans (ZoN _ _ _ _ hj)).trans (ZoN _ _ _ _ hj)).trans (ZoN _ _ _ _ hj)
  have d1:V4.heap[P+1]?=some (bO q0 q1 q2 q3):=by rw[<- hV4];exact ZoQ (ZoQ (ZoQ (ZoQ b1 _) _) _) _
  have k4:Keeps (fun b=>b≠P+1) V3 V4:=by rw[<- hV4];exact((((Keeps.refl _ V3).setCell Zc _).setCell Zc _).setCell Zc _).setCell Zc _
  rw[hV4]
  have b2:=(o4 _ Za).trans b2
  have b3:=(o4 _ Za).trans b3
  refine hK _ _ (.inr ⟨d1,b2,b3⟩) ?_
  clear hK K hV4 c0 c1 c2 c3 f0 f1 f2 f3 b1
  have bd:=(o4 _ Za).trans bd
  have c0:=Zn b2 0 (v:=.string x) rfl
  have c1:=Zn b2 1 (v:=.string y) rfl
  have f0:=Zo b2 0
  have f1:=Zo b2 1
  refine Zt rfl rfl fun K hK=>?_
  go_simp
  obtain⟨V5,hV5⟩:=ZpB ((V4.setCell ⟨P+1+1,0,none⟩ (.string x)).setCell ⟨P+1+1,1,none⟩ (.string y))
  have o5:∀ j,j≠P+1+1->V5.heap[j]?=V4.heap[j]?:=fun j hj=>by rw[<- hV5];exact(ZoN _ _ _ _ hj).trans (ZoN _ _ _ _ hj)
  have d2:V5.heap[P+1+1]?=some (pObj x y):=by rw[<- hV5];exact Zan b2 _ _
  have k5:Keeps (fun b=>b≠P+1+1) V4 V5:=by rw[<- hV5];exact((Keeps.refl _ V4).setCell Zc _).setCell Zc _
  rw[hV5]
  have d1:=(o5 _ Za).trans d1
  have b3:=(o5 _ Za).trans b3
  refine hK _ _ (.inr ⟨d1,d2,b3⟩) ?_
  clear hK K hV5 c0 c1 f0 f1 b2
  have bd:=(o5 _ Za).trans bd
  have c0:=Zn b3 0 (v:=.bool ok) rfl
  have f0:=Zo b3 0
  refine Zt rfl rfl fun K hK=>?_
  go_simp
  obtain⟨V6,hV6⟩:=ZpB (V5.setCell ⟨P+1+1+1,0,none⟩ (.bool ok))
  have o6:∀ j,j≠P+1+1+1->V6.heap[j]?=V5.heap[j]?:=fun j hj=>by rw[<- hV6];exact ZoN _ _ _ _ hj
  have d3:V6.heap[P+1+1+1]?=some (flO ok):=by rw[<- hV6];exact ZoQ b3 _
  have k6:Keeps (fun b=>b≠P+1+1+1) V5 V6:=by rw[<- hV6];exact(Keeps.refl _ V5).setCell Zc _
  rw[hV6]
  have d1:=(o6 _ Za).trans d1
  have d2:=(o6 _ Za).trans d2
  refine hK _ _ (.inr ⟨d1,d2,d3⟩) ?_
  clear hK K hV6 c0 f0 b3
  have bd:=(o6 _ Za).trans bd
  have k9:Keeps (fun b=>b<P) V3 (V6.putObj (P+4) (.deferred none)):=
   (((k4.mono fun b _ (hb:b<P)=>Za).trans (k5.mono fun b _ (hb:b<P)=>Za)).trans (k6.mono fun b _ (hb:b<P)=>Za)).putObj (by show ¬ P+4<P;omega) _
  have HKE:Hid (Keeps Sx w (V6.putObj (P+4) (.deferred none))):=HKW.out.via k9 fun b hb _=>Za
  have HJE:Hid (J N (V6.putObj (P+4) (.deferred none))):=HJ.out _ _ _ HJD.out (by rw[HPP.out];exact k9)
  have k4':∀ {g:Nat} {o:Obj},g≠P+4->V6.heap[g]?=some o->(V6.putObj (P+4) (.deferred none)).heap[g]?=some o:=fun hg h=>(Zo4 hg).trans h
  have g1:=k4' Za d1
  have g2:=k4' Za d2
  have g3:=k4' Za d3
  clear o4 o5 o6 k4 k5 k6 k9 d1 d2 d3 k4'
  refine ZI ?_
  go_wp2
  unfold Calm bodyPostM
  refine⟨Zc,.inl ⟨_,_,rfl,run_takeDeferred bd,?_⟩⟩
  have c0:=Zn g1 0 (v:=.string q0) rfl
  have c1:=Zn g1 1 (v:=.string q1) rfl
  have c2:=Zn g1 2 (v:=.string q2) rfl
  have c3:=Zn g1 3 (v:=.string q3) rfl
  have d0:=Zn g2 0 (v:=.string x) rfl
  have d1:=Zn g2 1 (v:=.string y) rfl
  have f0:=Zn g3 0 (v:=.bool ok) rfl
  refine⟨.tuple #[.agg #[.string q0,.string q1,.string q2,.string q3],pV x y,.bool ok],?_,r,m,x,y,by rw[HAE.out,HOK.out],HB.out,HI.out,HKE.out,HJE.out⟩
  simp[results,Tryz.f170,go_sem,c0,c1,c2,c3,d0,d1,f0]
 case stop=>exact fun _ _ _ _ h _=>h.elim
end Go.Proofs.YtmpaflidennnoaaGreatDoor
