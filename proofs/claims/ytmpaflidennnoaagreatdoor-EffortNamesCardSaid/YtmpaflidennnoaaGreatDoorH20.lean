/- The parts RTwo2, Not, StepsT, DMiss of a proof, put together by program (merge7.py). -/
import Derived.Test.YtmpaflidennnoaaGreatDoorH19
import Derived.Test.YtmpaflidennnoaaGreatDoorH12
import Derived.Test.YtmpaflidennnoaaGreatDoorH16
import Derived.Test.YtmpaflidennnoaaGreatDoorH11
set_option linter.unusedVariables false
set_option linter.unusedSimpArgs false
namespace Go.Proofs.YtmpaflidennnoaaGreatDoor
open Go.RowKit Go.Shelf
attribute [local go_sem ↓] Go.wp_at_zero Go.wp_at_succ
theorem Zx.mono {R R':ByteArray→ByteArray→Int→Prop} {w w':World} {e:Ending} (h:Zx R w e w') (f:∀ x y n,R x y n→R' x y n):Zx R' w e w':=by
 obtain⟨x,y,n,h1,h2,h3⟩:=h
 exact⟨x,y,n,h1,f x y n h2,h3⟩
end Go.Proofs.YtmpaflidennnoaaGreatDoor
namespace Go.Proofs.YtmpaflidennnoaaGreatDoor
open Go.RowKit
section
variable {P:Program} {ops:Array Oper} {Q:Exit→Act→World→Prop} {md:Region.Mode} {S:World→Prop} {bar:Nat→Bool}
theorem ZbR {i:Nat} {oi:Oper} {v:Value} (hi:ops[i]?=some oi) (hsel:Region.noSelect ops=true) (hQ:∀ c a w,Q (.panic c) (a.put oi.dst v) w→Q (.panic c) a w) (hbar:ZbU md ops bar i) (hbi:bar i=false) :
  ∀ (fuel:Nat) (listed:Array Bool) (a:Act) (w:World),Z0 md ops listed→
   (∀ j oj,ops[j]?=some oj→j≠i→listed.getD j true=false→(∀ e ∈ oj.after,Region.binds md e=true→e.on≠i)→oi.apart ops oj=true)→
   i ∈ Region.ready md ops listed→YieldsIf P ops S oi v a→S w→
   wpJ P md ops Q S bar fuel (listed.setIfInBounds i true) (a.put oi.dst v) w→wpJ P md ops Q S bar (fuel+1) listed a w
 | 0,listed,a,w,_,_,hr,hy,hS,H=>by
  refine⟨fun h=>(by rw[h] at hr;cases hr),fun j hj=>?_⟩
  by_cases hji:j=i
  ·subst hji;exact hy.wpOp hi hS ⟨.inr hS,H⟩
  ·have:=ready_mono hj hji
   rw[H.1] at this
   cases this
 | fuel+1,listed,a,w,hcl,hfree,hr,hy,hS,H=>by
  refine⟨fun h=>(by rw[h] at hr;cases hr),fun j hj=>?_⟩
  by_cases hji:j=i
  ·subst hji;exact hy.wpOp hi hS ⟨.inr hS,H⟩
  ·have hbj:bar j=false:=by
    cases hb:bar j with
    | false=>rfl
    | true=>exact absurd hj (ZbK hcl (mem_ready.1 hr).1 _ _ (hbar j hb hji)).2
   obtain⟨hjun,oj,hoj,hall⟩:=mem_ready.1 hj
   have hnot:∀ e ∈ oj.after,Region.binds md e=true→e.on≠i:=fun e he hb heq=>by
    have:Region.waitsFor md ops j i=true:=by
     unfold Region.waitsFor
     rw[hoj]
     exact Array.any_eq_true'.2 ⟨e,he,by simp[hb,heq]⟩
    exact Zac hr this hj
   have h2:=wpOp_putIf hoj (hfree j oj hoj hji hjun hnot) (fun cs b=>Region.noSelect_spec hsel i oi cs b hi) (fun cs b=>Region.noSelect_spec hsel j oj cs b hoj) hQ hy (H.2 j (ready_mono hj hji))
   refine wpOp_mono (fun a' w' h3=>?_) h2
   have hS':S w':=by
    rcases h3.2.1 with h4 | h4
    ·rw[hbj] at h4;cases h4
    ·exact h4
   refine⟨.inr hS',ZbR hi hsel hQ hbar hbi fuel (listed.setIfInBounds j true) a' w' (hcl.step hj) (fun k ok hk hki hun hno=>?_) (ready_mono hr (Ne.symm hji)) h3.1 hS' ?_⟩
   ·refine hfree k ok hk hki ?_ hno
    by_cases hjk:j=k
    ·subst hjk;exact hjun
    ·rw[getD_set_ne true hjk] at hun;exact hun
   ·rw[Array.setIfInBounds_comm _ _ hji]
    exact h3.2.2
theorem ZcX (hsel:Region.noSelect ops=true) (hQ:∀ c a o v w,Q (.panic c) (a.put o v) w→Q (.panic c) a w) (hbo:∀ j,ops.size≤j→bar j=false) :
  ∀ (ks:List (Bool×Nat)) (listed:Array Bool) (a:Act) (w:World),ZbP md ops bar ks listed=true→Z0 md ops listed→
   (S w∨ks.all (fun b=>!b.1)=true)→Zap P ops Q S bar ks a w→wpJ P md ops Q S bar ks.length listed a w
 | [],listed,a,w,hB,_,_,h=>⟨of_decide_eq_true hB,h⟩
 | (true,k)::ks,listed,a,w,hB,hC,hS,h=>by
  simp only[ZbP,Bool.and_eq_true] at hB
  obtain⟨⟨⟨⟨hr,hf⟩,hbk⟩,hw⟩,hB'⟩:=hB
  have hSw:S w:=by
   rcases hS with hS | hS
   ·exact hS
   ·simp at hS
  obtain⟨o,v,h0,hy,hrest⟩:=h
  have hbk':bar k=false:=by simpa using hbk
  have hwait:ZbU md ops bar k:=fun j hj hne=>by
   have hjl:j<ops.size:=by
    rcases Nat.lt_or_ge j ops.size with h' | h'
    ·exact h'
    ·rw[hbo j h'] at hj;cases hj
   rw[List.all_eq_true] at hw
   have:=hw j (List.mem_range.2 hjl)
   rw[hj] at this
   simpa[hne] using this
  have ih:=ZcX hsel hQ hbo ks (listed.setIfInBounds k true) (a.put o.dst v) w hB' (hC.step (by simpa using hr)) (.inl hSw) hrest
  rw[List.length_cons]
  exact ZbR h0 hsel (fun c a w=>hQ c a o.dst v w) hwait hbk' ks.length listed a w hC (Region.free_spec h0 hf) (by simpa using hr) hy hSw ih
 | (false,k)::ks,listed,a,w,hB,hC,hS,h=>by
  simp only[ZbP,Bool.and_eq_true,decide_eq_true_eq] at hB
  obtain⟨⟨hr,hbk⟩,hB'⟩:=hB
  obtain⟨o,h0,h⟩:=h
  refine⟨fun h1=>(by rw[hr] at h1;cases h1),fun i hi=>?_⟩
  rw[hr] at hi
  obtain rfl:i=k:=by simpa using hi
  have ih:=fun a' w' (hs:bar i=true∨S w') h'=>ZcX hsel hQ hbo ks (listed.setIfInBounds i true) a' w' hB' (hC.step (by rw[hr];simp)) (by
   rcases hs with hs | hs
   ·rw[hs] at hbk
    exact .inr (by simpa using hbk)
   ·exact .inl hs) h'
  unfold wpOp
  simp only[h0]
  split at h
  ·rename_i hw;simp only[hw,if_true];exact .inl (Oper.wp_mono (fun a' w' h'=>⟨h'.1,ih a' w' h'.1 h'.2⟩) h)
  ·rename_i hw;simp only[hw];exact⟨h.1,ih _ _ h.1 h.2⟩
theorem Zig {id:Nat} {a:Act} {w:World} {l:List Oper} (ks:List (Bool×Nat)) (S:World→Prop) (bar:Nat→Bool) (hm:P.follows .mixedOrders=true)
  (hB:Zec l ks bar=true) (hd:ZbM l.toArray=true) (hbo:∀ j,l.length≤j→bar j=false) (hQ:∀ c a o v w,Q (.panic c) (a.put o v) w→Q (.panic c) a w) (hS:S w.drew)
  (H:Zap P l.toArray Q S bar ks a w.drew):(Code.region id l.toArray true).wp P Q a w:=by
 simp only[Zec,Bool.and_eq_true,decide_eq_true_eq] at hB
 obtain⟨⟨hsel,hn⟩,hm2⟩:=hB
 have:=ZaT _ _ _ _ (ZcX hsel hQ (fun j hj=>hbo j (by simpa using hj)) ks _ a w.drew hm2 Z0.start (.inl hS) H)
 rw[hn] at this
 exact wp_region_any hm (by simpa using this)
end
end Go.Proofs.YtmpaflidennnoaaGreatDoor
namespace Go.Proofs.YtmpaflidennnoaaGreatDoor
open Go.RowKit Go.Shelf
attribute [local go_sem ↓] Go.wp_at_zero Go.wp_at_succ
end Go.Proofs.YtmpaflidennnoaaGreatDoor
