/- The parts Inv, Order, Must, List, Share, Bends of a proof, put together by program (merge7.py). -/
import Derived.Test.YtmpaflidennnoaaGreatDoorH03
import Derived.OrdersHeld
import Derived.Test.YtmpaflidennnoaaGreatDoorH09
import Derived.Deep.DeepCutAuto
import Derived.Recover
import Derived.Deep.AppendLies
import Derived.Test.YtmpaflidennnoaaGreatDoorH02
set_option maxRecDepth 100000
set_option maxHeartbeats 4000000
set_option linter.unusedVariables false
set_option linter.unusedSimpArgs false
namespace Go.Proofs.YtmpaflidennnoaaGreatDoor
open Go.RowKit
section
variable {P:Program} {ops:Array Oper} {Q:Exit→Act→World→Prop} {md:Region.Mode}
def Zc4 (listed:Array Bool):Nat:=(listed.toList.filter fun b=>!b).length
theorem ZeQ:∀ (l:List Bool) (i:Nat),l[i]?=some false→((l.set i true).filter fun b=>!b).length+1=(l.filter fun b=>!b).length
 | [],i,h=>by simp at h
 | b::l,0,h=>by
  simp at h;subst h;simp
 | b::l,i+1,h=>by
  have ih:=ZeQ l i (by simpa using h)
  rw[List.set_cons_succ,List.filter_cons,List.filter_cons]
  cases b<;>simp<;>omega
theorem ZdJ {listed:Array Bool} {i:Nat} (h:listed.getD i true=false):Zc4 (listed.setIfInBounds i true)+1=Zc4 listed:=by
 unfold Zc4
 rw[Array.toList_setIfInBounds]
 refine ZeQ _ i ?_
 rcases Nat.lt_or_ge i listed.size with h' | h'
 ·simp[h'] at h ⊢;exact h
 ·simp[Array.getD,Nat.not_lt.2 h'] at h
def ZdP (ops:Array Oper):Bool:=(List.range ops.size).all fun j=>match ops[j]? with | some o=>o.after.all fun e=>decide (e.on<j) | none=>true
theorem Zgr (ho:ZdP ops=true) {listed:Array Bool} (hs:listed.size=ops.size) (h:Region.ready md ops listed=[]):∀ j,j<ops.size→listed.getD j false=true:=by
 intro j
 induction j using Nat.strongRecOn with
 | _ j ih=>
  intro hj
  cases hl:listed.getD j true with
  | true=>
   have:j<listed.size:=by omega
   simp[this] at hl ⊢;exact hl
  | false=>
   exfalso
   have hm:j ∈ Region.ready md ops listed:=mem_ready.2 ⟨hl,ops[j],by simp[hj],fun e he _=>by
    unfold ZdP at ho
    rw[List.all_eq_true] at ho
    have h1:=ho j (List.mem_range.2 hj)
    rw[Array.getElem?_eq_getElem hj] at h1
    have h2:=Array.all_eq_true_iff_forall_mem.1 h1 e he
    have h3:e.on<j:=of_decide_eq_true h2
    exact ih e.on h3 (by omega)⟩
   rw[h] at hm
   cases hm
theorem ZgS (Inv:Array Bool→Act→World→Prop) (ho:ZdP ops=true)
  (hstep:∀ (listed:Array Bool) (a:Act) (w:World) (i:Nat) (o:Oper),ops[i]?=some o→listed.size=ops.size→listed.getD i true=false→(∀ e ∈ o.after,Region.binds md e=true→listed.getD e.on false=true)→
   Inv listed a w→wpOp P ops Q i (Inv (listed.setIfInBounds i true)) a w)
  (hend:∀ (listed:Array Bool) (a:Act) (w:World),(∀ j,j<ops.size→listed.getD j false=true)→Inv listed a w→Q .normal a w) :
  ∀ (fuel:Nat) (listed:Array Bool) (a:Act) (w:World),Zc4 listed≤fuel→listed.size=ops.size→Inv listed a w→wpAny P md ops Q fuel listed a w
 | 0,listed,a,w,hf,hs,hi=>by
  have hr:Region.ready md ops listed=[]:=by
   rcases h:Region.ready md ops listed with _ | ⟨i,r⟩
   ·rfl
   ·have:i ∈ Region.ready md ops listed:=by rw[h];exact List.mem_cons_self
    have:=ZdJ (mem_ready.1 this).1
    omega
  exact⟨hr,hend listed a w (Zgr ho hs hr) hi⟩
 | fuel+1,listed,a,w,hf,hs,hi=>by
  refine⟨fun hr=>hend listed a w (Zgr ho hs hr) hi,fun i him=>?_⟩
  obtain⟨h1,o,h2,h3⟩:=mem_ready.1 him
  refine wpOp_mono (fun a' w' h'=>ZgS Inv ho hstep hend fuel _ a' w' ?_ ?_ h') (hstep listed a w i o h2 hs h1 h3 hi)
  ·have:=ZdJ h1;omega
  ·rw[Array.size_setIfInBounds];exact hs
theorem Zhl {listed:Array Bool} {i:Nat} (h:listed.getD i true=false):(listed.setIfInBounds i true).getD i false=true:=by
 rcases Nat.lt_or_ge i listed.size with h' | h'
 ·simp[h']
 ·simp[Array.getD,Nat.not_lt.2 h'] at h
theorem ZgH {listed:Array Bool} {i j:Nat} (h:j≠i):(listed.setIfInBounds i true).getD j false=listed.getD j false:=by
 rw[Array.getD_eq_getD_getElem?,Array.getD_eq_getD_getElem?,Array.getElem?_setIfInBounds_ne (Ne.symm h)]
theorem Zh5 {listed:Array Bool} {i j:Nat} (h:listed.getD i true=false):(listed.setIfInBounds i true).getD j false=true↔j=i∨listed.getD j false=true:=by
 by_cases hj:j=i
 ·subst hj;simp only[true_or,iff_true];exact Zhl h
 ·rw[ZgH hj];simp[hj]
theorem Zks {l:List Oper} {id:Nat} {a:Act} {w:World} (hm:P.follows .mixedOrders=true) (ho:ZdP l.toArray=true) (Inv:(Nat→Prop)→Act→World→Prop)
  (h0:Inv (fun _=>False) a w.drew)
  (hstep:∀ (L:Nat→Prop) (a:Act) (w:World) (i:Nat) (o:Oper),l[i]?=some o→¬ L i→(∀ (k:Nat) e,o.after[k]?=some e→Region.binds .any e=true→L e.on)→
   (∀ j o',l[j]?=some o'→L j→∀ (k:Nat) e,o'.after[k]?=some e→Region.binds .any e=true→L e.on)→Inv L a w→(if Region.wanted o (yielded l.toArray a.tmps) then o.wp P a w (Inv fun j=>j=i∨L j) Q else Inv (fun j=>j=i∨L j) (a.put o.dst undef) w))
  (hend:∀ (L:Nat→Prop) (a:Act) (w:World),(∀ j,j<l.length→L j)→Inv L a w→Q .normal a w):(Code.region id l.toArray true).wp P Q a w:=by
 refine wp_region_any hm (ZgS (fun listed a w=>∃ L:Nat→Prop,(∀ j,listed.getD j false=true↔L j)∧(∀ j o',l[j]?=some o'→L j→∀ e ∈ o'.after,Region.binds .any e=true→L e.on)∧Inv L a w) ho ?_ ?_ _ _ _ _ ?_ (by simp) ⟨_,fun j=>?_,fun _ _ _ h=>h.elim,h0⟩)
 ·rintro listed a w i o hi hs hl he ⟨L,hL,hC,hI⟩
  have h1:=hstep L a w i o (by simpa using hi) (by
   intro hc
   have:=(hL i).2 hc
   rcases Nat.lt_or_ge i listed.size with h' | h'
   ·simp[h'] at this hl;rw[this] at hl;cases hl
   ·simp[Array.getD,Nat.not_lt.2 h'] at hl) (fun k e he' hb=>(hL _).1 (he e (Array.mem_of_getElem? he') hb)) (fun j o' h1 h2 k e h3 h4=>hC j o' h1 h2 e (Array.mem_of_getElem? h3) h4) hI
  unfold wpOp
  simp only[hi]
  have hset:∀ j,(listed.setIfInBounds i true).getD j false=true↔(j=i∨L j):=fun j=>by rw[Zh5 hl,hL]
  have hC':∀ j o',l[j]?=some o'→(j=i∨L j)→∀ e ∈ o'.after,Region.binds .any e=true→(e.on=i∨L e.on):=fun j o' hj hd e he' hb=>by
   rcases hd with rfl | hd
   ·have:o'=o:=Option.some.inj (hj.symm.trans (by simpa using hi))
    subst this
    exact .inr ((hL _).1 (he e he' hb))
   ·exact .inr (hC j o' hj hd e he' hb)
  split at h1
  ·rename_i hw;simp only[hw,if_true];exact .inl (Oper.wp_mono (fun a' w' h'=>⟨_,hset,hC',h'⟩) h1)
  ·rename_i hw;simp only[hw];exact⟨_,hset,hC',h1⟩
 ·rintro listed a w hall ⟨L,hL,_,hI⟩
  exact hend L a w (fun j hj=>(hL j).1 (hall j (by simpa using hj))) hI
 ·unfold Zc4;simp
 ·simp[Array.getD]
theorem Zbo {l:List Oper} {o:Oper} {a:Act} {w:World} {I:Act→World→Prop} {J:Prop} (hw:Region.wanted o (yielded l.toArray a.tmps)=true)
  (h:∀ K:Act→World→Prop,(∀ a' w',I a' w'→K a' w')→o.wp P a w K Q):if Region.wanted o (yielded l.toArray a.tmps) then o.wp P a w I Q else J:=by
 rw[if_pos hw]
 exact h I fun _ _ h=>h
end
end Go.Proofs.YtmpaflidennnoaaGreatDoor
namespace Go.Proofs.YtmpaflidennnoaaGreatDoor
open Go.RowKit Go.Shelf
attribute [local go_sem ↓] Go.wp_at_zero Go.wp_at_succ
def sgnR (a b:Rat):Int:=if a<b then -1 else if a=b then 0 else 1
def CmpA (s t u v:ByteArray) (n:Int):Prop:=((okP s t && okP u v)=false∧n=0)∨((okP s t && okP u v)=true∧n=sgnR (ratP s t) (ratP u v))
def ZlX (s t u v:ByteArray) (w:World) (e:Ending) (w':World):Prop:=∃ n:Int,e=.returned (.int .i64 n)∧CmpA s t u v n∧Below w.heap.size w w'
theorem ZmN {a b:Rat} (ha:0≤a) (hb:0≤b) {r:Int} (h:Sign (a.num.toNat*b.den) (b.num.toNat*a.den) r):max (-1) (min 1 r)=sgnR a b:=by
 obtain⟨h1,h2,_,_⟩:=h
 unfold sgnR
 by_cases hl:a<b
 ·rw[if_pos hl]
  have:=h1.2 ((Zij ha hb).1 hl)
  omega
 ·rw[if_neg hl]
  by_cases he:a=b
  ·rw[if_pos he]
   have:=h2.2 ((ZkO ha hb).1 he)
   omega
  ·rw[if_neg he]
   have k1:¬ r<0:=fun h=>hl ((Zij ha hb).2 (h1.1 h))
   have k2:¬ r=0:=fun h=>he ((ZkO ha hb).2 (h2.1 h))
   omega
def ZbV:Obj:=.cells #[.slice none 0 0,.slice none 0 0] 112
def ZgG (a b:Value):Obj:=.cells #[a,b] 112
structure CmpInv (s t u v:ByteArray) (n1 d1 n2 d2:Nat) (w:World) (L:Nat→Prop) (t5 t6 t16 t17 t18 t19 va vb vc vd:Value) (b5 b6:Nat) (W:World):Prop where
 below:Below w.heap.size w W
 box:Zh w.heap.size [.cells #[.string s,.string t] 41,.cells #[.string u,.string v] 41] W
 l0:L 0→t16=.agg #[.string s,.string t]
 l2:L 2→t18=.agg #[.string u,.string v]
 l1:L 1→t17=.agg #[va,vb]∧Num W va n1∧Num W vb d1
 l3:L 3→t19=.agg #[vc,vd]∧Num W vc n2∧Num W vd d2
 l4:L 4→t5=.pointer (some ⟨b5,0,none⟩)∧w.heap.size+2≤b5∧b5<W.heap.size∧(¬ L 6→W.heap[b5]?=some ZbV)∧(L 6→W.heap[b5]?=some (ZgG va vb))
 l5:L 5→t6=.pointer (some ⟨b6,0,none⟩)∧w.heap.size+2≤b6∧b6<W.heap.size∧(¬ L 7→W.heap[b6]?=some ZbV)∧(L 7→W.heap[b6]?=some (ZgG vc vd))
 ne:L 4→L 5→b5≠b6
section
variable {s t u v:ByteArray} {n1 d1 n2 d2:Nat} {w:World} {L:Nat→Prop} {t5 t6 t16 t17 t18 t19 va vb vc vd:Value} {b5 b6:Nat} {W W':World}
theorem CmpInv.after (h:CmpInv s t u v n1 d1 n2 d2 w L t5 t6 t16 t17 t18 t19 va vb vc vd b5 b6 W) (hb:Below W.heap.size W W'):CmpInv s t u v n1 d1 n2 d2 w L t5 t6 t16 t17 t18 t19 va vb vc vd b5 b6 W':=by
 refine⟨h.below.trans (hb.mono h.below.size),h.box.below hb h.box.lt,h.l0,h.l2,fun k=>?_,fun k=>?_,fun k=>?_,fun k=>?_,h.ne⟩
 ·obtain⟨e,x,y⟩:=h.l1 k
  exact⟨e,x.after hb (Nat.le_refl _),y.after hb (Nat.le_refl _)⟩
 ·obtain⟨e,x,y⟩:=h.l3 k
  exact⟨e,x.after hb (Nat.le_refl _),y.after hb (Nat.le_refl _)⟩
 ·obtain⟨e,x,y,z,z'⟩:=h.l4 k
  have:=hb.block b5 y
  exact⟨e,x,Nat.lt_of_lt_of_le y hb.size,fun m=>by rw[this];exact z m,fun m=>by rw[this];exact z' m⟩
 ·obtain⟨e,x,y,z,z'⟩:=h.l5 k
  have:=hb.block b6 y
  exact⟨e,x,Nat.lt_of_lt_of_le y hb.size,fun m=>by rw[this];exact z m,fun m=>by rw[this];exact z' m⟩
theorem CmpInv.s0 (h:CmpInv s t u v n1 d1 n2 d2 w L t5 t6 t16 t17 t18 t19 va vb vc vd b5 b6 W):CmpInv s t u v n1 d1 n2 d2 w (fun j=>j=0∨L j) t5 t6 (.agg #[.string s,.string t]) t17 t18 t19 va vb vc vd b5 b6 W:=by
 refine⟨h.below,h.box,fun _=>rfl,fun k=>h.l2 (by simpa using k),fun k=>h.l1 (by simpa using k),fun k=>h.l3 (by simpa using k),fun k=>?_,fun k=>?_,fun k m=>h.ne (by simpa using k) (by simpa using m)⟩
 ·simpa using h.l4 (by simpa using k)
 ·simpa using h.l5 (by simpa using k)
theorem CmpInv.s2 (h:CmpInv s t u v n1 d1 n2 d2 w L t5 t6 t16 t17 t18 t19 va vb vc vd b5 b6 W):CmpInv s t u v n1 d1 n2 d2 w (fun j=>j=2∨L j) t5 t6 t16 t17 (.agg #[.string u,.string v]) t19 va vb vc vd b5 b6 W:=by
 refine⟨h.below,h.box,fun k=>h.l0 (by simpa using k),fun _=>rfl,fun k=>h.l1 (by simpa using k),fun k=>h.l3 (by simpa using k),fun k=>?_,fun k=>?_,fun k m=>h.ne (by simpa using k) (by simpa using m)⟩
 ·simpa using h.l4 (by simpa using k)
 ·simpa using h.l5 (by simpa using k)
theorem CmpInv.s1 (h:CmpInv s t u v n1 d1 n2 d2 w L t5 t6 t16 t17 t18 t19 va vb vc vd b5 b6 W) (h6:¬ L 6) {va' vb':Value} (ha:Num W va' n1) (hb:Num W vb' d1) :
  CmpInv s t u v n1 d1 n2 d2 w (fun j=>j=1∨L j) t5 t6 t16 (.agg #[va',vb']) t18 t19 va' vb' vc vd b5 b6 W:=by
 refine⟨h.below,h.box,fun k=>h.l0 (by simpa using k),fun k=>h.l2 (by simpa using k),fun _=>⟨rfl,ha,hb⟩,fun k=>h.l3 (by simpa using k),fun k=>?_,fun k=>?_,fun k m=>h.ne (by simpa using k) (by simpa using m)⟩
 ·obtain⟨e,x,y,z,z'⟩:=h.l4 (by simpa using k)
  exact⟨e,x,y,fun _=>z h6,fun m=>absurd (by simpa using m) h6⟩
 ·simpa using h.l5 (by simpa using k)
theorem CmpInv.s3 (h:CmpInv s t u v n1 d1 n2 d2 w L t5 t6 t16 t17 t18 t19 va vb vc vd b5 b6 W) (h7:¬ L 7) {va' vb':Value} (ha:Num W va' n2) (hb:Num W vb' d2) :
  CmpInv s t u v n1 d1 n2 d2 w (fun j=>j=3∨L j) t5 t6 t16 t17 t18 (.agg #[va',vb']) va vb va' vb' b5 b6 W:=by
 refine⟨h.below,h.box,fun k=>h.l0 (by simpa using k),fun k=>h.l2 (by simpa using k),fun k=>h.l1 (by simpa using k),fun _=>⟨rfl,ha,hb⟩,fun k=>?_,fun k=>?_,fun k m=>h.ne (by simpa using k) (by simpa using m)⟩
 ·simpa using h.l4 (by simpa using k)
 ·obtain⟨e,x,y,z,z'⟩:=h.l5 (by simpa using k)
  exact⟨e,x,y,fun _=>z h7,fun m=>absurd (by simpa using m) h7⟩
theorem CmpInv.s4 (h:CmpInv s t u v n1 d1 n2 d2 w L t5 t6 t16 t17 t18 t19 va vb vc vd b5 b6 W) (h6:¬ L 6) :
  CmpInv s t u v n1 d1 n2 d2 w (fun j=>j=4∨L j) (.pointer (some ⟨W.heap.size,0,none⟩)) t6 t16 t17 t18 t19 va vb vc vd W.heap.size b6 (W.alloc ZbV):=by
 have k:=h.after ((Below.refl W.heap.size W).alloc (Nat.le_refl _) ZbV)
 refine⟨k.below,k.box,fun m=>k.l0 (by simpa using m),fun m=>k.l2 (by simpa using m),fun m=>k.l1 (by simpa using m),fun m=>k.l3 (by simpa using m),fun m=>?_,fun m=>?_,fun _ m=>?_⟩
 ·exact⟨rfl,h.box.lt,by simp,fun _=>World.alloc_heap_new W _,fun m=>absurd (by simpa using m) h6⟩
 ·simpa using k.l5 (by simpa using m)
 ·have:=(h.l5 (by simpa using m)).2.2.1;omega
theorem CmpInv.s5 (h:CmpInv s t u v n1 d1 n2 d2 w L t5 t6 t16 t17 t18 t19 va vb vc vd b5 b6 W) (h7:¬ L 7) :
  CmpInv s t u v n1 d1 n2 d2 w (fun j=>j=5∨L j) t5 (.pointer (some ⟨W.heap.size,0,none⟩)) t16 t17 t18 t19 va vb vc vd b5 W.heap.size (W.alloc ZbV):=by
 have k:=h.after ((Below.refl W.heap.size W).alloc (Nat.le_refl _) ZbV)
 refine⟨k.below,k.box,fun m=>k.l0 (by simpa using m),fun m=>k.l2 (by simpa using m),fun m=>k.l1 (by simpa using m),fun m=>k.l3 (by simpa using m),fun m=>?_,fun m=>?_,fun m _=>?_⟩
 ·simpa using k.l4 (by simpa using m)
 ·exact⟨rfl,h.box.lt,by simp,fun _=>World.alloc_heap_new W _,fun m=>absurd (by simpa using m) h7⟩
 ·have:=(h.l4 (by simpa using m)).2.2.1;omega
theorem Zh0 {b:Nat} (hz:W.heap[b]?=some ZbV) (x y:Value) :
  Keeps (fun i=>i≠b) W ((W.setCell ⟨b,0,none⟩ x).setCell ⟨b,1,none⟩ y)∧((W.setCell ⟨b,0,none⟩ x).setCell ⟨b,1,none⟩ y).heap[b]?=some (ZgG x y)∧
   (∀ (z:Value) (n:Nat),Num W z n→Num ((W.setCell ⟨b,0,none⟩ x).setCell ⟨b,1,none⟩ y) z n):=by
 have hk:Keeps (fun i=>i≠b) W ((W.setCell ⟨b,0,none⟩ x).setCell ⟨b,1,none⟩ y):=((Keeps.refl _ W).setCell (by simp) _).setCell (by simp) _
 exact⟨hk,ZQ hz x y,fun z n h=>h.keepsBut hz (ZgJ _ _ (fun x h=>by cases h) (fun x h=>by cases h)) hk⟩
theorem CmpInv.s6 (h:CmpInv s t u v n1 d1 n2 d2 w L t5 t6 t16 t17 t18 t19 va vb vc vd b5 b6 W) (h6:¬ L 6) (h4:L 4) (h5:L 5) :
  CmpInv s t u v n1 d1 n2 d2 w (fun j=>j=6∨L j) t5 t6 t16 t17 t18 t19 va vb vc vd b5 b6 ((W.setCell ⟨b5,0,none⟩ va).setCell ⟨b5,1,none⟩ vb):=by
 obtain⟨e,x,y,z,z'⟩:=h.l4 h4
 obtain⟨hk,hn,hN⟩:=Zh0 (z h6) va vb
 have hne:=h.ne h4 h5
 refine⟨Ze h.below (by omega) _ _,h.box.keeps hk (fun i hi=>by have:i<2:=hi;omega),fun m=>h.l0 (by simpa using m),fun m=>h.l2 (by simpa using m),fun m=>?_,fun m=>?_,fun m=>?_,fun m=>?_,fun _ _=>hne⟩
 ·obtain⟨q1,q2,q3⟩:=h.l1 (by simpa using m)
  exact⟨q1,hN _ _ q2,hN _ _ q3⟩
 ·obtain⟨q1,q2,q3⟩:=h.l3 (by simpa using m)
  exact⟨q1,hN _ _ q2,hN _ _ q3⟩
 ·exact⟨e,x,Nat.lt_of_lt_of_le y hk.size,fun m=>absurd (.inl rfl) m,fun _=>hn⟩
 ·obtain⟨q1,q2,q3,q4,q5⟩:=h.l5 h5
  have hb:=hk.block b6 q3 (Ne.symm hne)
  exact⟨q1,q2,Nat.lt_of_lt_of_le q3 hk.size,fun m=>by rw[hb];exact q4 (by simpa using m),fun m=>by rw[hb];exact q5 (by simpa using m)⟩
theorem CmpInv.s7 (h:CmpInv s t u v n1 d1 n2 d2 w L t5 t6 t16 t17 t18 t19 va vb vc vd b5 b6 W) (h7:¬ L 7) (h4:L 4) (h5:L 5) :
  CmpInv s t u v n1 d1 n2 d2 w (fun j=>j=7∨L j) t5 t6 t16 t17 t18 t19 va vb vc vd b5 b6 ((W.setCell ⟨b6,0,none⟩ vc).setCell ⟨b6,1,none⟩ vd):=by
 obtain⟨e,x,y,z,z'⟩:=h.l5 h5
 obtain⟨hk,hn,hN⟩:=Zh0 (z h7) vc vd
 have hne:=h.ne h4 h5
 refine⟨Ze h.below (by omega) _ _,h.box.keeps hk (fun i hi=>by have:i<2:=hi;omega),fun m=>h.l0 (by simpa using m),fun m=>h.l2 (by simpa using m),fun m=>?_,fun m=>?_,fun m=>?_,fun m=>?_,fun _ _=>hne⟩
 ·obtain⟨q1,q2,q3⟩:=h.l1 (by simpa using m)
  exact⟨q1,hN _ _ q2,hN _ _ q3⟩
 ·obtain⟨q1,q2,q3⟩:=h.l3 (by simpa using m)
  exact⟨q1,hN _ _ q2,hN _ _ q3⟩
 ·obtain⟨q1,q2,q3,q4,q5⟩:=h.l4 h4
  have hb:=hk.block b5 q3 hne
  exact⟨q1,q2,Nat.lt_of_lt_of_le q3 hk.size,fun m=>by rw[hb];exact q4 (by simpa using m),fun m=>by rw[hb];exact q5 (by simpa using m)⟩
 ·exact⟨e,x,Nat.lt_of_lt_of_le y hk.size,fun m=>absurd (.inl rfl) m,fun _=>hn⟩
end
theorem ZiQ (s t u v:ByteArray) (w:World) (hs:s.size≤1000000) (ht:t.size≤1000000) (hu:u.size≤1000000) (hv:v.size≤1000000) :
  Calls Tryz.prog 22 #[.agg #[.string s,.string t],.agg #[.string u,.string v]] w (ZlX s t u v w):=by
 cases h1:okP s t
 ·have H1:Hid (okE s t=2∧(okP s t && okP u v)=false):=⟨Zav h1,by rw[h1];rfl⟩
  clear h1
  go_enter Tryz.func22,Tryz.ntmps22
  go_wp2_with fail
  obtain⟨w1,hw1⟩:∃ w1,(w.alloc (.cells #[.string s,.string t] 41)).alloc (.cells #[.string u,.string v] 41)=w1:=⟨_,rfl⟩
  rw[hw1]
  have HX1:Hid (Zh w.heap.size [.cells #[.string s,.string t] 41,.cells #[.string u,.string v] 41] w1):=by rw[← hw1];exact Zh.two w _ _
  have HB1:Hid (Below w.heap.size w w1):=by rw[← hw1];exact((Below.refl _ w).alloc (Nat.le_refl _) _).alloc (by simp) _
  clear hw1
  refine(Zw s t _ hs ht).mono ?_
  rintro e w2 ⟨rfl,hb2⟩
  have HX2:=Lib.hid (HX1.out.below hb2 HX1.out.lt)
  have HB2:=Lib.hid (HB1.out.trans (hb2.mono HB1.out.size))
  clear hb2
  rw[H1.out.1]
  go_wp2
  go_ret
  exact⟨_,rfl,.inl ⟨H1.out.2,rfl⟩,HB2.out⟩
 ·cases h2:okP u v
  ·have H1:=Lib.hid (Z9 h1)
   have H2:Hid (okE u v=2∧(okP s t && okP u v)=false):=⟨Zav h2,by rw[h2,Bool.and_false]⟩
   clear h1 h2
   go_enter Tryz.func22,Tryz.ntmps22
   go_wp2_with fail
   obtain⟨w1,hw1⟩:∃ w1,(w.alloc (.cells #[.string s,.string t] 41)).alloc (.cells #[.string u,.string v] 41)=w1:=⟨_,rfl⟩
   rw[hw1]
   have HX1:Hid (Zh w.heap.size [.cells #[.string s,.string t] 41,.cells #[.string u,.string v] 41] w1):=by rw[← hw1];exact Zh.two w _ _
   have HB1:Hid (Below w.heap.size w w1):=by rw[← hw1];exact((Below.refl _ w).alloc (Nat.le_refl _) _).alloc (by simp) _
   clear hw1
   refine(Zw s t _ hs ht).mono ?_
   rintro e w2 ⟨rfl,hb2⟩
   have HX2:=Lib.hid (HX1.out.below hb2 HX1.out.lt)
   have HB2:=Lib.hid (HB1.out.trans (hb2.mono HB1.out.size))
   clear hb2
   rw[H1.out]
   have kc2:=HX2.out.cell 1 0 (b:=w.heap.size+1) rfl rfl rfl
   have kd2:=HX2.out.cell 1 1 (b:=w.heap.size+1) rfl rfl rfl
   go_wp2_with fail
   refine(Zw u v _ hu hv).mono ?_
   rintro e w3 ⟨rfl,hb3⟩
   rw[H2.out.1]
   have HB3:=Lib.hid (HB2.out.trans (hb3.mono HB2.out.size))
   clear hb3 kc2 kd2
   go_wp2
   go_ret
   exact⟨_,rfl,.inl ⟨H2.out.2,rfl⟩,HB3.out⟩
  ·obtain⟨g1,g2,_,_,l1,l2,d1⟩:=ZaW h1
   obtain⟨g3,g4,_,_,l3,l4,d2⟩:=ZaW h2
   have HG:=Lib.hid (And.intro g1 (And.intro g2 (And.intro g3 g4)))
   have HD:=Lib.hid (And.intro d1 d2)
   have H1:=Lib.hid (Z9 h1)
   have H2:=Lib.hid (Z9 h2)
   have HQ:Hid ((okP s t && okP u v)=true):=by show _=_;rw[h1,h2];rfl
   have HV:=Lib.hid (And.intro (Zbl h1) (Zbl h2))
   clear h1 h2 g1 g2 g3 g4 d1 d2
   go_enter Tryz.func22,Tryz.ntmps22
   go_wp2_with fail
   obtain⟨w1,hw1⟩:∃ w1,(w.alloc (.cells #[.string s,.string t] 41)).alloc (.cells #[.string u,.string v] 41)=w1:=⟨_,rfl⟩
   rw[hw1]
   have HX1:Hid (Zh w.heap.size [.cells #[.string s,.string t] 41,.cells #[.string u,.string v] 41] w1):=by rw[← hw1];exact Zh.two w _ _
   have HB1:Hid (Below w.heap.size w w1):=by rw[← hw1];exact((Below.refl _ w).alloc (Nat.le_refl _) _).alloc (by simp) _
   clear hw1
   refine(Zw s t _ hs ht).mono ?_
   rintro e w2 ⟨rfl,hb2⟩
   have HX2:=Lib.hid (HX1.out.below hb2 HX1.out.lt)
   have HB2:=Lib.hid (HB1.out.trans (hb2.mono HB1.out.size))
   clear hb2
   rw[H1.out]
   have kc2:=HX2.out.cell 1 0 (b:=w.heap.size+1) rfl rfl rfl
   have kd2:=HX2.out.cell 1 1 (b:=w.heap.size+1) rfl rfl rfl
   go_wp2_with fail
   refine(Zw u v _ hu hv).mono ?_
   rintro e w3 ⟨rfl,hb3⟩
   rw[H2.out]
   have HX3:=Lib.hid (HX2.out.below hb3 HX2.out.lt)
   have HB3:=Lib.hid (HB2.out.trans (hb3.mono HB2.out.size))
   clear hb3 kc2 kd2
   have ka3:=HX3.out.cell 0 0 (b:=w.heap.size) rfl rfl rfl
   have kb3:=HX3.out.cell 0 1 (b:=w.heap.size) rfl rfl rfl
   have kc3:=HX3.out.cell 1 0 (b:=w.heap.size+1) rfl rfl rfl
   have kd3:=HX3.out.cell 1 1 (b:=w.heap.size+1) rfl rfl rfl
   go_wp2_with fail
   obtain⟨n1,hn1⟩:∃ n,Zg s.data.toList=n:=⟨_,rfl⟩
   obtain⟨d1,hd1⟩:∃ n,Zg t.data.toList=n:=⟨_,rfl⟩
   obtain⟨n2,hn2⟩:∃ n,Zg u.data.toList=n:=⟨_,rfl⟩
   obtain⟨d2,hd2⟩:∃ n,Zg v.data.toList=n:=⟨_,rfl⟩
   have T1:=fun W:World=>Zau s t hs ht HG.out.1 HG.out.2.1 W
   have T2:=fun W:World=>Zau u v hu hv HG.out.2.2.1 HG.out.2.2.2 W
   rw[hn1,hd1] at T1
   rw[hn2,hd2] at T2
   have HT1:=Lib.hid T1
   have HT2:=Lib.hid T2
   clear T1 T2 ka3 kb3 kc3 kd3
   refine Zks (by kernel_rfl) (by kernel_rfl) (fun L a W=>∃ (t5 t6 t16 t17 t18 t19 va vb vc vd:Value) (b5 b6:Nat),a = { tmps:=#[.agg #[.string s,.string t],.agg #[.string u,.string v],.pointer (some ⟨w.heap.size,0,none⟩),.pointer (some ⟨w.heap.size+1,0,none⟩),.int .i64 0,t5,t6,undef,.agg #[.string s,.string t],.int .i64 0,.bool false,.bool false,.agg #[.string u,.string v],.int .i64 0,.bool false,.bool false,t16,t17,t18,t19,undef,undef,undef,undef,undef,undef,undef,undef,undef,undef,undef,undef,undef,undef],defers:=[] }∧CmpInv s t u v n1 d1 n2 d2 w L t5 t6 t16 t17 t18 t19 va vb vc vd b5 b6 W) ?h0 ?hstep ?hend
   case h0=>exact⟨_,_,_,_,_,_,undef,undef,undef,undef,0,0,rfl,⟨HB3.out.drew,HX3.out.drew,fun h=>h.elim,fun h=>h.elim,fun h=>h.elim,fun h=>h.elim,fun h=>h.elim,fun h=>h.elim,fun h=>h.elim⟩⟩
   case hstep=>
    rintro L a W i o hi hL he hC ⟨t5,t6,t16,t17,t18,t19,va,vb,vc,vd,b5,b6,rfl,hI⟩
    have HI:=Lib.hid hI
    have h6:¬ L 1∨¬ L 4→¬ L 6:=fun h h'=>by
     have a1:L 1:=hC 6 _ rfl h' 1 _ rfl rfl
     have a4:L 4:=hC 6 _ rfl h' 0 _ rfl rfl
     rcases h with h | h
     ·exact h a1
     ·exact h a4
    have h7:¬ L 3∨¬ L 5→¬ L 7:=fun h h'=>by
     have a3:L 3:=hC 7 _ rfl h' 1 _ rfl rfl
     have a5:L 5:=hC 7 _ rfl h' 0 _ rfl rfl
     rcases h with h | h
     ·exact h a3
     ·exact h a5
    clear hI hC
    match i,hi with
    | 0,hi=>
     obtain rfl:=Option.some.inj hi
     have q0:=HI.out.box.cell 0 0 (b:=w.heap.size) rfl rfl rfl
     have q1:=HI.out.box.cell 0 1 (b:=w.heap.size) rfl rfl rfl
     refine Zbo rfl fun K hK=>?_
     go_simp
     exact hK _ _ ⟨_,_,_,_,_,_,_,_,_,_,_,_,rfl,HI.out.s0⟩
    | 1,hi=>
     obtain rfl:=Option.some.inj hi
     have h0:=HI.out.l0 (he 0 _ rfl rfl)
     have g6:=h6 (.inl hL)
     subst h0
     refine Zbo rfl fun K hK=>?_
     go_simp
     go_at_call 67
     refine(HT1.out W).mono ?_
     rintro e W' ⟨x,y,rfl,hx,hy,hb⟩
     exact hK _ _ ⟨_,_,_,_,_,_,_,_,_,_,_,_,rfl,(HI.out.after hb).s1 g6 hx hy⟩
    | 2,hi=>
     obtain rfl:=Option.some.inj hi
     have q0:=HI.out.box.cell 1 0 (b:=w.heap.size+1) rfl rfl rfl
     have q1:=HI.out.box.cell 1 1 (b:=w.heap.size+1) rfl rfl rfl
     refine Zbo rfl fun K hK=>?_
     go_simp
     exact hK _ _ ⟨_,_,_,_,_,_,_,_,_,_,_,_,rfl,HI.out.s2⟩
    | 3,hi=>
     obtain rfl:=Option.some.inj hi
     have h0:=HI.out.l2 (he 0 _ rfl rfl)
     have g7:=h7 (.inl hL)
     subst h0
     refine Zbo rfl fun K hK=>?_
     go_simp
     go_at_call 67
     refine(HT2.out W).mono ?_
     rintro e W' ⟨x,y,rfl,hx,hy,hb⟩
     exact hK _ _ ⟨_,_,_,_,_,_,_,_,_,_,_,_,rfl,(HI.out.after hb).s3 g7 hx hy⟩
    | 4,hi=>
     obtain rfl:=Option.some.inj hi
     have g6:=h6 (.inr hL)
     refine Zbo rfl fun K hK=>?_
     go_simp
     exact hK _ _ ⟨_,_,_,_,_,_,_,_,_,_,_,_,rfl,HI.out.s4 g6⟩
    | 5,hi=>
     obtain rfl:=Option.some.inj hi
     have g7:=h7 (.inr hL)
     refine Zbo rfl fun K hK=>?_
     go_simp
     exact hK _ _ ⟨_,_,_,_,_,_,_,_,_,_,_,_,rfl,HI.out.s5 g7⟩
    | 6,hi=>
     obtain rfl:=Option.some.inj hi
     have g4:L 4:=he 0 _ rfl rfl
     have g5:L 5:=he 8 _ rfl rfl
     obtain⟨e1,e2,e3,e4,e5⟩:=HI.out.l4 g4
     obtain⟨e6,e7,e8⟩:=HI.out.l1 (he 1 _ rfl rfl)
     have q0:=Za (e4 hL) 0 rfl
     have q1:=Za (e4 hL) 1 rfl
     have q2:=Zb (e4 hL) 0
     have q3:=Zb (e4 hL) 1
     subst e1
     subst e6
     obtain⟨pA,lA,cA,rfl⟩:=e7.form'
     obtain⟨pB,lB,cB,rfl⟩:=e8.form'
     clear e4 e5 e7 e8
     refine Zbo rfl fun K hK=>?_
     go_simp
     exact hK _ _ ⟨_,_,_,_,_,_,_,_,_,_,_,_,rfl,HI.out.s6 hL g4 g5⟩
    | 7,hi=>
     obtain rfl:=Option.some.inj hi
     have g4:L 4:=he 7 _ rfl rfl
     have g5:L 5:=he 0 _ rfl rfl
     obtain⟨e1,e2,e3,e4,e5⟩:=HI.out.l5 g5
     obtain⟨e6,e7,e8⟩:=HI.out.l3 (he 1 _ rfl rfl)
     have q0:=Za (e4 hL) 0 rfl
     have q1:=Za (e4 hL) 1 rfl
     have q2:=Zb (e4 hL) 0
     have q3:=Zb (e4 hL) 1
     subst e1
     subst e6
     obtain⟨pA,lA,cA,rfl⟩:=e7.form'
     obtain⟨pB,lB,cB,rfl⟩:=e8.form'
     clear e4 e5 e7 e8
     refine Zbo rfl fun K hK=>?_
     go_simp
     exact hK _ _ ⟨_,_,_,_,_,_,_,_,_,_,_,_,rfl,HI.out.s7 hL g4 g5⟩
    | n+8,hi=>simp at hi
   case hend=>
    rintro L a W hall ⟨t5,t6,t16,t17,t18,t19,va,vb,vc,vd,b5,b6,rfl,hI⟩
    have HI:=Lib.hid hI
    obtain⟨e1,e2,e3,_,e5⟩:=hI.l4 (hall 4 (by simp))
    obtain⟨m1,m2,m3,_,m5⟩:=hI.l5 (hall 5 (by simp))
    have H5:=Lib.hid (e5 (hall 6 (by simp)))
    have H6:=Lib.hid (m5 (hall 7 (by simp)))
    have HN1:=Lib.hid (hI.l1 (hall 1 (by simp)))
    have HN3:=Lib.hid (hI.l3 (hall 3 (by simp)))
    have HBW:=Lib.hid hI.below
    subst e1
    subst m1
    clear hI e5 m5 hall
    obtain⟨p1,y1,c1,rfl⟩:=HN1.out.2.1.form'
    obtain⟨p2,y2,c2,rfl⟩:=HN1.out.2.2.form'
    obtain⟨p3,y3,c3,rfl⟩:=HN3.out.2.1.form'
    obtain⟨p4,y4,c4,rfl⟩:=HN3.out.2.2.form'
    have k0:=Za H5.out 0 rfl
    have k1:=Za H5.out 1 rfl
    have k2:=Za H6.out 0 rfl
    have k3:=Za H6.out 1 rfl
    have L1:Hid ((Zc 1000000000 n1).length≤1000∧(Zc 1000000000 d1).length≤1000∧(Zc 1000000000 n2).length≤1000∧(Zc 1000000000 d2).length≤1000):=by
     subst hn1;subst hd1;subst hn2;subst hd2;exact⟨l1,l2,l3,l4⟩
    have M1:Hid ((Zc 1000000000 (n1*d2)).length≤1000000):=Nat.le_trans (Zbm L1.out.1 L1.out.2.2.2) (by omega)
    have M2:Hid ((Zc 1000000000 (n2*d1)).length≤1000000):=Nat.le_trans (Zbm L1.out.2.2.1 L1.out.2.1) (by omega)
    go_wp2_with fail
    go_region_held3
     (fun w'=>w'.cell? ⟨b5,0,none⟩=some (.slice p1 y1 c1)∧w'.cell? ⟨b5,1,none⟩=some (.slice p2 y2 c2)∧w'.cell? ⟨b6,0,none⟩=some (.slice p3 y3 c3)∧w'.cell? ⟨b6,1,none⟩=some (.slice p4 y4 c4))
     (first | exact⟨k0,k1,k2,k3⟩ | exact⟨ka2,kb2,kc2,kd2⟩ | exact⟨ka3,kb3,kc3,kd3⟩ | exact⟨ka4,kb4,kc4,kd4⟩)
     (first
      | (go_at_call_of 68 (Value.slice p1 y1 c1);(refine(Z8 (HN1.out.2.1.after (Below.refl W.heap.size W).drew (Nat.le_refl _)) (HN3.out.2.2.after (Below.refl W.heap.size W).drew (Nat.le_refl _)) L1.out.1 L1.out.2.2.2).mono ?_;rintro e w2 ⟨xa,rfl,hv,hb⟩;obtain⟨pa,ma,ca,rfl⟩:=hv.form';have HA:=Lib.hid hv;have F5:=Lib.hid ((hb.block b5 e3).trans H5.out);have F6:=Lib.hid ((hb.block b6 m3).trans H6.out);have HB2:Hid (Below W.heap.size W w2):=((Below.refl W.heap.size W).drew).trans hb;have ka2:=Za F5.out 0 rfl;have kb2:=Za F5.out 1 rfl;have kc2:=Za F6.out 0 rfl;have kd2:=Za F6.out 1 rfl;clear hv hb))
      | (go_at_call_of 68 (Value.slice p3 y3 c3);refine(Z8 (HN3.out.2.1.after HB2.out (Nat.le_refl _)) (HN1.out.2.2.after HB2.out (Nat.le_refl _)) L1.out.2.2.1 L1.out.2.1).mono ?_;rintro e w3 ⟨xb,rfl,hv,hb⟩;obtain⟨pb,mb,cb,rfl⟩:=hv.form';have HA3:=Lib.hid (HA.out.after hb (Nat.le_refl _));have HC:=Lib.hid hv;have HB3:Hid (Below W.heap.size W w3):=HB2.out.trans (hb.mono HB2.out.size);have F53:=Lib.hid ((HB3.out.block b5 e3).trans H5.out);have F63:=Lib.hid ((HB3.out.block b6 m3).trans H6.out);have ka3:=Za F53.out 0 rfl;have kb3:=Za F53.out 1 rfl;have kc3:=Za F63.out 0 rfl;have kd3:=Za F63.out 1 rfl;clear hv hb)
      | (go_at_call 69;refine(Zbh HA3.out HC.out M1.out M2.out).mono ?_;rintro e w4 ⟨r,rfl,hsg,hb⟩;have HSG:=Lib.hid hsg;have HB4:Hid (Below W.heap.size W w4):=HB3.out.trans (hb.mono HB3.out.size);have F54:=Lib.hid ((HB4.out.block b5 e3).trans H5.out);have F64:=Lib.hid ((HB4.out.block b6 m3).trans H6.out);have ka4:=Za F54.out 0 rfl;have kb4:=Za F54.out 1 rfl;have kc4:=Za F64.out 0 rfl;have kd4:=Za F64.out 1 rfl;clear hb hsg))
    clear k0 k1 k2 k3
    have HS:Hid (max (-1) (min 1 r)=sgnR (ratP s t) (ratP u v)):=ZmN (HV.out.1.1) (HV.out.2.1) (by rw[← HV.out.1.2.1,← HV.out.1.2.2,← HV.out.2.2.1,← HV.out.2.2.2,hn1,hd1,hn2,hd2];exact HSG.out)
    go_wp2
    go_ret
    exact⟨_,rfl,.inr ⟨HQ.out,HS.out⟩,HBW.out.trans (HB4.out.mono HBW.out.size)⟩
end Go.Proofs.YtmpaflidennnoaaGreatDoor
namespace Go.Proofs.YtmpaflidennnoaaGreatDoor
open Go.RowKit Go.Shelf
theorem Bi.both {s t u v x y:ByteArray} {e:Int} {R:ByteArray→ByteArray→Int→Prop} (h:Bi s t u v R x y e) (h1:okP s t=true) (h2:okP u v=true):R x y e:=by
 rcases h with ⟨h,_⟩ | ⟨_,h⟩
 ·rw[h1,h2] at h;cases h
 ·exact h
theorem IsP.small {q:Rat} {s t:ByteArray} (h:IsP q s t):s.size≤600∧t.size≤600:=by
 rw[h.num,h.den,ZaF,ZaF];exact h.fits
theorem IsP.limit {q:Rat} {s t:ByteArray} (h:IsP q s t):s.size≤1000000∧t.size≤1000000:=by
 have:=h.small;omega
abbrev PP:=ByteArray×ByteArray
def PAt (w:World) (b off:Nat) (ps:List PP):Prop:=
 ∀ j (h:j<ps.length),w.cell? ⟨b,off+j*2,none⟩=some (.string ps[j].1)∧w.cell? ⟨b,off+j*2+1,none⟩=some (.string ps[j].2)
def PL (w:World) (v:Value) (ps:List PP):Prop:=
 ∃ p cap,v=.slice p ps.length cap∧ps.length≤cap∧cap≤maxLen∧(ps≠[]→∃ b off,p=some ⟨b,off,none⟩∧b<w.heap.size∧PAt w b off ps)
theorem PAt.below {B:Nat} {w w':World} {b off:Nat} {ps:List PP} (h:PAt w b off ps) (hb:Below B w w') (hB:b<B):PAt w' b off ps:=
 fun j hj=>⟨(hb.cell (p:=⟨b,off+j*2,none⟩) hB).trans (h j hj).1,(hb.cell (p:=⟨b,off+j*2+1,none⟩) hB).trans (h j hj).2⟩
theorem PL.after {B:Nat} {w w':World} {v:Value} {ps:List PP} (h:PL w v ps) (hb:Below B w w') (hB:w.heap.size≤B):PL w' v ps:=by
 obtain⟨p,cap,h1,h2,h3,h4⟩:=h
 refine⟨p,cap,h1,h2,h3,fun hne=>?_⟩
 obtain⟨b,off,h5,h6,h7⟩:=h4 hne
 exact⟨b,off,h5,Nat.lt_of_lt_of_le h6 hb.size,h7.below hb (by omega)⟩
theorem PL.nil (w:World):PL w (.slice none 0 0) []:=⟨none,0,rfl,Nat.le_refl _,by simp[maxLen],by simp⟩
def IsL (qs:List Rat) (ps:List PP):Prop:=qs.length=ps.length∧∀ k (h1:k<qs.length) (h2:k<ps.length),IsP qs[k] ps[k].1 ps[k].2
theorem IsL.length {qs:List Rat} {ps:List PP} (h:IsL qs ps):qs.length=ps.length:=h.1
instance fitsDec (q:Rat):Decidable (Fits q):=inferInstanceAs (Decidable (_∧_))
def Zbd:List PP→List Value
 | []=>[]
 | p::ps=>.string p.1::.string p.2::Zbd ps
theorem Zhu (ps qs:List PP):Zbd (ps++qs)=Zbd ps++Zbd qs:=by
 induction ps with
 | nil=>rfl
 | cons p ps ih=>simp[Zbd,ih]
theorem Zg7:∀ (ps:List PP) (j:Nat) (h:j<ps.length),(Zbd ps)[j*2]?=some (.string ps[j].1)∧(Zbd ps)[j*2+1]?=some (.string ps[j].2)
 | p::ps,0,_=>⟨rfl,rfl⟩
 | p::ps,j+1,h=>by
  have:=Zg7 ps j (by simpa using h)
  simp only[Zbd,List.getElem_cons_succ]
  rw[show (j+1)*2=j*2+1+1 by omega]
  exact this
def Own (w:World) (base:Nat) (v:Value) (ps:List PP):Prop:=w.ownsRow base 41 2 v ps.length (Zbd ps)
theorem Own.nil (w:World) (base:Nat):Own w base (.slice none 0 0) []:=World.ownsRow_nil w base _ 2
theorem Own.pl {w:World} {base:Nat} {v:Value} {ps:List PP} (h:Own w base v ps):PL w v ps:=by
 have h0:=h
 rcases h.2 with ⟨rfl,h1⟩ | ⟨g,cap,cur,rfl,hb,hg,hle,hcap,hr⟩
 ·obtain rfl:ps=[]:=List.eq_nil_of_length_eq_zero h1
  exact PL.nil w
 ·refine⟨_,cap,rfl,hle,hcap,fun _=>⟨g,0,rfl,(Array.getElem?_eq_some_iff.1 hg).1,fun j hj=>?_⟩⟩
  have h2:=Zg7 ps j hj
  have e1:=World.ownsRow.cellAt h0 (j*2) (by omega)
  have e2:=World.ownsRow.cellAt h0 (j*2+1) (by omega)
  rw[Nat.zero_add]
  rw[e1,e2]
  constructor
  ·rw[← h2.1]
  ·rw[← h2.2]
theorem Own.kept {w w':World} {base:Nat} {v:Value} {ps:List PP} (h:Own w base v ps) (hk:∀ g,base≤g→v.ownBlock=some g→w'.heap[g]?=w.heap[g]?):Own w' base v ps:=by
 obtain⟨h1,h2⟩:=h
 refine⟨h1,?_⟩
 rcases h2 with h2 | ⟨g,cap,cur,rfl,hb,hg,hr⟩
 ·exact .inl h2
 ·exact .inr ⟨g,cap,cur,rfl,hb,by rw[hk g hb rfl];exact hg,hr⟩
theorem Own.after {w w':World} {base:Nat} {v:Value} {ps:List PP} (h:Own w base v ps) (hb:Below w.heap.size w w'):Own w' base v ps:=by
 refine h.kept fun g _ hg=>hb.block g ?_
 rcases h.2 with ⟨rfl,_⟩ | ⟨g',cap,cur,rfl,_,hg',_⟩
 ·cases hg
 ·have:=Option.some.inj hg
  subst this
  exact(Array.getElem?_eq_some_iff.1 hg').1
theorem IsL.snoc {qs:List Rat} {ps:List PP} (h:IsL qs ps) {q:Rat} {x y:ByteArray} (hq:IsP q x y):IsL (qs++[q]) (ps++[(x,y)]):=by
 refine⟨by simp[h.1],fun k h1 h2=>?_⟩
 rcases Nat.lt_or_ge k ps.length with hk | hk
 ·have hk':k<qs.length:=by rw[h.1];exact hk
  rw[List.getElem_append_left hk',List.getElem_append_left hk]
  exact h.2 k hk' hk
 ·have e1:k=ps.length:=by simp at h2;omega
  have e2:k=qs.length:=by rw[h.1];exact e1
  rw[List.getElem_append_right (by omega),List.getElem_append_right (by omega)]
  simpa using hq
theorem IsL.nil:IsL [] []:=⟨rfl,fun k h=>by simp at h⟩
abbrev BB:=PP×PP
def BAt (w:World) (b off:Nat) (bs:List BB):Prop:=
 ∀ j (h:j<bs.length),w.cell? ⟨b,off+j*4,none⟩=some (.string bs[j].1.1)∧w.cell? ⟨b,off+j*4+1,none⟩=some (.string bs[j].1.2)∧w.cell? ⟨b,off+j*4+2,none⟩=some (.string bs[j].2.1)∧w.cell? ⟨b,off+j*4+3,none⟩=some (.string bs[j].2.2)
def BL (w:World) (v:Value) (bs:List BB):Prop:=
 ∃ p cap,v=.slice p bs.length cap∧bs.length≤cap∧cap≤maxLen∧(bs≠[]→∃ b off,p=some ⟨b,off,none⟩∧b<w.heap.size∧BAt w b off bs)
theorem BAt.below {B:Nat} {w w':World} {b off:Nat} {bs:List BB} (h:BAt w b off bs) (hb:Below B w w') (hB:b<B):BAt w' b off bs:=
 fun j hj=>⟨(hb.cell (p:=⟨b,off+j*4,none⟩) hB).trans (h j hj).1,(hb.cell (p:=⟨b,off+j*4+1,none⟩) hB).trans (h j hj).2.1,
  (hb.cell (p:=⟨b,off+j*4+2,none⟩) hB).trans (h j hj).2.2.1,(hb.cell (p:=⟨b,off+j*4+3,none⟩) hB).trans (h j hj).2.2.2⟩
theorem BL.after {B:Nat} {w w':World} {v:Value} {bs:List BB} (h:BL w v bs) (hb:Below B w w') (hB:w.heap.size≤B):BL w' v bs:=by
 obtain⟨p,cap,h1,h2,h3,h4⟩:=h
 refine⟨p,cap,h1,h2,h3,fun hne=>?_⟩
 obtain⟨b,off,h5,h6,h7⟩:=h4 hne
 exact⟨b,off,h5,Nat.lt_of_lt_of_le h6 hb.size,h7.below hb (by omega)⟩
theorem BL.nil (w:World):BL w (.slice none 0 0) []:=⟨none,0,rfl,Nat.le_refl _,by simp[maxLen],by simp⟩
theorem BL.len {w:World} {p:Option Addr} {n c:Nat} {bs:List BB} (h:BL w (.slice p n c) bs):bs.length=n∧c≤9223372036854775807∧n≤c:=by
 obtain⟨p',c',hv,h1,h2,_⟩:=h
 injection hv with e1 e2 e3
 subst e1 e3
 unfold maxLen at h2
 omega
def nob:BB:=((⟨#[]⟩,⟨#[]⟩),(⟨#[]⟩,⟨#[]⟩))
def bAt (bs:List BB) (i:Nat):BB:=bs.getD i nob
theorem Zc1 {bs:List BB} {i:Nat} (h:i<bs.length):bAt bs i=bs[i]:=by simp[bAt,List.getD,h]
theorem ZmC {bs:List BB} {i:Nat} (h:i<bs.length):bAt bs i ∈ bs:=by rw[Zc1 h];exact List.getElem_mem h
theorem BL.at {w:World} {p:Option Addr} {n cap:Nat} {bs:List BB} (h:BL w (.slice p n cap) bs) (hn:bs.length=n) (h0:0<n) :
  ∃ b off,p=some ⟨b,off,none⟩∧b<w.heap.size∧∀ W,Below w.heap.size w W→∀ k,k<n→
   W.cell? ⟨b,off+k*4,none⟩=some (.string (bAt bs k).1.1)∧W.cell? ⟨b,off+k*4+1,none⟩=some (.string (bAt bs k).1.2)∧W.cell? ⟨b,off+k*4+2,none⟩=some (.string (bAt bs k).2.1)∧W.cell? ⟨b,off+k*4+3,none⟩=some (.string (bAt bs k).2.2):=by
 obtain⟨p',c',hv,_,_,h4⟩:=h
 injection hv with e1 e2 e3
 subst e1
 obtain⟨b,off,rfl,hb,hat⟩:=h4 (List.ne_nil_of_length_pos (by omega))
 refine⟨b,off,rfl,hb,fun W hW k hk=>?_⟩
 rw[Zc1 (by omega)]
 exact(hat.below hW hb) k (by omega)
abbrev bV (b:BB):Value:=.agg #[.string b.1.1,.string b.1.2,.string b.2.1,.string b.2.2]
abbrev bObj (b:BB):Obj:=.cells #[.string b.1.1,.string b.1.2,.string b.2.1,.string b.2.2] 138
abbrev bO (s t u v:ByteArray):Obj:=.cells #[.string s,.string t,.string u,.string v] 138
def Zk (k:Nat) (p:PP):Bool:=decide (p.1.size≤k) && decide (p.2.size≤k) && okP p.1 p.2
theorem Zae {k:Nat} {p:PP} : Zk k p=true↔p.1.size≤k∧p.2.size≤k∧okP p.1 p.2=true:=by
 unfold Zk
 simp[and_assoc]
def cR (bs:List BB) (i:Nat):Rat:=ratP (bAt bs i).1.1 (bAt bs i).1.2
def hR (bs:List BB) (i:Nat):Rat:=ratP (bAt bs i).2.1 (bAt bs i).2.2
abbrev ZcS:BB:=((⟨#[48]⟩,⟨#[49]⟩),(⟨#[48]⟩,⟨#[49]⟩))
structure CurveP (bs:List BB):Prop where
 len:2≤bs.length∧bs.length≤64
 first:bAt bs 0=ZcS
 small:∀ i,i<bs.length→Zk 18 (bAt bs i).1=true∧Zk 18 (bAt bs i).2=true
 top:∀ i,i<bs.length→hR bs i≤1
 up:∀ i,i+1<bs.length→cR bs i<cR bs (i+1)∧hR bs i≤hR bs (i+1)
 conc:∀ i,i+2<bs.length→slp (cR bs) (hR bs) (i+1)≤slp (cR bs) (hR bs) i
def ZeT (bs:List BB) (n:Int):Prop:=(CurveP bs∧n=0)∨(¬ CurveP bs∧n=2)
theorem Zdk:ratP ⟨#[48]⟩ ⟨#[49]⟩=0:=by decide +kernel
theorem CurveP.conc' {bs:List BB} (h:CurveP bs):Conc bs.length (cR bs) (hR bs) where
 two:=h.len.1
 c0:=by unfold cR;rw[h.first];exact Zdk
 h0:=by unfold hR;rw[h.first];exact Zdk
 top:=h.top
 up:=h.up
 conc:=h.conc
theorem CurveP.isC {bs:List BB} (h:CurveP bs) {i:Nat} (hi:i<bs.length):IsP (cR bs i) (bAt bs i).1.1 (bAt bs i).1.2∧Sz 18 (cR bs i):=by
 obtain⟨h1,h2,h3⟩:=Zae.1 (h.small i hi).1
 have:=Zax h3
 exact⟨this,this.sz h1 h2⟩
theorem CurveP.isH {bs:List BB} (h:CurveP bs) {i:Nat} (hi:i<bs.length):IsP (hR bs i) (bAt bs i).2.1 (bAt bs i).2.2∧Sz 18 (hR bs i):=by
 obtain⟨h1,h2,h3⟩:=Zae.1 (h.small i hi).2
 have:=Zax h3
 exact⟨this,this.sz h1 h2⟩
end Go.Proofs.YtmpaflidennnoaaGreatDoor
