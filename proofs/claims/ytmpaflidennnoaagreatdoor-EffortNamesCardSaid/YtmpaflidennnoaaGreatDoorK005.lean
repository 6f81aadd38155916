/- The parts ESolve1, ESolveX of a proof, put together by program (merge7.py). -/
import Derived.Test.YtmpaflidennnoaaGreatDoorH01
import Derived.Test.YtmpaflidennnoaaGreatDoorK003
import Derived.Test.YtmpaflidennnoaaGreatDoorK004
import Derived.Test.YtmpaflidennnoaaGreatDoorH30
import Derived.Deep.CutBlock
set_option maxRecDepth 100000
set_option maxHeartbeats 8000000
set_option linter.unusedVariables false
set_option linter.unusedSimpArgs false
namespace Go.Proofs.YtmpaflidennnoaaGreatDoor
open Go.RowKit Go.Shelf
attribute [local go_sem ↓] Go.wp_at_zero Go.wp_at_succ
abbrev soO (pv:Value) (x y:ByteArray) (qv:Value) (u v s z:ByteArray):Obj:=.cells #[pv,.string x,.string y,qv,.string u,.string v,.string s,.string z] 79
abbrev soZ:Obj:=soO (.slice none 0 0) ⟨#[]⟩ ⟨#[]⟩ (.slice none 0 0) ⟨#[]⟩ ⟨#[]⟩ ⟨#[]⟩ ⟨#[]⟩
noncomputable def bndR (t:TaskP) (qs:List PP):Rat:=sumF (Zj t qs) (t.hours.length+t.sites.length)
def Zdq (t:TaskP) (q:List (List Int)) (qs:List PP):Prop:=ZT (Zj t qs) (t.hours.length+t.sites.length)∧Fits (bndR t qs-valR t q)
def Zgd (t:TaskP) (R:Nat) (q:List (List Int)) (qs:List PP):Prop:=∃ p k,GreedyR t (Zu t) p∧ImproveR t R p q k∧PlanOk t q∧Za5 t q qs
def Zds (t:TaskP) (R b m Gs B:Nat) (pv:Value) (gq gc:Nat→Nat) (n:Int) (V:World):Prop:=
 ∃ q qs,Zgd t R q qs∧((Zdq t q qs∧n=0∧∃ x y qv u v s z,PlanO q t.sites.length m b pv gq gc V∧Own V B qv qs∧IsP (valR t q) x y∧IsP (bndR t qs) u v∧IsP (bndR t qs-valR t q) s z∧V.heap[Gs]?=some (soO pv x y qv u v s z))∨
  (¬ Zdq t q qs∧n=4∧V.heap[Gs]?=some soZ))
theorem ZdN {w:World} {g:Nat} {p q p' q':Value} {x y u v s z x' y' u' v' s' z':ByteArray} (h:w.heap[g]?=some (soO p x y q u v s z)):∃ V,((((((((w.setCell ⟨g,0,none⟩ p').setCell ⟨g,1,none⟩ (.string x')).setCell ⟨g,2,none⟩ (.string y')).setCell ⟨g,3,none⟩ q').setCell ⟨g,4,none⟩ (.string u')).setCell ⟨g,5,none⟩ (.string v')).setCell ⟨g,6,none⟩ (.string s')).setCell ⟨g,7,none⟩ (.string z'))=V∧
  V.heap[g]?=some (soO p' x' y' q' u' v' s' z')∧Keeps (fun b=>b≠g) w V:=by
 have h0:(w.setCell ⟨g,0,none⟩ p').heap[g]?=some (soO p' x y q u v s z):=Joins.block_setCell h _
 have k0:Keeps (fun b=>b≠g) w (w.setCell ⟨g,0,none⟩ p'):=(Keeps.refl _ w).setCell (p:=⟨g,0,none⟩) (by simp) _
 obtain⟨w0,e0⟩:∃ z,w.setCell ⟨g,0,none⟩ p'=z:=⟨_,rfl⟩
 rw[e0] at h0 k0 ⊢
 have h1:(w0.setCell ⟨g,1,none⟩ (.string x')).heap[g]?=some (soO p' x' y q u v s z):=Joins.block_setCell h0 _
 have k1:Keeps (fun b=>b≠g) w (w0.setCell ⟨g,1,none⟩ (.string x')):=(k0).setCell (p:=⟨g,1,none⟩) (by simp) _
 obtain⟨w1,e1⟩:∃ z,w0.setCell ⟨g,1,none⟩ (.string x')=z:=⟨_,rfl⟩
 rw[e1] at h1 k1 ⊢
 have h2:(w1.setCell ⟨g,2,none⟩ (.string y')).heap[g]?=some (soO p' x' y' q u v s z):=Joins.block_setCell h1 _
 have k2:Keeps (fun b=>b≠g) w (w1.setCell ⟨g,2,none⟩ (.string y')):=(k1).setCell (p:=⟨g,2,none⟩) (by simp) _
 obtain⟨w2,e2⟩:∃ z,w1.setCell ⟨g,2,none⟩ (.string y')=z:=⟨_,rfl⟩
 rw[e2] at h2 k2 ⊢
 have h3:(w2.setCell ⟨g,3,none⟩ q').heap[g]?=some (soO p' x' y' q' u v s z):=Joins.block_setCell h2 _
 have k3:Keeps (fun b=>b≠g) w (w2.setCell ⟨g,3,none⟩ q'):=(k2).setCell (p:=⟨g,3,none⟩) (by simp) _
 obtain⟨w3,e3⟩:∃ z,w2.setCell ⟨g,3,none⟩ q'=z:=⟨_,rfl⟩
 rw[e3] at h3 k3 ⊢
 have h4:(w3.setCell ⟨g,4,none⟩ (.string u')).heap[g]?=some (soO p' x' y' q' u' v s z):=Joins.block_setCell h3 _
 have k4:Keeps (fun b=>b≠g) w (w3.setCell ⟨g,4,none⟩ (.string u')):=(k3).setCell (p:=⟨g,4,none⟩) (by simp) _
 obtain⟨w4,e4⟩:∃ z,w3.setCell ⟨g,4,none⟩ (.string u')=z:=⟨_,rfl⟩
 rw[e4] at h4 k4 ⊢
 have h5:(w4.setCell ⟨g,5,none⟩ (.string v')).heap[g]?=some (soO p' x' y' q' u' v' s z):=Joins.block_setCell h4 _
 have k5:Keeps (fun b=>b≠g) w (w4.setCell ⟨g,5,none⟩ (.string v')):=(k4).setCell (p:=⟨g,5,none⟩) (by simp) _
 obtain⟨w5,e5⟩:∃ z,w4.setCell ⟨g,5,none⟩ (.string v')=z:=⟨_,rfl⟩
 rw[e5] at h5 k5 ⊢
 have h6:(w5.setCell ⟨g,6,none⟩ (.string s')).heap[g]?=some (soO p' x' y' q' u' v' s' z):=Joins.block_setCell h5 _
 have k6:Keeps (fun b=>b≠g) w (w5.setCell ⟨g,6,none⟩ (.string s')):=(k5).setCell (p:=⟨g,6,none⟩) (by simp) _
 obtain⟨w6,e6⟩:∃ z,w5.setCell ⟨g,6,none⟩ (.string s')=z:=⟨_,rfl⟩
 rw[e6] at h6 k6 ⊢
 have h7:(w6.setCell ⟨g,7,none⟩ (.string z')).heap[g]?=some (soO p' x' y' q' u' v' s' z'):=Joins.block_setCell h6 _
 have k7:Keeps (fun b=>b≠g) w (w6.setCell ⟨g,7,none⟩ (.string z')):=(k6).setCell (p:=⟨g,7,none⟩) (by simp) _
 obtain⟨w7,e7⟩:∃ z,w6.setCell ⟨g,7,none⟩ (.string z')=z:=⟨_,rfl⟩
 rw[e7] at h7 k7 ⊢
 exact⟨_,rfl,h7,k7⟩
def SolS (t:TaskP) (q:List (List Int)) (b m T n:Nat) (pv:Value) (gq gc:Nat→Nat) (w W:World) (j:Option (Option (Value×List PP))) (g:Option Nat) (V:World):Prop:=
 (PlanO q t.sites.length m b pv gq gc V∧Keeps (NotG m T gq) w V∧W.heap.size≤V.heap.size)∧(j=none→Memo V m t n)∧(∀ k,g=some k→V.heap[k]?=some soZ∧W.heap.size≤k)∧(∀ v qs,j=some (some (v,qs))→Own V W.heap.size v qs∧∀ k,g=some k→v.ownBlock≠some k)
section
variable {t:TaskP} {q:List (List Int)} {b m T n:Nat} {pv:Value} {gq gc:Nat→Nat} {w W V V':World}
theorem SolS.push {j:Option (Option (Value×List PP))} (h:SolS t q b m T n pv gq gc w W j none V):SolS t q b m T n pv gq gc w W j (some V.heap.size) (V.alloc soZ):=by
 obtain⟨⟨h1,h2,h3⟩,h4,_,h6⟩:=h
 have hb:Below V.heap.size V (V.alloc soZ):=(Below.refl _ V).alloc (Nat.le_refl _) _
 refine⟨⟨h1.keep (hb.keepsS _),h2.trans (hb.keepsS _),Nat.le_trans h3 hb.size⟩,fun e=>(h4 e).step hb,fun k e=>?_,fun v qs e=>⟨((h6 v qs e).1).alloc _,fun k e2 e3=>?_⟩⟩
 ·obtain rfl:=Option.some.inj e
  exact⟨World.alloc_heap_new V _,h3⟩
 ·obtain rfl:=Option.some.inj e2
  have:=(World.ownsRow.lt (h6 v qs e).1 _ e3).2
  omega
theorem SolS.value {g:Option Nat} (hm:m<W.heap.size) (h:SolS t q b m T n pv gq gc w W none g V) (hk:Keeps (NotM m) V V'):SolS t q b m T n pv gq gc w W (some none) g V':=by
 obtain⟨⟨h1,h2,h3⟩,_,h5,_⟩:=h
 exact⟨⟨h1.keep hk,h2.trans (hk.mono fun x _ h=>h.1),Nat.le_trans h3 hk.size⟩,fun e=>(by cases e),fun k e=>⟨hk.at (h5 k e).1 (by have:=(h5 k e).2;show k≠m;omega),(h5 k e).2⟩,fun v qs e=>(by cases e)⟩
theorem SolS.prices {g:Option Nat} {v:Value} {qs:List PP} (h:SolS t q b m T n pv gq gc w W (some none) g V) (hO:Own V' V.heap.size v qs) (hb:Below V.heap.size V V'):SolS t q b m T n pv gq gc w W (some (some (v,qs))) g V':=by
 obtain⟨⟨h1,h2,h3⟩,_,h5,_⟩:=h
 refine⟨⟨h1.keep (hb.keepsS _),h2.trans (hb.keepsS _),Nat.le_trans h3 hb.size⟩,fun e=>(by cases e),fun k e=>⟨(hb.keepsS (fun _=>True)).at (h5 k e).1 trivial,(h5 k e).2⟩,fun v' qs' e=>?_⟩
 obtain⟨rfl,rfl⟩:=Prod.mk.inj (Option.some.inj (Option.some.inj e))
 refine⟨hO.mono h3,fun k e2 e3=>?_⟩
 have h7:=(World.ownsRow.lt hO _ e3).1
 have h8:=(Array.getElem?_eq_some_iff.1 (h5 k e2).1).1
 omega
theorem SolS.done {G:Nat} {v:Value} {qs:List PP} (hpv:∀ x,pv.ownBlock=some x→m<x∧x<w.heap.size) (hqT:q.length=T) (hgq:∀ u,u<T→gq u<w.heap.size) (hmW:m<W.heap.size) (hwW:w.heap.size≤W.heap.size) (h:SolS t q b m T n pv gq gc w W (some (some (v,qs))) (some G) V) (hk:Keeps (fun x=>x≠G) V V') :
  (m<G∧W.heap.size≤G)∧∀ Z,Keeps (fun x=>x≠G) V' Z→PlanO q t.sites.length m b pv gq gc Z∧Own Z W.heap.size v qs∧Keeps (NotG m T gq) w Z∧Z.heap.size≥V.heap.size:=by
 obtain⟨⟨h1,h2,h3⟩,_,h5,h6⟩:=h
 have hG:=(h5 G rfl).2
 refine⟨⟨by omega,hG⟩,fun Z hz=>?_⟩
 have hZ:=hk.trans hz
 refine⟨?_,(h6 v qs rfl).1.kept fun x _ hx=>hZ.block x (World.ownsRow.lt (h6 v qs rfl).1 x hx).2 (fun e=>(h6 v qs rfl).2 G rfl (by rw[hx,e])),h2.via hZ fun x hx _=>by show x≠G;omega,hZ.size⟩
 refine⟨ZJ h1.outer fun x hx=>hZ.block x (World.ownsRow.lt h1.outer x hx).2 (fun e=>?_),fun u hu=>ZJ (h1.row u hu) fun x hx=>hZ.block x (World.ownsRow.lt (h1.row u hu) x hx).2 (fun e=>?_),h1.inj,h1.out⟩
 ·have:=(hpv x hx).2
  omega
 ·have hx':gq u=x:=by simpa[Value.ownBlock] using hx
  have:=hgq u (by rw[← hqT];exact hu)
  omega
end
theorem WorkW.tabs {t:TaskP} {b m:Nat} {sv hv rv pv:Value} {w:World} (h:WorkW t b m sv hv rv pv w) (ok:TaskOk t):Tabs w:=by
 obtain⟨_,_,_,_,_,_,_,_,_,_,_,_,_,_,_,_,hA⟩:=h.open ok
 exact(hA w (Keeps.refl _ _)).at'.tabs
theorem Zmz {a b:Rat} {s t u v:ByteArray} (ha:IsP a s t) (hb:IsP b u v) (hle:b≤a) (w:World) (hT:Tabs w) :
  Calls Tryz.prog 104 #[pV s t,pV u v] w (Zx (Ans (a-b)) w):=by
 refine(ZjF s t u v w ha.le.1 ha.le.2 hb.le.1 hb.le.2 hT).mono ?_
 rintro e w' ⟨x',y',n,rfl,h,hbb⟩
 rcases h with ⟨h,_⟩ | ⟨_,h⟩
 ·rw[ha.oks hb] at h;cases h
 ·rw[ha.rat,hb.rat] at h
  rcases h with ⟨h,_⟩ | ⟨_,h⟩
  ·grind
  ·exact⟨x',y',n,rfl,h,hbb⟩
theorem ZmH {w:World} {g:Nat} {p q:Value} {x y u v s z u' v':ByteArray} (h:w.heap[g]?=some (soO p x y q u v s z)):∃ V,(w.setCell ⟨g,4,none⟩ (.string u')).setCell ⟨g,5,none⟩ (.string v')=V∧V.heap[g]?=some (soO p x y q u' v' s z)∧Keeps (fun b=>b≠g) w V:=by
 have h0:(w.setCell ⟨g,4,none⟩ (.string u')).heap[g]?=some (soO p x y q u' v s z):=Joins.block_setCell h _
 exact⟨_,rfl,Joins.block_setCell h0 _,((Keeps.refl _ w).setCell (p:=⟨g,4,none⟩) (by simp) _).setCell (p:=⟨g,5,none⟩) (by simp) _⟩
theorem ZmB {w:World} {g:Nat} {p q:Value} {x y u v s z u' v':ByteArray} (h:w.heap[g]?=some (soO p x y q u v s z)):∃ V,(w.setCell ⟨g,6,none⟩ (.string u')).setCell ⟨g,7,none⟩ (.string v')=V∧V.heap[g]?=some (soO p x y q u v u' v')∧Keeps (fun b=>b≠g) w V:=by
 have h0:(w.setCell ⟨g,6,none⟩ (.string u')).heap[g]?=some (soO p x y q u v u' z):=Joins.block_setCell h _
 exact⟨_,rfl,Joins.block_setCell h0 _,((Keeps.refl _ w).setCell (p:=⟨g,6,none⟩) (by simp) _).setCell (p:=⟨g,7,none⟩) (by simp) _⟩
theorem Zkg {t:TaskP} {b m T R Gw Gr Gs:Nat} {sv hv rv pv:Value} {gq gc:Nat→Nat} {w:World} (hW:WorkW t b m sv hv rv pv w) (hP:PlanO (Zu t) t.sites.length m b pv gq gc w) (hm:Memo w m t 0) (ok:TaskOk t) (hT:t.hours.length=T) (hR:R≤64)
  (hfit:∀ q,PlanOk t q→ZT (valF t q) t.sites.length) (h1:w.heap[Gw]?=some (wkO b)) (h2:w.heap[Gr]?=some (inO R)) (h3:w.heap[Gs]?=some soZ)
  (hne:(Gw≠m∧Gr≠m∧Gs≠m)∧∀ u,u<T→gq u≠Gw∧gq u≠Gr∧gq u≠Gs) (hGs:Gs<m) :
  Calls Tryz.prog 102 #[.pointer (some ⟨Gw,0,none⟩),.pointer (some ⟨Gr,0,none⟩),.pointer (some ⟨Gs,0,none⟩)] w (Zed (Zds t R b m Gs w.heap.size pv gq gc) (fun x=>NotG m T gq x∧x≠Gs) w):=by
 have hz:=ZdJ ok
 have hzl:(Zu t).length=T:=by rw[hz.teams,hT]
 obtain⟨pp,pn,pcc,rfl⟩:∃ a b c,pv=Value.slice a b c:=by
  obtain⟨pb,pc,h,_⟩:=hP.toW hz.len8.1
  exact⟨_,_,_,h⟩
 have hgm:∀ u,u<T→m<gq u∧gq u<w.heap.size∧gq u≠b:=fun u hu=>⟨(hP.gt (by rw[hzl];exact hu)).1,(hP.gt (by rw[hzl];exact hu)).2,(hP.out.2 u (by rw[hzl];exact hu)).1⟩
 have HGM:=Lib.hid (And.intro hgm hne)
 have HPO:Hid (∀ x,(Value.slice pp pn pcc).ownBlock=some x→m<x∧x<w.heap.size):=fun x hx=>World.ownsRow.lt hP.outer x hx
 have HOK:=Lib.hid (And.intro ok hfit)
 have HTT:=Lib.hid hT
 have hbm:=hW.ne
 have HI:Hid (WorkW t b m sv hv rv (.slice pp pn pcc) w∧w.heap[Gw]?=some (wkO b)∧w.heap[Gr]?=some (inO R)∧w.heap[Gs]?=some soZ):=⟨hW,h1,h2,h3⟩
 have HST:Hid (∀ V,Keeps (NotG m T gq) w V→WorkW t b m sv hv rv (.slice pp pn pcc) V∧V.heap[Gw]?=some (wkO b)∧V.heap[Gr]?=some (inO R)∧V.heap[Gs]?=some soZ):=fun V hk=>
  ⟨HI.out.1.keepS hk (fun x hx=>⟨by omega,fun u hu e=>by have:=(hgm u hu).1;omega⟩) ⟨hbm,fun u hu e=>(hgm u hu).2.2 e.symm⟩,hk.at h1 ⟨hne.1.1,fun u hu e=>(hne.2 u hu).1 e.symm⟩,hk.at h2 ⟨hne.1.2.1,fun u hu e=>(hne.2 u hu).2.1 e.symm⟩,hk.at h3 ⟨hne.1.2.2,fun u hu e=>(hne.2 u hu).2.2 e.symm⟩⟩
 have HC:=Lib.hid (ZeU hW hP hm hz)
 have a0:=Za h1 0 (v:=.pointer (some ⟨b,0,none⟩)) rfl
 clear hW hP hm ok hT hfit h1 h2 h3 hne hgm hz HI
 go_enter Tryz.func102,Tryz.ntmps102
 go_wp2_with fail
 refine HC.out.mono ?_
 rintro e w1 ⟨⟨rfl,⟨p,hG,hok,hP⟩,hk⟩,n0,hn0,hM⟩
 rw[hzl] at hk
 have HG:=Lib.hid (And.intro hG hok)
 have HI1:Hid (PlanO p t.sites.length m b (.slice pp pn pcc) gq gc w1∧Memo w1 m t n0∧Keeps (NotG m T gq) w w1):=⟨hP,hM,hk⟩
 clear hG hok hP hM hk HC a0
 go_upto_block 0 with fail
 go_cut [3] from 7 (fun s3 wc=>∃ (q:List (List Int)) (k n:Nat) (i:Nat),s3=.int .i64 i∧Hid (ImproveR t R p q k∧PlanOk t q∧n≤20000000)∧Hid (PlanO q t.sites.length m b (.slice pp pn pcc) gq gc wc∧Memo wc m t n∧Keeps (NotG m T gq) w wc))
 case first=>
  go_wp2_with fail
  go_loopw [3] (fun iv wr=>∃ (pl:List (List Int)) (k:Nat),iv=.int .i64 k∧Hid (k≤R∧PlanOk t pl∧∀ n q r,ImproveR t n pl q r→ImproveR t (n+k) p q (r+k))∧Hid (PlanO pl t.sites.length m b (.slice pp pn pcc) gq gc wr∧Memo wr m t (n0+200000*k)∧Keeps (NotG m T gq) w wr)) (fun iv _=>R-(intOf iv).toNat)
  case atStart=>exact⟨p,0,rfl,⟨Nat.zero_le _,HG.out.2,fun n q r h=>h⟩,HI1⟩
  case round=>
   clear HI1
   obtain⟨pl,k,rfl,HR,HI⟩:=hrel
   obtain⟨j1,j2,j3⟩:=HR.out
   obtain⟨i1,i2,i3⟩:=HI.out
   obtain⟨s1,s2,s3,s4⟩:=HST.out _ i3
   have a1:=Za s3 0 (v:=.int .i64 R) rfl
   have a2:=Za s2 0 (v:=.pointer (some ⟨b,0,none⟩)) rfl
   have hcall:=Zjl s1 i1 i2 (by omega) j2 (T:=T) (by rw[j2.teams,HTT.out]) HOK.out.2
   have HC:=Lib.hid hcall
   by_cases hlt:k<R
   ·clear i1 i2 i3 j2 j3 s1 s2 s3 s4 hcall
    go_wp2_with fail
    refine HC.out.mono ?_
    rintro e w2 ⟨r,rfl,hM,hP2,hm2,hk⟩
    have HM:=Lib.hid hM
    have HI2:Hid (PlanO (r.getD pl) t.sites.length m b (.slice pp pn pcc) gq gc w2∧Memo w2 m t (n0+200000*(k+1))∧Keeps (NotG m T gq) w w2):=⟨hP2,hm2.mono (by omega),HI.out.2.2.trans hk⟩
    clear hM hP2 hm2 hk a1 a2 HC
    cases r with
    | none=>
     have HQ:Hid (ImproveR t R p pl k∧PlanOk t pl∧n0+200000*(k+1)≤20000000):=by
      have hR:=HR.out.2.2 (R-k) pl 0 (by
       rw[show R-k=(R-k-1)+1 by omega]
       exact .rest HM.out)
      rw[show R-k+k=R by omega,Nat.zero_add] at hR
      exact⟨hR,HR.out.2.1,by omega⟩
     go_wp2
     go_meet
     case rel=>exact⟨pl,k,_,k,by first | rfl | trivial,HQ,HI2⟩
    | some q=>
     obtain⟨y1,_,_⟩:=HM.out.plan HR.out.2.1
     have HNX:Hid (k+1≤R∧PlanOk t q∧∀ n q' r,ImproveR t n q q' r→ImproveR t (n+(k+1)) p q' (r+(k+1))):=
      ⟨by omega,y1,fun n q' r h=>by
       have:=HR.out.2.2 _ _ _ (.more HM.out h)
       rw[show n+(k+1)=n+1+k by omega,show r+(k+1)=r+1+k by omega]
       exact this⟩
     clear y1
     go_wp2
     go_roundw
     case rel=>exact⟨q,k+1,by go_num,HNX,HI2⟩
     case measure=>simp[intOf];omega
   ·obtain rfl:k=R:=by omega
    have HQ:Hid (ImproveR t k p pl k∧PlanOk t pl∧n0+200000*k≤20000000):=by
     have hR:=j3 0 pl 0 (.stop pl)
     rw[Nat.zero_add] at hR
     exact⟨hR,j2,by omega⟩
    clear i1 i2 i3 j2 j3 s1 s2 s3 s4 hcall
    go_wp2
    go_meet
    case rel=>exact⟨pl,k,_,k,by first | rfl | trivial,HQ,HI⟩
 case rest=>
  obtain⟨q,k,n,i,rfl,HQ,HI⟩:=hcut
  clear HI1
  have hmW:m<wc.heap.size:=HI.out.2.1.lt
  have hwW:w.heap.size≤wc.heap.size:=HI.out.2.2.size
  have HS0:Hid (SolS t q b m T n (.slice pp pn pcc) gq gc w wc none none wc.drew):=by
   have hb:Below wc.heap.size wc wc.drew:=(Below.refl _ wc).drew
   exact⟨⟨HI.out.1.keep (hb.keepsS _),HI.out.2.2.trans (hb.keepsS _),hb.size⟩,fun _=>HI.out.2.1.step hb,fun k e=>(by cases e),fun v qs e=>(by cases e)⟩
  have hn:=HQ.out.2.2
  go_wp2_with fail
  refine Zbm 9 4 [(0,10)] [(1,0),(1,1),(1,2),(1,3),(1,4),(1,6),(0,5),(0,7),(1,8)] (SolS t q b m T n (.slice pp pn pcc) gq gc w wc) none (fun i=>i==10)
   (by kernel_rfl) (by kernel_rfl) (fun j hj=>by have h:11≤j:=hj;simp;omega) (fun _ _ o _ _ h=>by cases o<;>exact h) rfl rfl (fun _=>rfl) (fun a V K hK=>by go_simp;exact hK) (fun j V h=>h.push) HS0.out ?_
  clear HS0
  iterate 6
   refine ZI _ rfl (fun z=>rfl) (fun z j g w' hS=>by obtain⟨k1,k2,_⟩:=HST.out _ hS.1.2.1;have e0:=Za k2 0 (v:=.pointer (some ⟨b,0,none⟩)) rfl;have e3:=Za k1.blk 3 (v:=.slice pp pn pcc) rfl;simp only[Act.put,List.setIfInBounds_toArray,List.set_cons_zero,List.set_cons_succ];go_simp;first | rfl | (rw[if_pos (by omega)])) ?_
   simp only[Znc,Znd,Zne,Act.put,Znf,Zng,Znh]
  refine Zai 60 _ rfl (fun z=>rfl) (fun z w'=>by simp only[Act.put,List.setIfInBounds_toArray,List.set_cons_zero,List.set_cons_succ];go_simp;rfl) (fun g V hS=>?_)
  refine(Zd1 (HST.out _ hS.1.2.1).1 hS.1.1 (hS.2.1 rfl) (by omega) HQ.out.2.1 (HOK.out.2 _ HQ.out.2.1)).mono ?_
  rintro e V' ⟨x,y,rfl,hx,hk,_⟩
  have HX:=Lib.hid hx
  refine .inl ⟨_,some none,rfl,hS.value hmW hk,?_⟩
  clear hk hS hx
  simp only[Znc,Znd,Zne,Act.put,Znf,Zng,Znh]
  refine Zai 83 _ rfl (fun z=>rfl) (fun z w'=>by simp only[Act.put,List.setIfInBounds_toArray,List.set_cons_zero,List.set_cons_succ];go_simp;rfl) (fun g V hS=>?_)
  obtain⟨pb,pc,hpv9,hPW⟩:=hS.1.1.toW HQ.out.2.1.len8.1
  refine(Zfx (HST.out _ hS.1.2.1).1 hPW HOK.out.1 HQ.out.2.1.inn).mono ?_
  rintro e V' ⟨qv,qs,rfl,hpr,hO,hb⟩
  have HPR:=Lib.hid hpr
  obtain⟨qp,qn,qc,rfl⟩:∃ a b c,qv=Value.slice a b c:=by
   obtain⟨p,c,h,_⟩:=hO.pl
   exact⟨_,_,_,h⟩
  refine .inl ⟨_,some (some (_,qs)),rfl,hS.prices hO hb,?_⟩
  clear hb hS hpr hO hPW hpv9
  simp only[Znc,Znd,Zne,Act.put,Znf,Zng,Znh]
  iterate 1
   refine ZI _ rfl (fun z=>rfl) (fun z j g w' hS=>by skip;simp only[Act.put,List.setIfInBounds_toArray,List.set_cons_zero,List.set_cons_succ];go_simp;first | rfl | (rw[if_pos (by omega)])) ?_
   simp only[Znc,Znd,Zne,Act.put,Znf,Zng,Znh]
  refine ZaF fun G V hS=>?_
  have hb8:=(hS.2.2.1 G rfl).1
  obtain⟨w4,hw4,hG4,hk4⟩:=ZdN (p':=.slice pp pn pcc) (q':=.slice qp qn qc) (x':=x) (y':=y) (u':=⟨#[]⟩) (v':=⟨#[]⟩) (s':=⟨#[]⟩) (z':=⟨#[]⟩) hb8
  have HL:=Lib.hid (hS.done HPO.out (by rw[HQ.out.2.1.teams,HTT.out]) (fun u hu=>(HGM.out.1 u hu).2.1) hmW hwW hk4)
  have HG4:=Lib.hid hG4
  have r0:=Za hb8 0 (v:=.slice none 0 0) rfl
  have r1:=Za hb8 1 (v:=.string ⟨#[]⟩) rfl
  have r2:=Za hb8 2 (v:=.string ⟨#[]⟩) rfl
  have r3:=Za hb8 3 (v:=.slice none 0 0) rfl
  have r4:=Za hb8 4 (v:=.string ⟨#[]⟩) rfl
  have r5:=Za hb8 5 (v:=.string ⟨#[]⟩) rfl
  have r6:=Za hb8 6 (v:=.string ⟨#[]⟩) rfl
  have r7:=Za hb8 7 (v:=.string ⟨#[]⟩) rfl
  have f0:=Zb hb8 0
  have f1:=Zb hb8 1
  have f2:=Zb hb8 2
  have f3:=Zb hb8 3
  have f4:=Zb hb8 4
  have f5:=Zb hb8 5
  have f6:=Zb hb8 6
  have f7:=Zb hb8 7
  simp only[Znc,Znd,Zne,Act.put,Znf,Zng,Znh]
  refine Zn rfl rfl fun K hK=>?_
  go_simp
  try rw[hw4]
  refine hK _ _ (.inl rfl) ?_
  clear hK K r0 r1 r2 r3 r4 r5 r6 r7 f0 f1 f2 f3 f4 f5 f6 f7 hS hb8 hG4 hw4 hk4
  refine Zq ?_
  obtain⟨l1,l2,l3,l4⟩:=HL.out.2 _ (Keeps.refl _ _)
  have HGm:=Lib.hid HL.out.1
  have a0:=Za (HST.out _ l3).2.1 0 (v:=.pointer (some ⟨b,0,none⟩)) rfl
  have c3:=Za HG4.out 3 (v:=.slice qp qn qc) rfl
  have HWB:=Lib.hid (Zgl (HST.out _ l3).1 HOK.out.1 l2.pl (HPR.out.ok HOK.out.1))
  clear l1 l2 l3 l4
  go_wp2_with fail
  refine HWB.out.mono ?_
  rintro e w5 ⟨u,v,n5,hE,hS5,hb⟩
  have HS5:=Lib.hid hS5
  have HK5:Hid (Keeps (fun x=>x≠G) w4 w5):=hb.keepsS _
  have HG5:Hid (w5.heap[G]?=some (soO (.slice pp pn pcc) x y (.slice qp qn qc) ⟨#[]⟩ ⟨#[]⟩ ⟨#[]⟩ ⟨#[]⟩)):=(hb.keepsS (fun _=>True)).at HG4.out trivial
  have HSR:Hid (Zgd t R q qs):=⟨p,k,HG.out.1,HQ.out.1,HQ.out.2.1,HPR.out⟩
  clear a0 c3 HWB hb hS5 HG4
  rcases hE with ⟨rfl,rfl⟩ | ⟨hn5,rfl⟩
  rotate_left
  ·obtain⟨hn4,hnf⟩:n5=4∧¬ ZT (Zj t qs) (t.hours.length+t.sites.length):=by
    rcases HS5.out with ⟨_,_,h⟩ | ⟨h,_,_,h4⟩
    ·exact absurd h hn5
    ·exact⟨h4,h⟩
   have HKF:=Lib.hid (HL.out.2 _ HK5.out).2.2.1
   have HFQ:Hid (Zds t R b m Gs w.heap.size (.slice pp pn pcc) gq gc n5 w5):=⟨q,qs,HSR.out,.inr ⟨fun hf=>hnf hf.1,hn4,(HST.out _ HKF.out).2.2.2⟩⟩
   have HN5:=Lib.hid hn5
   clear hn5 hn4 hnf
   unfold Zcp
   go_wp2
   exact⟨rfl,n5,.inr ⟨HN5.out,rfl⟩,HFQ.out,HKF.out.mono fun x _ h=>h.1⟩
  obtain⟨hfit5,hbd⟩:ZT (Zj t qs) (t.hours.length+t.sites.length)∧IsP (bndR t qs) u v:=by
   rcases HS5.out with ⟨h1,h2,_⟩ | ⟨_,_,_,h⟩
   ·exact⟨h1,h2⟩
   ·cases h
  have HB5:=Lib.hid (And.intro hfit5 hbd)
  obtain⟨w6,hw6,hG6,hk6⟩:=ZmH (u':=u) (v':=v) HG5.out
  have HG6:=Lib.hid hG6
  have HK6:Hid (Keeps (fun x=>x≠G) w4 w6):=HK5.out.trans hk6
  have r4:=Za HG5.out 4 (v:=.string ⟨#[]⟩) rfl
  have r5:=Za HG5.out 5 (v:=.string ⟨#[]⟩) rfl
  have f4:=Zb HG5.out 4
  have f5:=Zb HG5.out 5
  clear hfit5 hbd HS5 hG6 hk6
  go_upto_region 6 with (fail)
  try rw[hw6]
  clear hw6 r4 r5 f4 f5 HG5 HK5
  have r1:=Za HG6.out 1 (v:=.string x) rfl
  have r2:=Za HG6.out 2 (v:=.string y) rfl
  have r4:=Za HG6.out 4 (v:=.string u) rfl
  have r5:=Za HG6.out 5 (v:=.string v) rfl
  go_wp2_with fail
  refine(Zmz HB5.out.2 HX.out (ZdS HQ.out.2.1 (HPR.out.ok HOK.out.1)) _ ((HST.out _ (HL.out.2 _ HK6.out).2.2.1).1.tabs HOK.out.1)).mono ?_
  rintro e w7 ⟨c,d,n7,rfl,hA7,hb⟩
  have HK7:Hid (Keeps (fun x=>x≠G) w4 w7):=HK6.out.trans (hb.keepsS _)
  have HG7:Hid (w7.heap[G]?=some (soO (.slice pp pn pcc) x y (.slice qp qn qc) u v ⟨#[]⟩ ⟨#[]⟩)):=(hb.keepsS (fun _=>True)).at HG6.out trivial
  have HA7:=Lib.hid hA7
  clear hA7 hb r1 r2 r4 r5 HG6 HK6
  go_wp2_with fail
  refine(ZcV c d n7 _).mono ?_
  rintro e w8 ⟨hE8,hb⟩
  have HK8:Hid (Keeps (fun x=>x≠G) w4 w8):=HK7.out.trans (hb.keepsS _)
  have HG8:Hid (w8.heap[G]?=some (soO (.slice pp pn pcc) x y (.slice qp qn qc) u v ⟨#[]⟩ ⟨#[]⟩)):=(hb.keepsS (fun _=>True)).at HG7.out trivial
  clear hb HG7 HK7
  rcases hE8 with ⟨rfl,rfl⟩ | ⟨hn7,rfl⟩
  rotate_left
  ·obtain⟨hn4,hnf⟩:n7=4∧¬ Fits (bndR t qs-valR t q):=by
    rcases HA7.out with ⟨_,h⟩ | ⟨h,_,_,h4⟩
    ·exact absurd h hn7
    ·exact⟨h4,h⟩
   have HKF:=Lib.hid (HL.out.2 _ HK8.out).2.2.1
   have HFQ:Hid (Zds t R b m Gs w.heap.size (.slice pp pn pcc) gq gc n7 w8):=⟨q,qs,HSR.out,.inr ⟨fun hf=>hnf hf.2,hn4,(HST.out _ HKF.out).2.2.2⟩⟩
   have HN7:=Lib.hid hn7
   clear hn7 hn4 hnf
   unfold Zcp
   go_wp2
   exact⟨rfl,n7,.inr ⟨HN7.out,rfl⟩,HFQ.out,HKF.out.mono fun x _ h=>h.1⟩
  obtain hgp:IsP (bndR t qs-valR t q) c d:=by
   rcases HA7.out with ⟨h,_⟩ | ⟨_,_,_,h4⟩
   ·exact h
   ·cases h4
  have HGP:=Lib.hid hgp
  obtain⟨w9,hw9,hG9,hk9⟩:=ZmB (u':=c) (v':=d) HG8.out
  have HG9:=Lib.hid hG9
  have HK9:Hid (Keeps (fun x=>x≠G) w4 w9):=HK8.out.trans hk9
  have r6:=Za HG8.out 6 (v:=.string ⟨#[]⟩) rfl
  have r7:=Za HG8.out 7 (v:=.string ⟨#[]⟩) rfl
  have f6:=Zb HG8.out 6
  have f7:=Zb HG8.out 7
  clear hgp HA7 hG9 hk9
  go_upto_region 7 with (fail)
  try rw[hw9]
  clear hw9 r6 r7 f6 f7 HG8 HK8
  have hb8:=(HST.out _ (HL.out.2 _ HK9.out).2.2.1).2.2.2
  obtain⟨wA,hwA,hGA,hkA⟩:=ZdN (p':=.slice pp pn pcc) (q':=.slice qp qn qc) (x':=x) (y':=y) (u':=u) (v':=v) (s':=c) (z':=d) hb8
  have HHA:=Lib.hid (And.intro hGA hkA)
  have g0:=Za HG9.out 0 (v:=.slice pp pn pcc) rfl
  have g1:=Za HG9.out 1 (v:=.string x) rfl
  have g2:=Za HG9.out 2 (v:=.string y) rfl
  have g3:=Za HG9.out 3 (v:=.slice qp qn qc) rfl
  have g4:=Za HG9.out 4 (v:=.string u) rfl
  have g5:=Za HG9.out 5 (v:=.string v) rfl
  have g6:=Za HG9.out 6 (v:=.string c) rfl
  have g7:=Za HG9.out 7 (v:=.string d) rfl
  have r0:=Za hb8 0 (v:=.slice none 0 0) rfl
  have r1:=Za hb8 1 (v:=.string ⟨#[]⟩) rfl
  have r2:=Za hb8 2 (v:=.string ⟨#[]⟩) rfl
  have r3:=Za hb8 3 (v:=.slice none 0 0) rfl
  have r4:=Za hb8 4 (v:=.string ⟨#[]⟩) rfl
  have r5:=Za hb8 5 (v:=.string ⟨#[]⟩) rfl
  have r6:=Za hb8 6 (v:=.string ⟨#[]⟩) rfl
  have r7:=Za hb8 7 (v:=.string ⟨#[]⟩) rfl
  have f0:=Zb hb8 0
  have f1:=Zb hb8 1
  have f2:=Zb hb8 2
  have f3:=Zb hb8 3
  have f4:=Zb hb8 4
  have f5:=Zb hb8 5
  have f6:=Zb hb8 6
  have f7:=Zb hb8 7
  clear hb8 hGA hkA
  go_wp2
  try rw[hwA]
  obtain⟨z1,z2,z3,z4⟩:=HL.out.2 _ HK9.out
  have hmG:=HL.out.1
  refine bodyPost_ret (results_none rfl _ _ _) rfl ⟨0,.inl ⟨rfl,rfl⟩,⟨q,qs,HSR.out,.inl ⟨⟨HB5.out.1,HGP.out.fits⟩,rfl,x,y,.slice qp qn qc,u,v,c,d,?_,?_,HX.out,HB5.out.2,HGP.out,HHA.out.1⟩⟩,?_⟩
  ·refine z1.keepG (fun e=>?_) (fun u hu e=>?_) HHA.out.2
   ·have:=(HPO.out _ e).1
    omega
   ·have:=(z1.gt hu).1
    omega
  ·exact(z2.kept fun x hx _=>HHA.out.2.block x (World.ownsRow.lt z2 x (by assumption)).2 (by show x≠Gs;omega)).mono hwW
  ·exact(z3.mono fun x _ h=>h.1).trans (HHA.out.2.mono fun x _ h=>h.2)
abbrev soV (pv:Value) (x y:ByteArray) (qv:Value) (u v s z:ByteArray):Value:=.agg #[pv,.string x,.string y,qv,.string u,.string v,.string s,.string z]
abbrev soVZ:Value:=soV (.slice none 0 0) ⟨#[]⟩ ⟨#[]⟩ (.slice none 0 0) ⟨#[]⟩ ⟨#[]⟩ ⟨#[]⟩ ⟨#[]⟩
abbrev wnO:Obj:=.cells #[.pointer none] 89
def ZmV (t:TaskP) (R:Int) (w:World) (e:Ending) (w':World):Prop:=
 ((¬ (TaskOk t∧0≤R∧R≤64)∧e=.returned (.tuple #[soVZ,.int .i64 2]))∨
  ((TaskOk t∧0≤R∧R≤64)∧∃ q qs,Zgd t R.toNat q qs∧((Zdq t q qs∧∃ pv x y qv u v s z,IIL w' pv q∧PL w' qv qs∧IsP (valR t q) x y∧IsP (bndR t qs) u v∧IsP (bndR t qs-valR t q) s z∧e=.returned (.tuple #[soV pv x y qv u v s z,.int .i64 0]))∨
   (¬ Zdq t q qs∧e=.returned (.tuple #[soVZ,.int .i64 4])))))∧Below w.heap.size w w'
inductive BegI
 | a
 | p (v:Value)
 | w (b m:Nat) (pv:Value) (gq gc:Nat→Nat)
def BegS (t:TaskP) (sv hv rv:Value) (G:Nat) (R:Nat) (w0:World) (j:BegI) (g:Option Nat) (V:World):Prop:=
 (Below w0.heap.size w0 V∧V.heap[G]?=some (.cells #[sv,hv,rv] 26)∧V.heap[G+1]?=some (inO R)∧V.heap[G+1+1]?=some soZ)∧(∀ k,g=some k→V.heap[k]?=some wnO∧G+3≤k)∧
  match j with
  | .a=>True
  | .p v=>IIL V v (Zu t)
  | .w b m pv gq gc=>WorkW t b m sv hv rv pv V∧PlanO (Zu t) t.sites.length m b pv gq gc V∧Memo V m t 0∧G+3≤m∧b<V.heap.size∧∀ k,g=some k→k≠m∧k≠b∧(∀ u,u<(Zu t).length→gq u≠k)∧pv.ownBlock≠some k
section
variable {t:TaskP} {sv hv rv:Value} {G R:Nat} {w0 V V':World} {g:Option Nat}
theorem BegS.base {j:BegI} (h:BegS t sv hv rv G R w0 j g V) (hb:Below V.heap.size V V'):(Below w0.heap.size w0 V'∧V'.heap[G]?=some (.cells #[sv,hv,rv] 26)∧V'.heap[G+1]?=some (inO R)∧V'.heap[G+1+1]?=some soZ)∧(∀ k,g=some k→V'.heap[k]?=some wnO∧G+3≤k):=by
 obtain⟨⟨h1,h2,h3,h4⟩,h5,_⟩:=h
 have hk:=hb.keepsS (fun _=>True)
 exact⟨⟨h1.trans (hb.mono h1.size),hk.at h2 trivial,hk.at h3 trivial,hk.at h4 trivial⟩,fun k e=>⟨hk.at (h5 k e).1 trivial,(h5 k e).2⟩⟩
theorem BegS.push {j:BegI} (hG:G+3≤w0.heap.size) (h:BegS t sv hv rv G R w0 j none V):BegS t sv hv rv G R w0 j (some V.heap.size) (V.alloc wnO):=by
 have hb:Below V.heap.size V (V.alloc wnO):=(Below.refl _ V).alloc (Nat.le_refl _) _
 refine⟨(h.base hb).1,fun k e=>?_,?_⟩
 ·obtain rfl:=Option.some.inj e
  exact⟨World.alloc_heap_new V _,Nat.le_trans hG h.1.1.size⟩
 ·obtain⟨_,_,h6⟩:=h
  cases j with
  | a=>trivial
  | p v=>exact IIL.stay2 h6 hb (Nat.le_refl _)
  | w b m pv gq gc=>
   obtain⟨k1,k2,k3,k4,k5,_⟩:=h6
   refine⟨k1.keep (hb.keepsS _),k2.keep (hb.keepsS _),k3.step hb,k4,Nat.lt_of_lt_of_le k5 hb.size,fun k e=>?_⟩
   obtain rfl:=Option.some.inj e
   refine⟨by have:=k3.lt;omega,by omega,fun u hu=>?_,fun e2=>?_⟩
   ·have:=(k2.gt hu).2
    omega
   ·have:=(World.ownsRow.lt k2.outer _ e2).2
    omega
end
theorem Zds.stay {t:TaskP} {R b m Gs B h:Nat} {pv:Value} {gq gc:Nat→Nat} {n:Int} {W W':World} (hne:Gs≠h) (hB:h<B) (hgq:∀ u,u<t.hours.length→gq u≠h) (hpv:pv.ownBlock≠some h) (q:Zds t R b m Gs B pv gq gc n W) (hk:Keeps (fun x=>x≠h) W W'):Zds t R b m Gs B pv gq gc n W':=by
 obtain⟨q,qs,hR,h1⟩:=q
 refine⟨q,qs,hR,?_⟩
 obtain⟨_,_,_,_,hq,_⟩:=hR
 rcases h1 with ⟨hf,h0,x,y,qv,u,v,s,z,z1,z2,hx,hu,hs,hb⟩ | ⟨hf,h0,hb⟩
 ·exact .inl ⟨hf,h0,x,y,qv,u,v,s,z,z1.keepG hpv (fun u hu=>hgq u (by rw[← hq.teams];exact hu)) hk,z2.kept fun x hx hx2=>hk.block x (World.ownsRow.lt z2 x hx2).2 (by show x≠h;omega),hx,hu,hs,hk.at hb hne⟩
 ·exact .inr ⟨hf,h0,hk.at hb hne⟩
theorem Zj2 {t:TaskP} {R:Int} {sv hv rv:Value} {w:World} (hT:TaskIn t sv hv rv w) (hz:LimT t) (hsm:TaskOk t→t.sites.length≤4∧t.hours.length≤3) :
  Calls Tryz.prog 43 #[.agg #[sv,hv,rv],.int .i64 R] w (ZmV t R w):=by
 obtain⟨ps,cs,rfl,_⟩:=hT.sites.shape rfl
 obtain⟨ph,ch,rfl,_⟩:=hT.hours.shape rfl
 obtain⟨pr,cr,rfl,_⟩:=hT.rates.shape rfl
 obtain⟨ns,hns⟩:∃ n,t.sites.length=n:=⟨_,rfl⟩
 obtain⟨nh,hnh⟩:∃ n,t.hours.length=n:=⟨_,rfl⟩
 obtain⟨nr,hnr⟩:∃ n,t.rates.length=n:=⟨_,rfl⟩
 rw[hns,hnh,hnr] at hT ⊢
 have HT:=Lib.hid hT
 have HZ:=Lib.hid hz
 have HSM:=Lib.hid hsm
 have HNH:=Lib.hid hnh
 have hmf:∀ (fn:Fn) (first cap:Array Value) (w:World),(Instr.makeFunc fn first cap).run Tryz.prog w=.ok (.func fn first cap) w:=fun _ _ _ _=>rfl
 obtain⟨G,hG⟩:∃ G,w.heap.size=G:=⟨_,rfl⟩
 obtain⟨w1,hw1⟩:∃ z,(((w.alloc (efO (.slice ps ns cs) (.slice ph nh ch) (.slice pr nr cr))).alloc (inO R)).alloc soZ)=z:=⟨_,rfl⟩
 have HE1:Hid (Env w.heap.size w [(G+1+1,soZ),(G+1,inO R),(G,efO (.slice ps ns cs) (.slice ph nh ch) (.slice pr nr cr))] [] w1):=by
  rw[← hw1,← hG]
  exact(((Env.start w).push _ rfl).push _ (by simp)).push _ (by simp)
 have HGG:=Lib.hid hG
 have e0:=HE1.out.cell 2 0 (v:=.slice ps ns cs) rfl rfl
 have e1:=HE1.out.cell 2 1 (v:=.slice ph nh ch) rfl rfl
 have e2:=HE1.out.cell 2 2 (v:=.slice pr nr cr) rfl rfl
 clear hT hz hns hnh hnr hsm
 go_enter Tryz.func43,Tryz.ntmps43
 go_wp2_with fail
 refine(Zc7 (HT.out.below HE1.out.base (Nat.le_refl _)) HZ.out).mono ?_
 rintro e w2 ⟨hE,hb⟩
 have HE2:=Lib.hid (HE1.out.step hb)
 clear hb HE1 e0 e1 e2 hw1 hG
 rcases hE with ⟨hok,rfl⟩ | ⟨hok,rfl⟩
 rotate_left
 ·have HNO:Hid (¬ (TaskOk t∧0≤R∧R≤64)):=fun h=>hok h.1
  clear hok
  have hb8:=HE2.out.block 0 rfl
  have hbB:=HE2.out.base
  have r0:=Za hb8 0 (v:=.slice none 0 0) rfl
  have r1:=Za hb8 1 (v:=.string ⟨#[]⟩) rfl
  have r2:=Za hb8 2 (v:=.string ⟨#[]⟩) rfl
  have r3:=Za hb8 3 (v:=.slice none 0 0) rfl
  have r4:=Za hb8 4 (v:=.string ⟨#[]⟩) rfl
  have r5:=Za hb8 5 (v:=.string ⟨#[]⟩) rfl
  have r6:=Za hb8 6 (v:=.string ⟨#[]⟩) rfl
  have r7:=Za hb8 7 (v:=.string ⟨#[]⟩) rfl
  obtain⟨wA,hwA,hGA,hkA⟩:=ZdN (p':=.slice none 0 0) (q':=.slice none 0 0) (x':=⟨#[]⟩) (y':=⟨#[]⟩) (u':=⟨#[]⟩) (v':=⟨#[]⟩) (s':=⟨#[]⟩) (z':=⟨#[]⟩) hb8
  have HB9:Hid (Below w.heap.size w wA):=hbB.trans (hkA.below_of (fun c hc=>by have:=HGG.out;show c≠G+1+1;omega) hbB.size)
  have HKA:=Lib.hid hkA
  have f0:=Zb hb8 0
  have f1:=Zb hb8 1
  have f2:=Zb hb8 2
  have f3:=Zb hb8 3
  have f4:=Zb hb8 4
  have f5:=Zb hb8 5
  have f6:=Zb hb8 6
  have f7:=Zb hb8 7
  clear hkA hbB
  clear hb8
  go_wp2
  try rw[hwA]
  have q0:=Za hGA 0 (v:=.slice none 0 0) rfl
  have q1:=Za hGA 1 (v:=.string ⟨#[]⟩) rfl
  have q2:=Za hGA 2 (v:=.string ⟨#[]⟩) rfl
  have q3:=Za hGA 3 (v:=.slice none 0 0) rfl
  have q4:=Za hGA 4 (v:=.string ⟨#[]⟩) rfl
  have q5:=Za hGA 5 (v:=.string ⟨#[]⟩) rfl
  have q6:=Za hGA 6 (v:=.string ⟨#[]⟩) rfl
  have q7:=Za hGA 7 (v:=.string ⟨#[]⟩) rfl
  exact bodyPost_ret (v:=.tuple #[soVZ,.int .i64 2]) (by simp[results,Tryz.f43,go_sem,q0,q1,q2,q3,q4,q5,q6,q7]) rfl ⟨.inl ⟨HNO.out,rfl⟩,HB9.out⟩
 have HOK:=Lib.hid hok
 have r0:=HE2.out.cell 1 0 (v:=.int .i64 R) rfl rfl
 clear hok
 go_wp2_with fail
 refine(ZaY R 0 64 _).mono ?_
 rintro e w3 ⟨rfl,hb⟩
 have HE3:=Lib.hid (HE2.out.step hb)
 clear hb HE2 r0
 by_cases hU:0≤R∧R≤64
 rotate_left
 ·have HNO:Hid (¬ (TaskOk t∧0≤R∧R≤64)):=fun h=>hU h.2
  have hw:(decide ((0:Int)≤R) && decide (R≤64))=false:=by
   rw[← Bool.not_eq_true]
   simp only[Bool.and_eq_true,decide_eq_true_eq]
   exact hU
  rw[hw]
  clear hU hw
  have hb8:=HE3.out.block 0 rfl
  have hbB:=HE3.out.base
  have r0:=Za hb8 0 (v:=.slice none 0 0) rfl
  have r1:=Za hb8 1 (v:=.string ⟨#[]⟩) rfl
  have r2:=Za hb8 2 (v:=.string ⟨#[]⟩) rfl
  have r3:=Za hb8 3 (v:=.slice none 0 0) rfl
  have r4:=Za hb8 4 (v:=.string ⟨#[]⟩) rfl
  have r5:=Za hb8 5 (v:=.string ⟨#[]⟩) rfl
  have r6:=Za hb8 6 (v:=.string ⟨#[]⟩) rfl
  have r7:=Za hb8 7 (v:=.string ⟨#[]⟩) rfl
  obtain⟨wA,hwA,hGA,hkA⟩:=ZdN (p':=.slice none 0 0) (q':=.slice none 0 0) (x':=⟨#[]⟩) (y':=⟨#[]⟩) (u':=⟨#[]⟩) (v':=⟨#[]⟩) (s':=⟨#[]⟩) (z':=⟨#[]⟩) hb8
  have HB9:Hid (Below w.heap.size w wA):=hbB.trans (hkA.below_of (fun c hc=>by have:=HGG.out;show c≠G+1+1;omega) hbB.size)
  have HKA:=Lib.hid hkA
  have f0:=Zb hb8 0
  have f1:=Zb hb8 1
  have f2:=Zb hb8 2
  have f3:=Zb hb8 3
  have f4:=Zb hb8 4
  have f5:=Zb hb8 5
  have f6:=Zb hb8 6
  have f7:=Zb hb8 7
  clear hkA hbB
  clear hb8
  go_wp2
  try rw[hwA]
  have q0:=Za hGA 0 (v:=.slice none 0 0) rfl
  have q1:=Za hGA 1 (v:=.string ⟨#[]⟩) rfl
  have q2:=Za hGA 2 (v:=.string ⟨#[]⟩) rfl
  have q3:=Za hGA 3 (v:=.slice none 0 0) rfl
  have q4:=Za hGA 4 (v:=.string ⟨#[]⟩) rfl
  have q5:=Za hGA 5 (v:=.string ⟨#[]⟩) rfl
  have q6:=Za hGA 6 (v:=.string ⟨#[]⟩) rfl
  have q7:=Za hGA 7 (v:=.string ⟨#[]⟩) rfl
  exact bodyPost_ret (v:=.tuple #[soVZ,.int .i64 2]) (by simp[results,Tryz.f43,go_sem,q0,q1,q2,q3,q4,q5,q6,q7]) rfl ⟨.inl ⟨HNO.out,rfl⟩,HB9.out⟩
 have hw:(decide ((0:Int)≤R) && decide (R≤64))=true:=by simp;exact hU
 rw[hw]
 clear hw
 have HYES:Hid (TaskOk t∧0≤R∧R≤64):=⟨HOK.out,hU⟩
 obtain⟨R,rfl⟩:∃ n:Nat,R=n:=⟨R.toNat,by omega⟩
 have hsG:G+3≤w3.heap.size:=by
  have:=HE3.out.lt 0 rfl
  omega
 have HS0:Hid (BegS t (.slice ps ns cs) (.slice ph nh ch) (.slice pr nr cr) G R w3 .a none w3.drew):=by
  have hb:Below w3.heap.size w3 w3.drew:=(Below.refl _ w3).drew
  have hk:=hb.keepsS (fun _=>True)
  exact⟨⟨hb,hk.at (HE3.out.block 2 rfl) trivial,hk.at (HE3.out.block 1 rfl) trivial,hk.at (HE3.out.block 0 rfl) trivial⟩,fun k e=>(by cases e),trivial⟩
 have HTV:Hid (∀ V,Below w3.heap.size w3 V→TaskIn t (.slice ps ns cs) (.slice ph nh ch) (.slice pr nr cr) V):=fun V hV=>HT.out.below (HE3.out.base.trans (hV.mono HE3.out.own)) (Nat.le_refl _)
 go_wp2_with fail
 refine Zbm 4 6 [(0,5)] [(1,0),(1,1),(0,2),(0,3)] (BegS t (.slice ps ns cs) (.slice ph nh ch) (.slice pr nr cr) G R w3) .a (fun i=>i==5)
  (by kernel_rfl) (by kernel_rfl) (fun j hj=>by have h:6≤j:=hj;simp;omega) (fun _ _ o _ _ h=>by cases o<;>exact h) rfl rfl (fun _=>rfl) (fun a V K hK=>by go_simp;exact hK) (fun j V h=>h.push hsG) HS0.out ?_
 clear HS0
 iterate 2
  refine ZI _ rfl (fun z=>rfl) (fun z j g w' hS=>by have e0:=Za hS.1.2.1 0 (v:=.slice ps ns cs) rfl;have e1:=Za hS.1.2.1 1 (v:=.slice ph nh ch) rfl;have e2:=Za hS.1.2.1 2 (v:=.slice pr nr cr) rfl;simp only[Act.put,List.setIfInBounds_toArray,List.set_cons_zero,List.set_cons_succ];go_simp;first | rfl | (rw[if_pos (by omega)])) ?_
  simp only[Znc,Znd,Zne,Act.put,Znf,Zng,Znh]
 refine Zai 49 _ rfl (fun z=>rfl) (fun z w'=>by simp only[Act.put,List.setIfInBounds_toArray,List.set_cons_zero,List.set_cons_succ];go_simp;rfl) (fun g V hS=>?_)
 refine(Zhi (HTV.out _ hS.1.1) HOK.out.teams.2 HOK.out.sites).mono ?_
 rintro e V' ⟨pv0,rfl,hI,hb⟩
 refine .inl ⟨_,.p pv0,rfl,⟨(hS.base hb).1,(hS.base hb).2,hI⟩,?_⟩
 clear hb hS hI
 simp only[Znc,Znd,Zne,Act.put,Znf,Zng,Znh]
 have hzp:=ZdJ HOK.out
 refine Zai 48 _ rfl (fun z=>rfl) (fun z w'=>by simp only[Act.put,List.setIfInBounds_toArray,List.set_cons_zero,List.set_cons_succ];go_simp;rfl) (fun g V hS=>?_)
 refine(Zgp (HTV.out _ hS.1.1) hS.2.2 hzp.len8.2 HOK.out.sites (fun u hu=>hzp.row u hu)).mono ?_
 rintro e V' ⟨b,m,pv,gq,gc,rfl,hW,hP,hM,hm,hb1,hb⟩
 refine .inl ⟨_,.w b m pv gq gc,rfl,⟨(hS.base hb).1,(hS.base hb).2,hW,hP,hM,Nat.le_trans (Nat.le_trans hsG hS.1.1.size) hm,(Array.getElem?_eq_some_iff.1 hW.blk).1,fun k e=>?_⟩,?_⟩
 ·have hk:=(Array.getElem?_eq_some_iff.1 (hS.2.1 k e).1).1
  refine⟨by omega,by omega,fun u hu=>?_,fun e2=>?_⟩
  ·have:=(hP.gt hu).1
   omega
  ·have:=(World.ownsRow.lt hP.outer _ e2).1
   omega
 clear hb hS hW hP hM hm hb1
 simp only[Znc,Znd,Zne,Act.put,Znf,Zng,Znh]
 refine ZaF fun k V hS=>?_
 obtain⟨⟨sB,sE,sR,sZ⟩,sk,hW,hP,hM,hGm,hbV,hkk⟩:=hS
 obtain⟨hk1,hk2⟩:=sk k rfl
 obtain⟨n1,n2,n3,n4⟩:=hkk k rfl
 obtain⟨pp,pn,pcc,rfl⟩:∃ a b c,pv=Value.slice a b c:=by
  obtain⟨pb,pc,h,_⟩:=hP.toW hzp.len8.1
  exact⟨_,_,_,h⟩
 have hzl:(Zu t).length=nh:=by rw[hzp.teams,HNH.out]
 obtain⟨w4,hw4⟩:∃ z,V.setCell ⟨k,0,none⟩ (.pointer (some ⟨b,0,none⟩))=z:=⟨_,rfl⟩
 have h4:w4.heap[k]?=some (wkO b):=by rw[← hw4];exact Joins.block_setCell hk1 _
 have k4:Keeps (fun x=>x≠k) V w4:=by rw[← hw4];exact(Keeps.refl _ V).setCell (p:=⟨k,0,none⟩) (by simp) _
 have hGw:=HGG.out
 have b4:Below w.heap.size w w4:=(HE3.out.base.trans (sB.mono HE3.out.own)).trans (k4.below_of (fun c hc=>by show c≠k;omega) (Nat.le_trans HE3.out.own sB.size))
 have W4:WorkW t b m (.slice ps ns cs) (.slice ph nh ch) (.slice pr nr cr) (.slice pp pn pcc) w4:=⟨k4.at hW.blk (Ne.symm n2),hW.ne,w,HT.out,b4,by omega⟩
 have P4:=hP.keepG n4 n3 k4
 have M4:=hM.stay (k4.block m hM.lt (Ne.symm n1))
 have hgs:∀ u,u<nh→m<gq u∧gq u<w4.heap.size:=fun u hu=>by
  have:=P4.gt (u:=u) (by rw[hzl];exact hu)
  exact this
 have hpo:∀ x,(Value.slice pp pn pcc).ownBlock=some x→m<x∧x<w4.heap.size:=fun x hx=>World.ownsRow.lt P4.outer x hx
 have hm4:=M4.lt
 have hk9:=(Array.getElem?_eq_some_iff.1 h4).1
 have HTR:Hid (Calls Tryz.prog 50 #[.func (.func 102) #[] #[.pointer (some ⟨k,0,none⟩),.pointer (some ⟨G+1,0,none⟩),.pointer (some ⟨G+1+1,0,none⟩)]] w4 (ZcO (Zds t R b m (G+1+1) (w4.heap.size+1) (.slice pp pn pcc) gq gc) (fun x=>NotG m nh gq x∧x≠G+1+1) w4)):=by
  have hal:Below w4.heap.size w4 (w4.alloc (erO 0)):=(Below.refl _ w4).alloc (Nat.le_refl _) _
  have hka:=hal.keepsS (fun _=>True)
  refine Zb9 (enters_of Tryz.func102 (by kernel_rfl) rfl) (fun x hx=>⟨⟨by omega,fun u hu e=>by have:=hgs u hu;omega⟩,by omega⟩) (fun n W W' hQ hk=>hQ.stay (by omega) (by omega) (fun u hu e=>by have:=hgs u (by rw[← HNH.out];exact hu);omega) (fun e=>by have:=hpo _ e;omega) hk) ?_
  have:=Zkg (R:=R) (W4.keep (hal.keepsS _)) (P4.keep (hal.keepsS _)) (M4.step hal) HOK.out HNH.out (by omega) (fun r hr=>ZgD hr.task hr.inn (HSM.out hr.task).1 (HSM.out hr.task).2) (hka.at h4 trivial) (hka.at (k4.at sR (by omega)) trivial) (hka.at (k4.at sZ (by omega)) trivial)
   ⟨⟨n1,by omega,by omega⟩,fun u hu=>⟨n3 u (by rw[hzl];exact hu),by have:=hgs u hu;omega,by have:=hgs u hu;omega⟩⟩ (by omega)
  rw[World.size_alloc] at this
  exact this
 have HB4:=Lib.hid b4
 have HPM:Hid ((∀ u,u<nh→m<gq u)∧(∀ x,(Value.slice pp pn pcc).ownBlock=some x→m<x)∧G+3≤m∧G+3≤w4.heap.size):=⟨fun u hu=>(hgs u hu).1,fun x hx=>(hpo x hx).1,hGm,by omega⟩
 have r0:=Za hk1 0 (v:=.pointer none) rfl
 have f0:=Zb hk1 0
 clear sB sE sR sZ sk hW hP hM hbV hkk hk1 n1 n2 n3 n4 W4 P4 M4 hgs hpo b4 h4 k4 hzp hzl hGm hm4 hk9
 simp only[Znc,Znd,Zne,Act.put,Znf,Zng,Znh]
 refine Zn rfl rfl fun K hK=>?_
 go_simp
 try rw[hw4]
 refine hK _ _ (.inl rfl) ?_
 clear hK K r0 f0 hw4
 refine Zq ?_
 go_wp2_with fail
 refine HTR.out.mono ?_
 rintro e w6 ⟨n,rfl,⟨q,qs,hR,hQ⟩,hk⟩
 have HB6:Hid (Below w.heap.size w w6):=HB4.out.trans (hk.below_of (fun c hc=>⟨⟨by have:=HPM.out.2.2.1;omega,fun u hu e=>by have:=HPM.out.1 u hu;have:=HPM.out.2.2.1;omega⟩,by omega⟩) HB4.out.size)
 have HR:=Lib.hid hR
 have hsw:w.heap.size≤w4.heap.size:=HB4.out.size
 clear hk hR HTR
 rcases hQ with ⟨hf,rfl,x,y,qv,u,v,s,z,z1,z2,hx,hu,hs,hb8⟩ | ⟨hf,rfl,hb8⟩
 ·obtain⟨qp,qn,qc,rfl⟩:∃ a b c,qv=Value.slice a b c:=by
   obtain⟨p,c,h,_⟩:=z2.pl
   exact⟨_,_,_,h⟩
  have HF:=Lib.hid (And.intro hf (And.intro hx (And.intro hu hs)))
  have HZ1:=Lib.hid z1
  have HZ2:=Lib.hid z2
  have hbB:=HB6.out
  clear hf hx hu hs z1 z2
  have r0:=Za hb8 0 (v:=.slice pp pn pcc) rfl
  have r1:=Za hb8 1 (v:=.string x) rfl
  have r2:=Za hb8 2 (v:=.string y) rfl
  have r3:=Za hb8 3 (v:=.slice qp qn qc) rfl
  have r4:=Za hb8 4 (v:=.string u) rfl
  have r5:=Za hb8 5 (v:=.string v) rfl
  have r6:=Za hb8 6 (v:=.string s) rfl
  have r7:=Za hb8 7 (v:=.string z) rfl
  obtain⟨wA,hwA,hGA,hkA⟩:=ZdN (p':=.slice pp pn pcc) (q':=.slice qp qn qc) (x':=x) (y':=y) (u':=u) (v':=v) (s':=s) (z':=z) hb8
  have HB9:Hid (Below w.heap.size w wA):=hbB.trans (hkA.below_of (fun c hc=>by have:=HGG.out;show c≠G+1+1;omega) hbB.size)
  have HKA:=Lib.hid hkA
  have f0:=Zb hb8 0
  have f1:=Zb hb8 1
  have f2:=Zb hb8 2
  have f3:=Zb hb8 3
  have f4:=Zb hb8 4
  have f5:=Zb hb8 5
  have f6:=Zb hb8 6
  have f7:=Zb hb8 7
  clear hkA hbB
  have HHA:=Lib.hid hGA
  clear hb8 hGA
  go_wp2
  try rw[hwA]
  have hGA:=HHA.out
  have q0:=Za hGA 0 (v:=.slice pp pn pcc) rfl
  have q1:=Za hGA 1 (v:=.string x) rfl
  have q2:=Za hGA 2 (v:=.string y) rfl
  have q3:=Za hGA 3 (v:=.slice qp qn qc) rfl
  have q4:=Za hGA 4 (v:=.string u) rfl
  have q5:=Za hGA 5 (v:=.string v) rfl
  have q6:=Za hGA 6 (v:=.string s) rfl
  have q7:=Za hGA 7 (v:=.string z) rfl
  refine bodyPost_ret (v:=.tuple #[soV (.slice pp pn pcc) x y (.slice qp qn qc) u v s z,.int .i64 0]) (by simp[results,Tryz.f43,go_sem,q0,q1,q2,q3,q4,q5,q6,q7]) rfl ⟨.inr ⟨HYES.out,q,qs,HR.out,.inl ⟨HF.out.1,_,x,y,_,u,v,s,z,(HZ1.out.keepG (fun e=>?_) (fun u hu e=>?_) HKA.out).toIIL,Own.pl (HZ2.out.kept fun x hx hx2=>HKA.out.block x (World.ownsRow.lt HZ2.out x hx2).2 (by have:=HPM.out.2.2.2;show x≠G+1+1;omega)),HF.out.2.1,HF.out.2.2.1,HF.out.2.2.2,rfl⟩⟩,HB9.out⟩
  ·have:=HPM.out.2.1 _ e
   have:=HPM.out.2.2.1
   omega
  ·have:=(HZ1.out.gt hu).1
   have:=HPM.out.2.2.1
   omega
 ·have HF:=Lib.hid hf
  have hbB:=HB6.out
  clear hf
  have r0:=Za hb8 0 (v:=.slice none 0 0) rfl
  have r1:=Za hb8 1 (v:=.string ⟨#[]⟩) rfl
  have r2:=Za hb8 2 (v:=.string ⟨#[]⟩) rfl
  have r3:=Za hb8 3 (v:=.slice none 0 0) rfl
  have r4:=Za hb8 4 (v:=.string ⟨#[]⟩) rfl
  have r5:=Za hb8 5 (v:=.string ⟨#[]⟩) rfl
  have r6:=Za hb8 6 (v:=.string ⟨#[]⟩) rfl
  have r7:=Za hb8 7 (v:=.string ⟨#[]⟩) rfl
  obtain⟨wA,hwA,hGA,hkA⟩:=ZdN (p':=.slice none 0 0) (q':=.slice none 0 0) (x':=⟨#[]⟩) (y':=⟨#[]⟩) (u':=⟨#[]⟩) (v':=⟨#[]⟩) (s':=⟨#[]⟩) (z':=⟨#[]⟩) hb8
  have HB9:Hid (Below w.heap.size w wA):=hbB.trans (hkA.below_of (fun c hc=>by have:=HGG.out;show c≠G+1+1;omega) hbB.size)
  have HKA:=Lib.hid hkA
  have f0:=Zb hb8 0
  have f1:=Zb hb8 1
  have f2:=Zb hb8 2
  have f3:=Zb hb8 3
  have f4:=Zb hb8 4
  have f5:=Zb hb8 5
  have f6:=Zb hb8 6
  have f7:=Zb hb8 7
  clear hkA hbB
  have HHA:=Lib.hid hGA
  clear hb8 hGA
  go_wp2
  try rw[hwA]
  have hGA:=HHA.out
  have q0:=Za hGA 0 (v:=.slice none 0 0) rfl
  have q1:=Za hGA 1 (v:=.string ⟨#[]⟩) rfl
  have q2:=Za hGA 2 (v:=.string ⟨#[]⟩) rfl
  have q3:=Za hGA 3 (v:=.slice none 0 0) rfl
  have q4:=Za hGA 4 (v:=.string ⟨#[]⟩) rfl
  have q5:=Za hGA 5 (v:=.string ⟨#[]⟩) rfl
  have q6:=Za hGA 6 (v:=.string ⟨#[]⟩) rfl
  have q7:=Za hGA 7 (v:=.string ⟨#[]⟩) rfl
  exact bodyPost_ret (v:=.tuple #[soVZ,.int .i64 4]) (by simp[results,Tryz.f43,go_sem,q0,q1,q2,q3,q4,q5,q6,q7]) rfl ⟨.inr ⟨HYES.out,q,qs,HR.out,.inr ⟨HF.out,rfl⟩⟩,HB9.out⟩
end Go.Proofs.YtmpaflidennnoaaGreatDoor
