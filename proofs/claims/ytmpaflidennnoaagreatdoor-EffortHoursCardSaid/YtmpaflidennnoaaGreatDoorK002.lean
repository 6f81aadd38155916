/- The parts Mixed, Products, Errors, Tried, Update, Updated, PubSum of a proof, put together by program (merge7.py). -/
import Derived.Test.YtmpaflidennnoaaGreatDoorH03
import Derived.Test.YtmpaflidennnoaaGreatDoorH13
import Derived.Test.YtmpaflidennnoaaGreatDoorH10
import Derived.Recover
import Derived.Test.YtmpaflidennnoaaGreatDoorH12
set_option maxRecDepth 100000
set_option maxHeartbeats 4000000
set_option linter.unusedVariables false
set_option linter.unusedSimpArgs false
namespace Go.Proofs.YtmpaflidennnoaaGreatDoor
open Go.RowKit
section
variable {P:Program} {ops:Array Oper} {Q:Exit→Act→World→Prop} {md:Region.Mode} {S:World→Prop} {bar:Nat→Bool}
end
end Go.Proofs.YtmpaflidennnoaaGreatDoor
namespace Go.Proofs.YtmpaflidennnoaaGreatDoor
open Go.RowKit Go.Shelf
def LLs (w:World) (v:Value) (ls:List (List PP)):Prop:=
 ∃ b cap,v=.slice (some ⟨b,0,none⟩) ls.length cap∧ls.length≤cap∧cap≤maxLen∧b<w.heap.size∧∀ j (h:j<ls.length),∃ u,w.cell? ⟨b,j,none⟩=some u∧PL w u ls[j]
theorem LLs.after {w w':World} {v:Value} {ls:List (List PP)} {B:Nat} (h:LLs w v ls) (hb:Below B w w') (hB:w.heap.size≤B):LLs w' v ls:=by
 obtain⟨b,cap,h1,h2,h3,h4,h5⟩:=h
 refine⟨b,cap,h1,h2,h3,Nat.lt_of_lt_of_le h4 hb.size,fun j hj=>?_⟩
 obtain⟨u,h6,h7⟩:=h5 j hj
 exact⟨u,(hb.cell (p:=⟨b,j,none⟩) (by show b<B;omega)).trans h6,h7.after hb hB⟩
def chkL (ls:List (List PP)):Int:=if ls.any (fun l=>decide (512<l.length)) then 3 else if ls.all (fun l=>l.all fun p=>okP p.1 p.2) then 0 else 2
theorem Zkn {ls:List (List PP)} {l:List PP} (h:l ∈ ls) (hl:512<l.length):chkL ls=3:=by
 unfold chkL
 rw[if_pos]
 exact List.any_eq_true.2 ⟨l,h,by simpa using hl⟩
theorem ZlG {ls:List (List PP)} (hs:∀ l ∈ ls,l.length≤512) {l:List PP} (h:l ∈ ls) {p:PP} (hp:p ∈ l) (hb:okP p.1 p.2=false):chkL ls=2:=by
 unfold chkL
 rw[if_neg,if_neg]
 ·rw[Bool.not_eq_true,List.all_eq_false]
  exact⟨l,h,by rw[Bool.not_eq_true,List.all_eq_false];exact⟨p,hp,by simp[hb]⟩⟩
 ·rw[Bool.not_eq_true,List.any_eq_false]
  intro l hl
  have:=hs l hl
  simp;omega
theorem Zl8 {ls:List (List PP)} (hs:∀ l ∈ ls,l.length≤512) (h:∀ l ∈ ls,∀ p ∈ l,okP p.1 p.2=true):chkL ls=0:=by
 unfold chkL
 rw[if_neg,if_pos]
 ·exact List.all_eq_true.2 fun l hl=>List.all_eq_true.2 fun p hp=>h l hl p hp
 ·rw[Bool.not_eq_true,List.any_eq_false]
  intro l hl
  have:=hs l hl
  simp;omega
theorem Zig {v:Value} {ls:List (List PP)} {w:World} (hv:LLs w v ls) (hn:ls.length≤1000) (hsm:(∀ l ∈ ls,l.length≤512)→∀ l ∈ ls,∀ p ∈ l,p.1.size≤1000000∧p.2.size≤1000000) :
  Calls Tryz.prog 94 #[v] w (Zf0 w (chkL ls)):=by
 obtain⟨b,cap,rfl,hcap,hmax,hbl,hat⟩:=hv
 obtain⟨n,hn'⟩:∃ n,ls.length=n:=⟨_,rfl⟩
 rw[hn'] at hcap hn ⊢
 unfold maxLen at hmax
 have HN:=Lib.hid hn'
 have HA:=Lib.hid hat
 have HS:=Lib.hid hsm
 clear hn' hat hsm
 go_enter Tryz.func94,Tryz.ntmps94
 go_wp2
 go_loopw [12] (fun i wr=>∃ (k:Nat),i=.int .i64 k∧k≤n∧Hid (∀ j (h:j<ls.length),j<k→ls[j].length≤512)∧wr=w) (fun i _=>n-(intOf i).toNat)
 case atStart=>exact⟨0,rfl,Nat.zero_le _,fun j _ h=>by omega,rfl⟩
 case round=>
  obtain⟨k,rfl,hk,HK,rfl⟩:=hrel
  by_cases hlt:k<n
  ·have hkl:k<ls.length:=by rw[HN.out];exact hlt
   obtain⟨u,hc,hpl⟩:=HA.out k hkl
   obtain⟨q,qc,rfl,_,_,_⟩:=hpl
   obtain⟨m,hm⟩:∃ m,ls[k].length=m:=⟨_,rfl⟩
   rw[hm] at hc
   have HM:=Lib.hid hm
   clear hm
   by_cases hg:512<m
   ·have hg':(512:Int)<(m:Nat):=by omega
    have HQ:Hid (chkL ls=3):=Zkn (List.getElem_mem hkl) (by rw[HM.out];exact hg)
    go_wp2
    go_ret
    exact⟨by rw[HQ.out];rfl,Below.refl _ _⟩
   ·have hg':¬ (512:Int)<(m:Nat):=by omega
    have HK2:Hid (∀ j (h:j<ls.length),j<k+1→ls[j].length≤512):=fun j h1 h2=>by
     rcases Nat.lt_or_ge j k with h3 | h3
     ·exact HK.out j h1 h3
     ·obtain rfl:j=k:=by omega
      rw[HM.out];omega
    go_wp2
    go_roundw
    case rel=>exact⟨k+1,by go_num,by omega,HK2,by first | rfl | trivial⟩
    case measure=>simp[intOf];omega
  ·have HL:Hid (∀ l ∈ ls,l.length≤512):=fun l hl=>by
    obtain⟨j,hj,rfl⟩:=List.getElem_of_mem hl
    exact HK.out j hj (by rw[HN.out] at hj;omega)
   clear HK
   go_wp2
   obtain⟨w0,rfl⟩:∃ w0:World,w0=wr:=⟨_,rfl⟩
   go_loopw [22] (fun i wx=>∃ (k:Nat),i=.int .i64 k∧k≤n∧Hid (∀ j (h:j<ls.length),j<k→∀ p ∈ ls[j],okP p.1 p.2=true)∧Hid (Below w0.heap.size w0 wx)) (fun i _=>n-(intOf i).toNat)
   case atStart=>exact⟨0,rfl,Nat.zero_le _,fun j _ h=>by omega,Below.refl _ _⟩
   case round=>
    obtain⟨k,rfl,hk,HK,HB⟩:=hrel
    obtain⟨wx,rfl⟩:∃ wx:World,wx=wr:=⟨_,rfl⟩
    by_cases hlt:k<n
    ·have hkl:k<ls.length:=by rw[HN.out];exact hlt
     obtain⟨u,hc,hpl⟩:=HA.out k hkl
     obtain⟨m,hm⟩:∃ m,ls[k].length=m:=⟨_,rfl⟩
     obtain⟨q,qc,rfl,hqc,hqm,hq⟩:=hpl
     rw[hm] at hc hqc
     have hc':=(HB.out.cell (p:=⟨b,k,none⟩) hbl).trans hc
     have HQ:=Lib.hid hq
     have HM:=Lib.hid hm
     have hm512:m≤512:=by rw[← hm];exact HL.out _ (List.getElem_mem hkl)
     clear hm hq hc
     go_wp2
     go_loopw [28] (fun i wy=>∃ (j:Nat),i=.int .i64 j∧j≤m∧Hid (∀ z (h:z<ls[k].length),z<j→okP ls[k][z].1 ls[k][z].2=true)∧Hid (Below w0.heap.size w0 wy)) (fun i _=>m-(intOf i).toNat)
     case atStart=>exact⟨0,rfl,Nat.zero_le _,fun j _ h=>by omega,HB⟩
     case round=>
      obtain⟨j,rfl,hj,HJ,HY⟩:=hrel
      obtain⟨wy,rfl⟩:∃ wy:World,wy=wr:=⟨_,rfl⟩
      by_cases hjm:j<m
      ·have hjl:j<ls[k].length:=by rw[HM.out];exact hjm
       obtain⟨bb,off,rfl,hbb,hat⟩:=HQ.out (List.ne_nil_of_length_pos (by omega))
       obtain⟨e0,e1⟩:=(hat.below HY.out hbb) j hjl
       obtain⟨hz1,hz2⟩:=HS.out HL.out _ (List.getElem_mem hkl) _ (List.getElem_mem hjl)
       obtain⟨s,hs⟩:∃ u,ls[k][j].1=u:=⟨_,rfl⟩
       obtain⟨t,ht⟩:∃ u,ls[k][j].2=u:=⟨_,rfl⟩
       have HOK:Hid (okP ls[k][j].1 ls[k][j].2=okP s t):=by show _=_;rw[hs,ht]
       rw[hs] at e0 hz1
       rw[ht] at e1 hz2
       clear hat hs ht
       go_wp2_with fail
       have hal:=(Below.refl wy.heap.size wy).alloc (Nat.le_refl _) (.cells #[.string s,.string t] 41)
       refine(Zs s t _ hz1 hz2).mono ?_
       rintro e w5 ⟨rfl,hb5⟩
       have HB5:=Lib.hid (HY.out.trans ((hal.trans (hb5.mono (by simp))).mono HY.out.size))
       clear hb5 hal e0 e1
       cases ho:okP s t
       ·have HE:=Lib.hid (Zao ho)
        have HC:Hid (chkL ls=2):=ZlG HL.out (List.getElem_mem hkl) (List.getElem_mem hjl) (by rw[HOK.out];exact ho)
        clear ho
        rw[HE.out]
        go_wp2
        go_ret
        exact⟨by rw[HC.out];rfl,HB5.out⟩
       ·have HE:=Lib.hid (Z1 ho)
        have HJ2:Hid (∀ z (h:z<ls[k].length),z<j+1→okP ls[k][z].1 ls[k][z].2=true):=fun z h1 h2=>by
         rcases Nat.lt_or_ge z j with h3 | h3
         ·exact HJ.out z h1 h3
         ·obtain rfl:z=j:=by omega
          rw[HOK.out];exact ho
        clear ho
        rw[HE.out]
        go_wp2
        go_roundw
        case rel=>exact⟨j+1,by go_num,by omega,HJ2,HB5⟩
        case measure=>simp[intOf];omega
      ·have HK2:Hid (∀ z (h:z<ls.length),z<k+1→∀ p ∈ ls[z],okP p.1 p.2=true):=fun z h1 h2 p hp=>by
        rcases Nat.lt_or_ge z k with h3 | h3
        ·exact HK.out z h1 h3 p hp
        ·obtain rfl:z=k:=by omega
         obtain⟨y,hy,rfl⟩:=List.getElem_of_mem hp
         exact HJ.out y hy (by rw[HM.out] at hy;omega)
       go_wp2
       go_roundw
       case rel=>exact⟨k+1,by go_num,by omega,HK2,HY⟩
       case measure=>simp[intOf];omega
    ·have HQ:Hid (chkL ls=0):=Zl8 HL.out fun l hl p hp=>by
      obtain⟨j,hj,rfl⟩:=List.getElem_of_mem hl
      exact HK.out j hj (by rw[HN.out] at hj;omega) p hp
     go_wp2
     go_ret
     exact⟨by rw[HQ.out];rfl,HB.out⟩
theorem Zlp {w:World} {u:Value} {ps:List PP} (h1:PL w u ps):LLs (w.alloc (.cells #[u] 37)) (.slice (some ⟨w.heap.size,0,none⟩) 1 1) [ps]:=by
 have hal:=(Below.refl w.heap.size w).alloc (Nat.le_refl _) (.cells #[u] 37)
 refine⟨_,1,rfl,Nat.le_refl _,by simp[maxLen],by simp,fun j hj=>?_⟩
 match j,hj with
 | 0,_=>exact⟨u,ZB _ _ _ 0 rfl,h1.after hal (Nat.le_refl _)⟩
 | j+1,h=>simp at h;try omega
theorem Zjg (n:Int) (w:World):(Instr.typeAssert (.iface 186 (.agg #[.int .i64 n])) 20 186 true).run Tryz.prog w=.ok (.tuple #[.agg #[.int .i64 n],.bool true]) w:=by kernel_rfl
theorem ZjH (w:World):(Instr.typeAssert .nilIface 20 186 true).run Tryz.prog w=.ok (.tuple #[.agg #[.int .i64 0],.bool false]) w:=by kernel_rfl
theorem Ze2 (b:Nat) (n:Int) (older:List PanicEntry) (w:World) (hc:w.heap[b]?=some (.cells #[.int .i64 0] 30 (0,0))) :
  CallsD Tryz.prog 147 #[.pointer (some ⟨b,0,none⟩)] (.panicking ({ v:=.iface 186 (.agg #[.int .i64 n]),recovered:=false }::older)) w fun e u' w'=>
   e=.returned (.tuple #[])∧u'=.panicking ({ v:=.iface 186 (.agg #[.int .i64 n]),recovered:=true }::older)∧w'=(w.setCell ⟨b,0,none⟩ (.int .i64 n)).alloc (.cells #[.int .i64 n] 186):=by
 have c0:=Za hc 0 rfl
 have f0:=Zb hc 0
 have hta:=Zjg n
 have hbl:=(Array.getElem?_eq_some_iff.1 hc).1
 have k0:(w.alloc (.cells #[.int .i64 n] 186)).cell? ⟨b,0,none⟩=some (.int .i64 0):=(Zz _ _ _ hbl).trans c0
 have k1:(w.alloc (.cells #[.int .i64 n] 186)).frozen? ⟨b,0,none⟩=false:=(ZbQ _ _ _ hbl).trans f0
 refine callsD_of_wpS Tryz.func147 rfl fun c₀ cs hu=>?_
 apply wpS_seq
 apply wpS_region
 simp[wpOpsS,go_sem,recoverD,hu,Tryz.ntmps147,Exit.thenS]
 refine wpS_of_wp ?_
 simp only[Array.replicate_succ,Array.replicate_zero,List.push_toArray,List.append_toArray,List.nil_append,List.cons_append,List.setIfInBounds_toArray,List.set_cons_zero,List.set_cons_succ]
 go_wp2
 exact⟨rfl,_,rfl,.tuple #[],by simp[results,Tryz.f147,go_sem],rfl,rfl,rfl⟩
theorem ZhR (b:Nat) (w:World) :
  CallsD Tryz.prog 147 #[.pointer (some ⟨b,0,none⟩)] .returning w fun e u' w'=>
   e=.returned (.tuple #[])∧u'=.returning∧w'=w.alloc (.cells #[.int .i64 0] 186):=by
 have hta:=ZjH
 refine callsD_of_wpS Tryz.func147 rfl fun c₀ cs hu=>?_
 apply wpS_seq
 apply wpS_region
 simp[wpOpsS,go_sem,recoverD,hu,Tryz.ntmps147,Exit.thenS]
 refine wpS_of_wp ?_
 simp only[Array.replicate_succ,Array.replicate_zero,List.push_toArray,List.append_toArray,List.nil_append,List.cons_append,List.setIfInBounds_toArray,List.set_cons_zero,List.set_cons_succ]
 go_wp2
 exact⟨rfl,.returning,by cases c₀;simp_all,.tuple #[],by simp[results,Tryz.f147,go_sem],rfl,rfl,rfl⟩
def ZkL (B:Nat) (Q:World→Prop) (R:Int→World→Prop) (e:Ending) (w':World):Prop:=
 ((e=.returned (.tuple #[])∧Q w')∨(∃ n,e=Zcz n∧R n w'))∧w'.heap[B]?=some (.cells #[.int .i64 0] 30 (0,0))
def Zkw (B:Nat) (Q:World→Prop) (R:Int→World→Prop) (e:Ending) (w':World):Prop:=
 ∃ w1 n,e=.returned (.int .i64 n)∧Keeps (fun i=>i≠B) w1 w'∧B<w1.heap.size∧((n=0∧Q w1)∨R n w1)
theorem Zj9 {f:Nat} {caps:Array Value} (hent:∀ args w,(callFunc f args).run Tryz.prog w=.ok (.enter f args) w) {Q:World→Prop} {R:Int→World→Prop} {w:World}
  (hdo:Calls Tryz.prog f caps (w.alloc (.cells #[.int .i64 0] 30)) (ZkL w.heap.size Q R)) :
  Calls Tryz.prog 95 #[.func (.func f) #[] caps] w (Zkw w.heap.size Q R):=by
 have hmf:∀ (fn:Fn) (first cap:Array Value) (w:World),(Instr.makeFunc fn first cap).run Tryz.prog w=.ok (.func fn first cap) w:=fun _ _ _ _=>rfl
 have HD:=Lib.hid hdo
 clear hdo
 go_enter_defers Tryz.func95,Tryz.ntmps95
 go_wp2_with fail
 refine HD.out.mono ?_
 rintro e w2 ⟨hE,hbox⟩
 have c0:=Za hbox 0 rfl
 have f0:=Zb hbox 0
 have HX:=Lib.hid hbox
 clear hbox
 rcases hE with ⟨rfl,hQ⟩ | ⟨n,rfl,hR⟩
 ·have HQ:=Lib.hid hQ
  clear hQ
  go_wp2
  have c1:(w2.setCell ⟨w.heap.size,0,none⟩ (.int .i64 0)).heap[w.heap.size]?=some (.cells #[.int .i64 0] 30 (0,0)):=Joins.block_setCell HX.out _
  refine leaves_cons (f:=147) (args:=#[.pointer (some ⟨w.heap.size,0,none⟩)]) (by simp) (by simp[go_sem]) ?_
  refine(ZhR w.heap.size _).mono ?_
  rintro e u' w'' ⟨rfl,rfl,rfl⟩
  have hl:w.heap.size<w2.heap.size:=(Array.getElem?_eq_some_iff.1 HX.out).1
  have hl2:w.heap.size<(w2.setCell ⟨w.heap.size,0,none⟩ (.int .i64 0)).heap.size:=(Array.getElem?_eq_some_iff.1 c1).1
  have q0:((w2.setCell ⟨w.heap.size,0,none⟩ (.int .i64 0)).alloc (.cells #[.int .i64 0] 186)).cell? ⟨w.heap.size,0,none⟩=some (.int .i64 0):=(Zz _ _ _ hl2).trans (Za c1 0 rfl)
  refine⟨.int .i64 0,by simp[results,Tryz.f95,go_sem,q0],⟨w2,0,rfl,((Keeps.refl _ w2).setCell (by simp) _).alloc _,hl,.inl ⟨rfl,HQ.out⟩⟩⟩
 ·have HR:=Lib.hid hR
  clear hR
  unfold Zcz
  refine leaves_cons (f:=147) (args:=#[.pointer (some ⟨w.heap.size,0,none⟩)]) (by simp) (by simp[go_sem]) ?_
  refine(Ze2 w.heap.size n [] _ HX.out).mono ?_
  rintro e u' w'' ⟨rfl,rfl,rfl⟩
  have c1:(w2.setCell ⟨w.heap.size,0,none⟩ (.int .i64 n)).heap[w.heap.size]?=some (.cells #[.int .i64 n] 30 (0,0)):=Joins.block_setCell HX.out _
  have hl:w.heap.size<w2.heap.size:=(Array.getElem?_eq_some_iff.1 HX.out).1
  have hl2:w.heap.size<(w2.setCell ⟨w.heap.size,0,none⟩ (.int .i64 n)).heap.size:=(Array.getElem?_eq_some_iff.1 c1).1
  have q0:((w2.setCell ⟨w.heap.size,0,none⟩ (.int .i64 n)).alloc (.cells #[.int .i64 n] 186)).cell? ⟨w.heap.size,0,none⟩=some (.int .i64 n):=(Zz _ _ _ hl2).trans (Za c1 0 rfl)
  refine⟨.int .i64 n,by simp[results,Tryz.f95,go_sem,q0],⟨w2,n,rfl,((Keeps.refl _ w2).setCell (by simp) _).alloc _,hl,.inr HR.out⟩⟩
theorem Zg.store {B:Nat} {os:List Obj} {w:World} (h:Zg B os w) (i j:Nat) {cs:Array Value} {T:TypeId} (ho:os[i]?=some (.cells cs T (0,0))) (v:Value) {b:Nat} (hb:b=B+i) :
  Zg B (os.set i (.cells (cs.setIfInBounds j v) T (0,0))) (w.setCell ⟨b,j,Option.none⟩ v):=by
 subst hb
 have hi:i<os.length:=(List.getElem?_eq_some_iff.1 ho).1
 have h0:=h.2 i _ ho
 refine⟨by rw[List.length_set];exact Nat.le_trans h.1 (by simp[World.setCell]),fun k o hk=>?_⟩
 by_cases hki:k=i
 ·subst hki
  rw[List.getElem?_set_self hi] at hk
  obtain rfl:=Option.some.inj hk
  exact Joins.block_setCell h0 v
 ·rw[List.getElem?_set_ne (Ne.symm hki)] at hk
  rw[Below.heap_setCell _ _ _ _ (by simp;omega)]
  exact h.2 k o hk
def rats (ps:List PP):List Rat:=ps.map fun p=>ratP p.1 p.2
theorem Zlw {ps:List PP} (h:∀ p ∈ ps,okP p.1 p.2=true):IsL (rats ps) ps:=by
 refine⟨by simp[rats],fun k h1 h2=>?_⟩
 simp only[rats,List.getElem_map]
 exact Zaj (h _ (List.getElem_mem h2))
theorem IsL.rats {qs:List Rat} {ps:List PP} (h:IsL qs ps):Go.Proofs.YtmpaflidennnoaaGreatDoor.rats ps=qs:=by
 refine List.ext_getElem (by simp[Go.Proofs.YtmpaflidennnoaaGreatDoor.rats,h.1]) fun k h1 h2=>?_
 simp only[Go.Proofs.YtmpaflidennnoaaGreatDoor.rats,List.getElem_map]
 exact(h.2 k h2 (by rw[← h.1];exact h2)).rat
theorem Zke {ls:List (List PP)} (h:chkL ls=0):(∀ l ∈ ls,l.length≤512)∧∀ l ∈ ls,∀ p ∈ l,okP p.1 p.2=true:=by
 unfold chkL at h
 split at h
 ·cases h
 ·rename_i h1
  split at h
  ·rename_i h2
   rw[Bool.not_eq_true,List.any_eq_false] at h1
   refine⟨fun l hl=>?_,fun l hl p hp=>?_⟩
   ·have:=h1 l hl
    simp at this;omega
   ·have:=List.all_eq_true.1 h2 l hl
    exact List.all_eq_true.1 this p hp
  ·cases h
def ZgC:Value:=.agg #[.string ⟨#[]⟩,.string ⟨#[]⟩]
theorem PL.put {w w':World} {v:Value} {us:List PP} {B:Nat} (h:Own w B v us) (hk:∀ g,B≤g→g<w.heap.size→w'.heap[g]?=w.heap[g]?):PL w' v us:=by
 refine(h.kept fun g hg hv=>hk g hg ?_).pl
 exact(World.ownsRow.lt h g hv).2
theorem Zlc {ps:List PP} (h:chkL [ps]=0):ps.length≤512∧∀ p ∈ ps,okP p.1 p.2=true:=by
 obtain⟨h1,h2⟩:=Zke h
 exact⟨h1 ps (by simp),h2 ps (by simp)⟩
theorem ZkP {ps:List PP} (hsm:ps.length≤512→∀ p ∈ ps,p.1.size≤1000000∧p.2.size≤1000000):(∀ l ∈ [ps],l.length≤512)→∀ l ∈ [ps],∀ p ∈ l,p.1.size≤1000000∧p.2.size≤1000000:=fun h l hl=>by
 have h1:=h ps (by simp)
 obtain rfl:l=ps:=by simpa using hl
 exact hsm h1
def ZbH (u:Value) (x y:ByteArray):List Obj:=[.cells #[u] 37,.cells #[.string x,.string y] 41]
def SumQ (B:Nat) (u:Value) (r:Option Rat) (w w':World):Prop:=∃ z x y,r=some z∧IsP z x y∧Zg B (ZbH u x y) w'∧Below B w w'
def SumR (B:Nat) (u:Value) (r:Option Rat) (w:World) (n:Int) (w':World):Prop:=n=4∧r=none∧Zg B (ZbH u ⟨#[]⟩ ⟨#[]⟩) w'∧Below B w w'
theorem ZkS {u:Value} {qs:List Rat} {ps:List PP} {w:World} {B E:Nat} (hq:IsL qs ps) (hu:PL w u ps) (hT:Tabs w)
  (hbox:Zg B (ZbH u ⟨#[]⟩ ⟨#[]⟩) w) (hE:w.heap[E]?=some (.cells #[.int .i64 0] 30 (0,0))) (hBE:B+2≤E) :
  Calls Tryz.prog 96 #[.pointer (some ⟨B,0,none⟩),.pointer (some ⟨B+1,0,none⟩)] w
   (ZkL E (SumQ B u (sumA 0 qs) w) (SumR B u (sumA 0 qs) w)):=by
 have HP:=Lib.hid (Zmj hq hu hT)
 obtain⟨p1,c1,rfl,_,_,_⟩:=hu
 obtain⟨n1,hn1⟩:∃ n,ps.length=n:=⟨_,rfl⟩
 rw[hn1] at HP hbox ⊢
 have HX:=Lib.hid hbox
 have HE:=Lib.hid hE
 have hEl:=(Array.getElem?_eq_some_iff.1 hE).1
 have hBl:B≤w.heap.size:=by omega
 clear hbox hE hT hq hn1
 go_enter Tryz.func96,Tryz.ntmps96
 have k0:=HX.out.cell 0 0 (b:=B) rfl rfl rfl
 go_wp2_with fail
 refine HP.out.mono ?_
 rintro e w2 ⟨hE2,hb2⟩
 have HB2:=Lib.hid hb2
 have HX2:=Lib.hid (HX.out.below hb2 HX.out.lt)
 have HE2:Hid (w2.heap[E]?=some (.cells #[.int .i64 0] 30 (0,0))):=(hb2.block E hEl).trans HE.out
 have hs2:=hb2.size
 clear hb2 k0
 rcases hE2 with ⟨z,x,y,h1,h2,rfl⟩ | ⟨h1,rfl⟩
 ·have H1:=Lib.hid (And.intro h1 h2)
  clear h1 h2
  have q0:=HX2.out.cell 1 0 (b:=B+1) rfl rfl rfl
  have q1:=HX2.out.cell 1 1 (b:=B+1) rfl rfl rfl
  have f0:=HX2.out.free 1 0 (b:=B+1) rfl rfl
  have f1:=HX2.out.free 1 1 (b:=B+1) rfl rfl
  go_wp2
  have HX7:=(HX2.out.store 1 0 (b:=B+1) rfl (.string x) rfl).store 1 1 (b:=B+1) rfl (.string y) rfl
  refine⟨rfl,.tuple #[],by simp[results,Tryz.f96,go_sem],.inl ⟨rfl,z,x,y,H1.out.1,H1.out.2,HX7,Zd (HB2.out.mono hBl) (by omega) _ _⟩,?_⟩
  exact((Below.heap_setCell _ ⟨B+1,1,none⟩ _ _ (by simp;omega)).trans (Below.heap_setCell _ ⟨B+1,0,none⟩ _ _ (by simp;omega))).trans HE2.out
 ·have HR:Hid (sumA 0 qs=none):=h1
  clear h1
  unfold Zcz
  go_wp2
  exact⟨rfl,.inr ⟨4,rfl,rfl,HR.out,HX2.out,HB2.out.mono hBl⟩,HE2.out⟩
def ZmI (ps:List PP) (w:World) (e:Ending) (w':World):Prop:=
 Below w.heap.size w w'∧((chkL [ps]≠0∧e=.returned (.tuple #[ZgC,.int .i64 (chkL [ps])]))∨
  (chkL [ps]=0∧((∃ z x y,sumA 0 (rats ps)=some z∧IsP z x y∧e=.returned (.tuple #[.agg #[.string x,.string y],.int .i64 0]))∨
   (sumA 0 (rats ps)=none∧e=.returned (.tuple #[ZgC,.int .i64 4])))))
theorem ZiI {B:Nat} {u:Value} {x0 y0:ByteArray} {w W:World} (h:Zg B (ZbH u x0 y0) W) (hb:Below B w W) (x y:ByteArray) :
  Zg B (ZbH u x y) ((W.setCell ⟨B+1,0,none⟩ (.string x)).setCell ⟨B+1,1,none⟩ (.string y))∧
  Below B w ((W.setCell ⟨B+1,0,none⟩ (.string x)).setCell ⟨B+1,1,none⟩ (.string y)):=
 ⟨(h.store 1 0 rfl (.string x) rfl).store 1 1 rfl (.string y) rfl,Zd hb (by omega) _ _⟩
theorem Zkc {u:Value} {ps:List PP} {w:World} (hu:PL w u ps) (hsm:ps.length≤512→∀ p ∈ ps,p.1.size≤1000000∧p.2.size≤1000000) (hT:Tabs w) :
  Calls Tryz.prog 41 #[u] w (ZmI ps w):=by
 have hent:=enters_of Tryz.func96 (by kernel_rfl) rfl
 have hmf:∀ (fn:Fn) (first cap:Array Value) (w:World),(Instr.makeFunc fn first cap).run Tryz.prog w=.ok (.func fn first cap) w:=fun _ _ _ _=>rfl
 obtain⟨p1,n1,c1,rfl⟩:∃ p n c,u=.slice p n c:=by obtain⟨p,c,h,_⟩:=hu;exact⟨_,_,_,h⟩
 have HU:=Lib.hid hu
 have HT:=Lib.hid hT
 have HSM:=Lib.hid hsm
 have HENT:=Lib.hid hent
 clear hu hT hsm hent
 go_enter Tryz.func41,Tryz.ntmps41
 go_wp2_with fail
 obtain⟨w1,hw1⟩:∃ w1,(w.alloc (.cells #[.slice p1 n1 c1] 37)).alloc (.cells #[.string ⟨#[]⟩,.string ⟨#[]⟩] 41)=w1:=⟨_,rfl⟩
 rw[hw1]
 have HX1:Hid (Zg w.heap.size (ZbH (.slice p1 n1 c1) ⟨#[]⟩ ⟨#[]⟩) w1):=by rw[← hw1];exact Zg.two w _ _
 have HB1:Hid (Below w.heap.size w w1):=by rw[← hw1];exact((Below.refl _ w).alloc (Nat.le_refl _) _).alloc (by simp) _
 have hsz1:w1.heap.size=w.heap.size+1+1:=by rw[← hw1];simp
 clear hw1
 have hal1:=(Below.refl w1.heap.size w1).alloc (Nat.le_refl _) (.cells #[.slice p1 n1 c1] 37)
 have HAL:=Lib.hid hal1
 clear hal1
 have hll:=Zlp (HU.out.after HB1.out (Nat.le_refl _))
 rw[hsz1] at hll
 have hck:=Zig hll (by simp) (ZkP HSM.out)
 refine hck.mono ?_
 clear hll hck hsz1
 rintro e w2 ⟨rfl,hb2⟩
 have HB2:=Lib.hid (HB1.out.trans ((HAL.out.trans (hb2.mono HAL.out.size)).mono HB1.out.size))
 have HX2:=Lib.hid ((HX1.out.alloc (.cells #[.slice p1 n1 c1] 37)).below hb2 (HX1.out.alloc _).lt)
 clear hb2
 obtain⟨c,hc⟩:∃ c,chkL [ps]=c:=⟨_,rfl⟩
 rw[hc]
 by_cases h0:c=0
 ·have hz:(c !=0)=false:=by rw[bne_eq_false_iff_eq];exact h0
  have HC:Hid (chkL [ps]=0):=by show _=_;rw[hc,h0]
  obtain⟨g1,g3⟩:=Zlc HC.out
  have HQ1:=Lib.hid (Zlw g3)
  clear h0 hc g1 g3
  go_wp2_with fail
  have hal:=(Below.refl w2.heap.size w2).alloc (Nat.le_refl _) (.cells #[.int .i64 0] 30)
  have hB3:=HB2.out.trans (hal.mono HB2.out.size)
  refine(Zj9 (w:=w2) HENT.out (ZkS (E:=w2.heap.size) HQ1.out (HU.out.after hB3 (Nat.le_refl _)) (HT.out.below hB3 (Nat.le_refl _)) (HX2.out.alloc _) (World.alloc_heap_new w2 _) HX2.out.lt)).mono ?_
  rintro e w3 ⟨w4,n,rfl,hk,hlt,hQ⟩
  clear hal
  have HW4:Hid (∃ x y,Zg w.heap.size (ZbH (.slice p1 n1 c1) x y) w4∧Below w.heap.size (w2.alloc (.cells #[.int .i64 0] 30)) w4∧
    ((∃ z,n=0∧sumA 0 (rats ps)=some z∧IsP z x y)∨(n=4∧sumA 0 (rats ps)=none∧x=⟨#[]⟩∧y=⟨#[]⟩))):=by
   rcases hQ with ⟨h1,z,x,y,h2,h3,h4,h5⟩ | ⟨h0,h1,h2,h3⟩
   ·exact⟨x,y,h4,h5,.inl ⟨z,h1,h2,h3⟩⟩
   ·exact⟨_,_,h2,h3,.inr ⟨h0,h1,rfl,rfl⟩⟩
  clear hQ
  obtain⟨x,y,hx4,hb4,hres⟩:=HW4.out
  have HX3:=Lib.hid (hx4.keeps hk (fun i hi=>by have:i<2:=hi;have:=HX2.out.lt;have h4:w.heap.size+2≤w2.heap.size:=this;omega))
  have hsz2:=HB2.out.size
  have HB3:Hid (Below w.heap.size w w3):=by
   have h5:Below w.heap.size w w4:=(HB2.out.alloc hsz2 _).trans hb4
   exact h5.trans ⟨hk.os,hk.tape,hk.output,hk.size,fun b hb=>hk.block b (by have:=h5.size;omega) (by omega)⟩
  have HO3:=Lib.hid hres
  clear hk hx4 hb4 hres hlt hB3 HW4
  have r0:=HX3.out.cell 1 0 (b:=w.heap.size+1) rfl rfl rfl
  have r1:=HX3.out.cell 1 1 (b:=w.heap.size+1) rfl rfl rfl
  have f1:=HX3.out.free 1 0 (b:=w.heap.size+1) rfl rfl
  have f2:=HX3.out.free 1 1 (b:=w.heap.size+1) rfl rfl
  go_wp2
  obtain⟨hp1,hp2⟩:=ZiI HX3.out HB3.out x y
  obtain⟨w9,hw9⟩:∃ w9,(w3.setCell ⟨w.heap.size+1,0,none⟩ (.string x)).setCell ⟨w.heap.size+1,1,none⟩ (.string y)=w9:=⟨_,rfl⟩
  rw[hw9] at hp1 hp2
  rw[hw9]
  have s1:=hp1.cell 1 0 (b:=w.heap.size+1) rfl rfl rfl
  have s2:=hp1.cell 1 1 (b:=w.heap.size+1) rfl rfl rfl
  clear r0 r1 f1 f2 hw9
  refine bodyPost_ret (v:=.tuple #[.agg #[.string x,.string y],.int .i64 n]) (by simp[results,Tryz.f41,go_sem,s1,s2]) rfl ⟨hp2,?_⟩
  refine .inr ⟨HC.out,?_⟩
  rcases HO3.out with ⟨z,h1,h2,h3⟩ | ⟨h1,h2,h3,h4⟩
  ·exact .inl ⟨z,x,y,h2,h3,by rw[h1]⟩
  ·exact .inr ⟨h2,by rw[h1,h3,h4];rfl⟩
 ·have hz:(c !=0)=true:=by rw[bne_iff_ne];exact h0
  have HC:Hid (chkL [ps]=c∧c≠0):=⟨hc,h0⟩
  clear h0 hc
  have r0:=HX2.out.cell 1 0 (b:=w.heap.size+1) rfl rfl rfl
  have r1:=HX2.out.cell 1 1 (b:=w.heap.size+1) rfl rfl rfl
  have f1:=HX2.out.free 1 0 (b:=w.heap.size+1) rfl rfl
  have f2:=HX2.out.free 1 1 (b:=w.heap.size+1) rfl rfl
  go_wp2
  obtain⟨hp1,hp2⟩:=ZiI HX2.out HB2.out ⟨#[]⟩ ⟨#[]⟩
  obtain⟨w9,hw9⟩:∃ w9,(w2.setCell ⟨w.heap.size+1,0,none⟩ (.string ⟨#[]⟩)).setCell ⟨w.heap.size+1,1,none⟩ (.string ⟨#[]⟩)=w9:=⟨_,rfl⟩
  rw[hw9] at hp1 hp2
  rw[hw9]
  have s1:=hp1.cell 1 0 (b:=w.heap.size+1) rfl rfl rfl
  have s2:=hp1.cell 1 1 (b:=w.heap.size+1) rfl rfl rfl
  clear r0 r1 f1 f2 hw9
  refine bodyPost_ret (v:=.tuple #[.agg #[.string ⟨#[]⟩,.string ⟨#[]⟩],.int .i64 c]) (by simp[results,Tryz.f41,go_sem,s1,s2]) rfl ⟨hp2,?_⟩
  exact .inl ⟨by rw[HC.out.1];exact HC.out.2,by rw[HC.out.1];rfl⟩
end Go.Proofs.YtmpaflidennnoaaGreatDoor
