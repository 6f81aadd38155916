/- The parts Mixed, Products, Errors, Tried, Steps, Update, Updated, PubSum. -/
import Derived.Test.YtjmckebecpjjfaaGreatDoorH09
set_option maxRecDepth 100000
set_option maxHeartbeats 4000000
set_option linter.unusedVariables false
set_option linter.unusedSimpArgs false
namespace Go.Proofs.YtjmckebecpjjfaaGreatDoor
open Go.RowKit Go.Shelf
section
variable {P:Program} {ops:Array Oper} {Q:Exit->Act->World->Prop} {md:Region.Mode} {S:World->Prop} {bar:Nat->Bool}
def mixed (P:Program) (ops:Array Oper) (Q:Exit->Act->World->Prop) (S:World->Prop) (bar:Nat->Bool):List Bool->Nat->List Oper->Act->World->Prop
 | true::ks,k,o::l,a,w=>∃ v,YieldsIf P ops S o v a/\mixed P ops Q S bar ks (k+1) l (a.put o.dst v) w
 | false::ks,k,o::l,a,w=>(if Region.wanted o (yielded ops a.tmps) then o.wp P a w (fun a' w'=>(bar k=true\/S w')/\mixed P ops Q S bar ks (k+1) l a' w') Q
   else (bar k=true\/S w)/\mixed P ops Q S bar ks (k+1) l (a.put o.dst undef) w)
 | _,_,_,a,w=>Q .normal a w
end
def LLs (w:World) (v:Value) (ls:List (List PP)):Prop:=
 ∃ b cap,v=.slice (some ⟨b,0,none⟩) ls.length cap/\ls.length<=cap/\cap<=maxLen/\b<w.heap.size/\∀ j (h:j<ls.length),∃ u,w.cell? ⟨b,j,none⟩=some u/\PL w u ls[j]
theorem LLs.after {w w':World} {v:Value} {ls:List (List PP)} {B:Nat} (h:LLs w v ls) (hb:Below B w w') (hB:w.heap.size<=B):LLs w' v ls:=by
 obtain⟨b,cap,h1,h2,h3,h4,h5⟩:=h
 refine⟨b,cap,h1,h2,h3,Zp2 h4 hb.size,fun j hj=>?_⟩
 obtain⟨u,h6,h7⟩:=h5 j hj
 exact⟨u,(hb.cell (p:=⟨b,j,none⟩) (by show b<B;omega)).trans h6,h7.after hb hB⟩
def chkL (ls:List (List PP)):Int:=if ls.any (fun l=>decide (512<l.length)) then 3 else if ls.all (fun l=>l.all fun p=>okP p.1 p.2) then 0 else 2
theorem Zmz {ls:List (List PP)} {l:List PP} (h:l ∈ ls) (hl:512<l.length):chkL ls=3:=by
 unfold chkL
 rw[if_pos]
 exact List.any_eq_true.2 ⟨l,h,by simpa using hl⟩
theorem Zoz {ls:List (List PP)} (hs:∀ l ∈ ls,l.length<=512) {l:List PP} (h:l ∈ ls) {p:PP} (hp:p ∈ l) (hb:okP p.1 p.2=false):chkL ls=2:=by
 unfold chkL
 rw[if_neg,if_neg]
 ·rw[Bool.not_eq_true,List.all_eq_false]
  exact⟨l,h,by rw[Bool.not_eq_true,List.all_eq_false];exact⟨p,hp,by simp[hb]⟩⟩
 ·rw[Bool.not_eq_true,List.any_eq_false]
  intro l hl
  have:=hs l hl
  simp;omega
theorem Zh2 {ls:List (List PP)} (hs:∀ l ∈ ls,l.length<=512) (h:∀ l ∈ ls,∀ p ∈ l,okP p.1 p.2=true):chkL ls=0:=by
 unfold chkL
 rw[if_neg,if_pos]
 ·exact Zqw.2 fun l hl=>Zqw.2 fun p hp=>h l hl p hp
 ·rw[Bool.not_eq_true,List.any_eq_false]
  intro l hl
  have:=hs l hl
  simp;omega
theorem Zf7 {v:Value} {ls:List (List PP)} {w:World} (hv:LLs w v ls) (hn:ls.length<=1000) (hsm:(∀ l ∈ ls,l.length<=512)->∀ l ∈ ls,∀ p ∈ l,p.1.size<=1000000/\p.2.size<=1000000) :
  Calls Tryz.prog 134 #[v] w (ZfZ w (chkL ls)):=by
 obtain⟨b,cap,rfl,hcap,hmax,hbl,hat⟩:=hv
 obtain⟨n,hn'⟩:=ZqJ ls.length
 rw[hn'] at hcap hn ⊢
 unfold maxLen at hmax
 have HN:=ZqH hn'
 have HA:=ZqH hat
 have HS:=ZqH hsm
 clear hn' hat hsm
 go_enter Tryz.func134,Tryz.ntmps134
 go_wp2
 go_loopw [12] (fun i wr=>∃ (k:Nat),i=.int .i64 k/\k<=n/\Hid (∀ j (h:j<ls.length),j<k->ls[j].length<=512)/\wr=w) (fun i _=>n-(intOf i).toNat)
 case atStart=>exact⟨0,rfl,Zp8 _,fun j _ h=>Za,rfl⟩
 case round=>
  obtain⟨k,rfl,hk,HK,rfl⟩:=hrel
  by_cases hlt:k<n
  ·have hkl:k<ls.length:=by rw[HN.out];exact hlt
   obtain⟨u,hc,hpl⟩:=HA.out k hkl
   obtain⟨q,qc,rfl,_,_,_⟩:=hpl
   obtain⟨m,hm⟩:=ZqJ (ls[k].length)
   rw[hm] at hc
   have HM:=ZqH hm
   clear hm
   by_cases hg:512<m
   ·have hg':(512:Int)<(m:Nat):=Za
    have HQ:Hid (chkL ls=3):=Zmz (Zqm hkl) (by rw[HM.out];exact hg)
    go_wp2
    go_ret
    exact⟨by rw[HQ.out];rfl,ZpV _ _⟩
   ·have hg':¬ (512:Int)<(m:Nat):=Za
    have HK2:Hid (∀ j (h:j<ls.length),j<k+1->ls[j].length<=512):=fun j h1 h2=>by
     rcases Zp1 j k with h3 | h3
     ·exact HK.out j h1 h3
     ·obtain rfl:j=k:=Za
      rw[HM.out];omega
    go_wp2
    go_roundw
    case rel=>exact⟨k+1,by go_num,Za,HK2,by first | rfl | trivial⟩
    case measure=>exact Zj
  ·have HL:Hid (∀ l ∈ ls,l.length<=512):=fun l hl=>by
    obtain⟨j,hj,rfl⟩:=List.getElem_of_mem hl
    exact HK.out j hj (by rw[HN.out] at hj;omega)
   clear HK
   go_wp2
   obtain⟨w0,rfl⟩:∃ w0:World,w0=wr:=⟨_,rfl⟩
   go_loopw [22] (fun i wx=>∃ (k:Nat),i=.int .i64 k/\k<=n/\Hid (∀ j (h:j<ls.length),j<k->∀ p ∈ ls[j],okP p.1 p.2=true)/\ZqB w0 wx) (fun i _=>n-(intOf i).toNat)
   case atStart=>exact⟨0,rfl,Zp8 _,fun j _ h=>Za,ZpV _ _⟩
   case round=>
    obtain⟨k,rfl,hk,HK,HB⟩:=hrel
    obtain⟨wx,rfl⟩:∃ wx:World,wx=wr:=⟨_,rfl⟩
    by_cases hlt:k<n
    ·have hkl:k<ls.length:=by rw[HN.out];exact hlt
     obtain⟨u,hc,hpl⟩:=HA.out k hkl
     obtain⟨m,hm⟩:=ZqJ (ls[k].length)
     obtain⟨q,qc,rfl,hqc,hqm,hq⟩:=hpl
     rw[hm] at hc hqc
     have hc':=(HB.out.cell (p:=⟨b,k,none⟩) hbl).trans hc
     have HQ:=ZqH hq
     have HM:=ZqH hm
     have hm512:m<=512:=by rw[<- hm];exact HL.out _ (Zqm hkl)
     clear hm hq hc
     go_wp2
     go_loopw [28] (fun i wy=>∃ (j:Nat),i=.int .i64 j/\j<=m/\Hid (∀ z (h:z<ls[k].length),z<j->okP ls[k][z].1 ls[k][z].2=true)/\ZqB w0 wy) (fun i _=>m-(intOf i).toNat)
     case atStart=>exact⟨0,rfl,Zp8 _,fun j _ h=>Za,HB⟩
     case round=>
      obtain⟨j,rfl,hj,HJ,HY⟩:=hrel
      obtain⟨wy,rfl⟩:∃ wy:World,wy=wr:=⟨_,rfl⟩
      by_cases hjm:j<m
      ·have hjl:j<ls[k].length:=by rw[HM.out];exact hjm
       obtain⟨bb,off,rfl,hbb,hat⟩:=HQ.out (Zp3 Za)
       obtain⟨e0,e1⟩:=(hat.below HY.out hbb) j hjl
       obtain⟨hz1,hz2⟩:=HS.out HL.out _ (Zqm hkl) _ (Zqm hjl)
       obtain⟨s,hs⟩:=ZqJ (ls[k][j].1)
       obtain⟨t,ht⟩:=ZqJ (ls[k][j].2)
       have HOK:Hid (okP ls[k][j].1 ls[k][j].2=okP s t):=by show _=_;rw[hs,ht]
       rw[hs] at e0 hz1
       rw[ht] at e1 hz2
       clear hat hs ht
       go_wp2_with fail
       have hal:=(ZpV wy.heap.size wy).alloc ZqI (ZqF s t)
       refine(Zbd s t _ hz1 hz2).mono ?_
       rintro e w5 ⟨rfl,hb5⟩
       have HB5:=ZqH (HY.out.trans ((hal.trans (hb5.mono Zc)).mono HY.out.size))
       clear hb5 hal e0 e1
       cases ho:okP s t
       ·have HE:=ZqH (Zb9 ho)
        have HC:Hid (chkL ls=2):=Zoz HL.out (Zqm hkl) (Zqm hjl) (by rw[HOK.out];exact ho)
        clear ho
        rw[HE.out]
        go_wp2
        go_ret
        exact⟨by rw[HC.out];rfl,HB5.out⟩
       ·have HE:=ZqH (ZcJ ho)
        have HJ2:Hid (∀ z (h:z<ls[k].length),z<j+1->okP ls[k][z].1 ls[k][z].2=true):=fun z h1 h2=>by
         rcases Zp1 z j with h3 | h3
         ·exact HJ.out z h1 h3
         ·obtain rfl:z=j:=Za
          rw[HOK.out];exact ho
        clear ho
        rw[HE.out]
        go_wp2
        go_roundw
        case rel=>exact⟨j+1,by go_num,Za,HJ2,HB5⟩
        case measure=>exact Zj
      ·have HK2:Hid (∀ z (h:z<ls.length),z<k+1->∀ p ∈ ls[z],okP p.1 p.2=true):=fun z h1 h2 p hp=>by
        rcases Zp1 z k with h3 | h3
        ·exact HK.out z h1 h3 p hp
        ·obtain rfl:z=k:=Za
         obtain⟨y,hy,rfl⟩:=List.getElem_of_mem hp
         exact HJ.out y hy (by rw[HM.out] at hy;omega)
       go_wp2
       go_roundw
       case rel=>exact⟨k+1,by go_num,Za,HK2,HY⟩
       case measure=>exact Zj
    ·have HQ:Hid (chkL ls=0):=Zh2 HL.out fun l hl p hp=>by
      obtain⟨j,hj,rfl⟩:=List.getElem_of_mem hl
      exact HK.out j hj (by rw[HN.out] at hj;omega) p hp
     go_wp2
     go_ret
     exact⟨by rw[HQ.out];rfl,HB.out⟩
theorem Zjt {w:World} {u:Value} {ps:List PP} (h1:PL w u ps):LLs (w.alloc (.cells #[u] 154)) (.slice (some ⟨w.heap.size,0,none⟩) 1 1) [ps]:=by
 have hal:=(ZpV w.heap.size w).alloc ZqI (.cells #[u] 154)
 refine⟨_,1,rfl,Nat.le_refl _,by simp[maxLen],Zc,fun j hj=>?_⟩
 match j,hj with
 | 0,_=>exact⟨u,ZP _ _ _ 0 rfl,h1.after hal ZqI⟩
 | j+1,h=>simp at h;try omega
theorem Zl9 (n:Int) (w:World):(Instr.typeAssert (.iface 252 (.agg #[.int .i64 n])) 20 252 true).run Tryz.prog w=.ok (.tuple #[.agg #[.int .i64 n],.bool true]) w:=Zb
theorem Zmk (w:World):(Instr.typeAssert .nilIface 20 252 true).run Tryz.prog w=.ok (.tuple #[.agg #[.int .i64 0],.bool false]) w:=Zb
theorem ZgK (b:Nat) (n:Int) (older:List PanicEntry) (w:World) (hc:w.heap[b]?=some (.cells #[.int .i64 0] 34 (0,0))) :
  CallsD Tryz.prog 171 #[.pointer (some ⟨b,0,none⟩)] (.panicking ({ v:=.iface 252 (.agg #[.int .i64 n]),recovered:=false }::older)) w fun e u' w'=>
   e=.returned (.tuple #[])/\u'=.panicking ({ v:=.iface 252 (.agg #[.int .i64 n]),recovered:=true }::older)/\w'=(w.setCell ⟨b,0,none⟩ (.int .i64 n)).alloc (.cells #[.int .i64 n] 252):=by
 have c0:=Zn hc 0 rfl
 have f0:=Zo hc 0
 have hta:=Zl9 n
 have hbl:=(ZqC hc)
 have k0:(w.alloc (.cells #[.int .i64 n] 252)).cell? ⟨b,0,none⟩=some (.int .i64 0):=(Z8 _ _ _ hbl).trans c0
 have k1:(w.alloc (.cells #[.int .i64 n] 252)).frozen? ⟨b,0,none⟩=false:=(ZcL _ _ _ hbl).trans f0
 refine callsD_of_wpS Tryz.func171 rfl fun c₀ cs hu=>?_
 apply wpS_seq
 apply wpS_region
 simp[wpOpsS,go_sem,recoverD,hu,Tryz.ntmps171,Exit.thenS]
 refine wpS_of_wp ?_
 simp only[Array.replicate_succ,Array.replicate_zero,List.push_toArray,List.append_toArray,ZqA,List.cons_append,List.setIfInBounds_toArray,List.set_cons_zero,List.set_cons_succ]
 go_wp2
 exact⟨rfl,_,rfl,.tuple #[],by simp[results,Tryz.f171,go_sem],rfl,rfl,rfl⟩
theorem ZkS (b:Nat) (w:World) :
  CallsD Tryz.prog 171 #[.pointer (some ⟨b,0,none⟩)] .returning w fun e u' w'=>
   e=.returned (.tuple #[])/\u'=.returning/\w'=w.alloc (.cells #[.int .i64 0] 252):=by
 have hta:=Zmk
 refine callsD_of_wpS Tryz.func171 rfl fun c₀ cs hu=>?_
 apply wpS_seq
 apply wpS_region
 simp[wpOpsS,go_sem,recoverD,hu,Tryz.ntmps171,Exit.thenS]
 refine wpS_of_wp ?_
 simp only[Array.replicate_succ,Array.replicate_zero,List.push_toArray,List.append_toArray,ZqA,List.cons_append,List.setIfInBounds_toArray,List.set_cons_zero,List.set_cons_succ]
 go_wp2
 exact⟨rfl,.returning,by cases c₀;simp_all,.tuple #[],by simp[results,Tryz.f171,go_sem],rfl,rfl,rfl⟩
def ZjC (B:Nat) (Q:World->Prop) (R:Int->World->Prop) (e:Ending) (w':World):Prop:=
 ((e=.returned (.tuple #[])/\Q w')\/(∃ n,e=ZbY n/\R n w'))/\w'.heap[B]?=some (.cells #[.int .i64 0] 34 (0,0))
def ZmV (B:Nat) (Q:World->Prop) (R:Int->World->Prop) (e:Ending) (w':World):Prop:=
 ∃ w1 n,e=.returned (.int .i64 n)/\Keeps (fun i=>i≠B) w1 w'/\B<w1.heap.size/\((n=0/\Q w1)\/R n w1)
theorem Zik {f:Nat} {caps:Array Value} (hent:∀ args w,(callFunc f args).run Tryz.prog w=.ok (.enter f args) w) {Q:World->Prop} {R:Int->World->Prop} {w:World}
  (hdo:Calls Tryz.prog f caps (w.alloc (.cells #[.int .i64 0] 34)) (ZjC w.heap.size Q R)) :
  Calls Tryz.prog 135 #[.func (.func f) #[] caps] w (ZmV w.heap.size Q R):=by
 have hmf:∀ (fn:Fn) (first cap:Array Value) (w:World),(Instr.makeFunc fn first cap).run Tryz.prog w=.ok (.func fn first cap) w:=fun _ _ _ _=>rfl
 have HD:=ZqH hdo
 clear hdo
 go_enter_defers Tryz.func135,Tryz.ntmps135
 go_wp2_with fail
 refine HD.out.mono ?_
 rintro e w2 ⟨hE,hbox⟩
 have c0:=Zn hbox 0 rfl
 have f0:=Zo hbox 0
 have HX:=ZqH hbox
 clear hbox
 rcases hE with ⟨rfl,hQ⟩ | ⟨n,rfl,hR⟩
 ·have HQ:=ZqH hQ
  clear hQ
  go_wp2
  have c1:(w2.setCell ⟨w.heap.size,0,none⟩ (.int .i64 0)).heap[w.heap.size]?=some (.cells #[.int .i64 0] 34 (0,0)):=Zp0 HX.out _
  refine leaves_cons (f:=171) (args:=#[.pointer (some ⟨w.heap.size,0,none⟩)]) Zc (by simp[go_sem]) ?_
  refine(ZkS w.heap.size _).mono ?_
  rintro e u' w'' ⟨rfl,rfl,rfl⟩
  have hl:w.heap.size<w2.heap.size:=(ZqC HX.out)
  have hl2:w.heap.size<(w2.setCell ⟨w.heap.size,0,none⟩ (.int .i64 0)).heap.size:=(ZqC c1)
  have q0:((w2.setCell ⟨w.heap.size,0,none⟩ (.int .i64 0)).alloc (.cells #[.int .i64 0] 252)).cell? ⟨w.heap.size,0,none⟩=some (.int .i64 0):=(Z8 _ _ _ hl2).trans (Zn c1 0 rfl)
  refine⟨.int .i64 0,by simp[results,Tryz.f135,go_sem,q0],⟨w2,0,rfl,((Keeps.refl _ w2).setCell Zc _).alloc _,hl,.inl ⟨rfl,HQ.out⟩⟩⟩
 ·have HR:=ZqH hR
  clear hR
  unfold ZbY
  refine leaves_cons (f:=171) (args:=#[.pointer (some ⟨w.heap.size,0,none⟩)]) Zc (by simp[go_sem]) ?_
  refine(ZgK w.heap.size n [] _ HX.out).mono ?_
  rintro e u' w'' ⟨rfl,rfl,rfl⟩
  have c1:(w2.setCell ⟨w.heap.size,0,none⟩ (.int .i64 n)).heap[w.heap.size]?=some (.cells #[.int .i64 n] 34 (0,0)):=Zp0 HX.out _
  have hl:w.heap.size<w2.heap.size:=(ZqC HX.out)
  have hl2:w.heap.size<(w2.setCell ⟨w.heap.size,0,none⟩ (.int .i64 n)).heap.size:=(ZqC c1)
  have q0:((w2.setCell ⟨w.heap.size,0,none⟩ (.int .i64 n)).alloc (.cells #[.int .i64 n] 252)).cell? ⟨w.heap.size,0,none⟩=some (.int .i64 n):=(Z8 _ _ _ hl2).trans (Zn c1 0 rfl)
  refine⟨.int .i64 n,by simp[results,Tryz.f135,go_sem,q0],⟨w2,n,rfl,((Keeps.refl _ w2).setCell Zc _).alloc _,hl,.inr HR.out⟩⟩
section
variable {P:Program} {ops:Array Oper} {Q:Exit->Act->World->Prop} {md:Region.Mode} {S:World->Prop} {bar:Nat->Bool}
def steps (P:Program) (ops:Array Oper) (Q:Exit->Act->World->Prop) (S:World->Prop) (bar:Nat->Bool):List (Bool×Nat)->Act->World->Prop
 | [],a,w=>Q .normal a w
 | (true,i)::ks,a,w=>∃ o v,ops[i]?=some o/\YieldsIf P ops S o v a/\steps P ops Q S bar ks (a.put o.dst v) w
 | (false,i)::ks,a,w=>∃ o,ops[i]?=some o/\(if Region.wanted o (yielded ops a.tmps) then o.wp P a w (fun a' w'=>(bar i=true\/S w')/\steps P ops Q S bar ks a' w') Q
   else (bar i=true\/S w)/\steps P ops Q S bar ks (a.put o.dst undef) w)
def Zed (md:Region.Mode) (ops:Array Oper) (bar:Nat->Bool):List (Bool×Nat)->Array Bool->Bool
 | [],listed=>decide (Region.ready md ops listed=[])
 | (true,k)::ks,listed=>(Region.ready md ops listed).contains k && Region.free md ops listed k && !bar k && ((List.range ops.size).all fun j=>!bar j || decide (j=k) || Region.waitsFor md ops j k) && Zed md ops bar ks (listed.setIfInBounds k true)
 | (false,k)::ks,listed=>decide (Region.ready md ops listed=[k]) && (!bar k || ks.all fun b=>!b.1) && Zed md ops bar ks (listed.setIfInBounds k true)
theorem ZdF (hsel:Region.noSelect ops=true) (hQ:∀ c a o v w,Q (.panic c) (a.put o v) w->Q (.panic c) a w) (hbo:∀ j,ops.size<=j->bar j=false) :
  ∀ (ks:List (Bool×Nat)) (listed:Array Bool) (a:Act) (w:World),Zed md ops bar ks listed=true->
   (S w\/ks.all (fun b=>!b.1)=true)->steps P ops Q S bar ks a w->wpJ P md ops Q S bar ks.length listed a w
 | [],listed,a,w,hB,_,h=>⟨of_decide_eq_true hB,h⟩
 | (true,k)::ks,listed,a,w,hB,hS,h=>by
  simp only[Zed,Zqt] at hB
  obtain⟨⟨⟨⟨hr,hf⟩,hbk⟩,hw⟩,hB'⟩:=hB
  have hSw:S w:=by
   rcases hS with hS | hS
   ·exact hS
   ·simp at hS
  obtain⟨o,v,h0,hy,hrest⟩:=h
  have hbk':bar k=false:=by simpa using hbk
  have hwait:Zi9 md ops bar k:=fun j hj hne=>by
   have hjl:j<ops.size:=by
    rcases Zp1 j ops.size with h' | h'
    ·exact h'
    ·rw[hbo j h'] at hj;cases hj
   rw[Zqw] at hw
   have:=hw j (List.mem_range.2 hjl)
   rw[hj] at this
   simpa[hne] using this
  have ih:=ZdF hsel hQ hbo ks (listed.setIfInBounds k true) (a.put o.dst v) w hB' (.inl hSw) hrest
  rw[Zqv]
  exact Zfy h0 hsel (fun c a w=>hQ c a o.dst v w) hwait hbk' ks.length listed a w (Region.free_spec h0 hf) (by simpa using hr) hy hSw ih
 | (false,k)::ks,listed,a,w,hB,hS,h=>by
  simp only[Zed,Zqt,Zqu] at hB
  obtain⟨⟨hr,hbk⟩,hB'⟩:=hB
  obtain⟨o,h0,h⟩:=h
  refine⟨fun h1=>(by rw[hr] at h1;cases h1),fun i hi=>?_⟩
  rw[hr] at hi
  obtain rfl:i=k:=by simpa using hi
  have ih:=fun a' w' (hs:bar i=true\/S w') h'=>ZdF hsel hQ hbo ks (listed.setIfInBounds i true) a' w' hB' (by
   rcases hs with hs | hs
   ·rw[hs] at hbk
    exact .inr (by simpa using hbk)
   ·exact .inl hs) h'
  unfold wpOp
  simp only[h0]
  split at h
  ·rename_i hw;simp only[hw,if_true];exact .inl (Oper.wp_mono (fun a' w' h'=>⟨h'.1,ih a' w' h'.1 h'.2⟩) h)
  ·rename_i hw;simp only[hw];exact⟨h.1,ih _ _ h.1 h.2⟩
def Zia (l:List Oper) (ks:List (Bool×Nat)) (bar:Nat->Bool):Bool:=
 Region.noSelect l.toArray && decide (ks.length=l.length) && Zed .any l.toArray bar ks (Array.replicate l.toArray.size false) && ZdB l.toArray
theorem ZjW {l:List Oper} (ks:List (Bool×Nat)) (S:World->Prop) (bar:Nat->Bool) (hB:Zia l ks bar=true) (hbo:∀ j,l.length<=j->bar j=false) (hQ:∀ c a o v w,Q (.panic c) (a.put o v) w->Q (.panic c) a w) {a:Act} {w:World} (hS:S w)
  (H:steps P l.toArray Q S bar ks a w):wpAny P .any l.toArray Q l.toArray.size (Array.replicate l.toArray.size false) a w:=by
 simp only[Zia,Zqt,Zqu] at hB
 obtain⟨⟨⟨hsel,hn⟩,hm⟩,_⟩:=hB
 have:=ZbN _ _ _ _ (ZdF hsel hQ (fun j hj=>hbo j (by simpa using hj)) ks _ a w hm (.inl hS) H)
 rw[hn] at this
 simpa using this
theorem Zkt {id:Nat} {a:Act} {w:World} {l:List Oper} (ks:List (Bool×Nat)) (S:World->Prop) (bar:Nat->Bool) (hm:P.follows .mixedOrders=true)
  (hB:Zia l ks bar=true) (hbo:∀ j,l.length<=j->bar j=false) (hQ:∀ c a o v w,Q (.panic c) (a.put o v) w->Q (.panic c) a w) (hS:S w.drew)
  (H:steps P l.toArray Q S bar ks a w.drew):(Code.region id l.toArray true).wp P Q a w:=
 wp_region_any hm (ZjW ks S bar hB hbo hQ hS H)
theorem ZlB {i:Nat} {o:Oper} {ks:List (Bool×Nat)} {a:Act} {w:World} (v:Value) (ho:ops[i]?=some o) (hw:Region.wanted o (yielded ops a.tmps)=true) (hv:∀ w,S w->(execOp a.eval o).run P w=.ok (.value v) w)
  (h:steps P ops Q S bar ks (a.put o.dst v) w):steps P ops Q S bar ((true,i)::ks) a w:=⟨o,v,ho,.inl ⟨hw,hv⟩,h⟩
theorem Zd6 {i:Nat} {o:Oper} {ks:List (Bool×Nat)} {a:Act} {w:World} (ho:ops[i]?=some o) (hw:Region.wanted o (yielded ops a.tmps)=true)
  (h:∀ K:Act->World->Prop,(∀ a' w',(bar i=true\/S w')->steps P ops Q S bar ks a' w'->K a' w')->o.wp P a w K Q):steps P ops Q S bar ((false,i)::ks) a w:=by
 refine⟨o,ho,?_⟩
 rw[if_pos hw]
 exact h _ fun _ _ h1 h2=>⟨h1,h2⟩
theorem ZmQ {a:Act} {w:World} (h:Q .normal a w):steps P ops Q S bar [] a w:=h
end
theorem Zu.store {B:Nat} {os:List Obj} {w:World} (h:Zu B os w) (i j:Nat) {cs:Array Value} {T:TypeId} (ho:os[i]?=some (.cells cs T (0,0))) (v:Value) {b:Nat} (hb:b=B+i) :
  Zu B (os.set i (.cells (cs.setIfInBounds j v) T (0,0))) (w.setCell ⟨b,j,Option.none⟩ v):=by
 subst hb
 have hi:i<os.length:=(Zqj.1 ho).1
 have h0:=h.2 i _ ho
 refine⟨by rw[List.length_set];exact Zp4 h.1 (by simp[World.setCell]),fun k o hk=>?_⟩
 by_cases hki:k=i
 ·subst hki
  rw[List.getElem?_set_self hi] at hk
  obtain rfl:=ZpZ hk
  exact Zp0 h0 v
 ·rw[List.getElem?_set_ne (Ne.symm hki)] at hk
  rw[ZpX _ _ _ _ (by simp;omega)]
  exact h.2 k o hk
def rats (ps:List PP):List Rat:=ps.map fun p=>ratP p.1 p.2
theorem Zj5 {ps:List PP} (h:∀ p ∈ ps,okP p.1 p.2=true):IsL (rats ps) ps:=by
 refine⟨by simp[rats],fun k h1 h2=>?_⟩
 simp only[rats,List.getElem_map]
 exact Zb8 (h _ (Zqm h2))
theorem IsL.rats {qs:List Rat} {ps:List PP} (h:IsL qs ps):Go.Proofs.YtjmckebecpjjfaaGreatDoor.rats ps=qs:=by
 refine List.ext_getElem (by simp[Go.Proofs.YtjmckebecpjjfaaGreatDoor.rats,h.1]) fun k h1 h2=>?_
 simp only[Go.Proofs.YtjmckebecpjjfaaGreatDoor.rats,List.getElem_map]
 exact(h.2 k h2 (by rw[<- h.1];exact h2)).rat
theorem Znr {ls:List (List PP)} (h:chkL ls=0):(∀ l ∈ ls,l.length<=512)/\∀ l ∈ ls,∀ p ∈ l,okP p.1 p.2=true:=by
 unfold chkL at h
 split at h
 ·cases h
 ·rename_i h1
  split at h
  ·rename_i h2
   rw[Bool.not_eq_true,List.any_eq_false] at h1
   refine⟨fun l hl=>?_,fun l hl p hp=>?_⟩
   ·have:=h1 l hl
    simp at this;omega
   ·have:=Zqw.1 h2 l hl
    exact Zqw.1 this p hp
  ·cases h
def ZfD:Value:=ZqE ZqD ZqD
theorem PL.put {w w':World} {v:Value} {us:List PP} {B:Nat} (h:Own w B v us) (hk:∀ g,B<=g->g<w.heap.size->w'.heap[g]?=w.heap[g]?):PL w' v us:=by
 refine(h.kept fun g hg hv=>hk g hg ?_).pl
 exact(Zp9 h g hv).2
theorem ZjZ {ps:List PP} (h:chkL [ps]=0):ps.length<=512/\∀ p ∈ ps,okP p.1 p.2=true:=by
 obtain⟨h1,h2⟩:=Znr h
 exact⟨h1 ps Zc,h2 ps Zc⟩
theorem Zix {ps:List PP} (hsm:ps.length<=512->∀ p ∈ ps,p.1.size<=1000000/\p.2.size<=1000000):(∀ l ∈ [ps],l.length<=512)->∀ l ∈ [ps],∀ p ∈ l,p.1.size<=1000000/\p.2.size<=1000000:=fun h l hl=>by
 have h1:=h ps Zc
 obtain rfl:l=ps:=by simpa using hl
 exact hsm h1
def ZcE (u:Value) (x y:ByteArray):List Obj:=[.cells #[u] 154,ZqF x y]
def SumQ (B:Nat) (u:Value) (r:Option Rat) (w w':World):Prop:=∃ z x y,r=some z/\IsP z x y/\Zu B (ZcE u x y) w'/\Below B w w'
def SumR (B:Nat) (u:Value) (r:Option Rat) (w:World) (n:Int) (w':World):Prop:=n=4/\r=none/\Zu B (ZcE u ZqD ZqD) w'/\Below B w w'
theorem ZnK {u:Value} {qs:List Rat} {ps:List PP} {w:World} {B E:Nat} (hq:IsL qs ps) (hu:PL w u ps) (hT:Tabs w)
  (hbox:Zu B (ZcE u ZqD ZqD) w) (hE:w.heap[E]?=some (.cells #[.int .i64 0] 34 (0,0))) (hBE:B+2<=E) :
  Calls Tryz.prog 170 #[.pointer (some ⟨B,0,none⟩),.pointer (some ⟨B+1,0,none⟩)] w
   (ZjC E (SumQ B u (sumA 0 qs) w) (SumR B u (sumA 0 qs) w)):=by
 have HP:=ZqH (Zk8 hq hu hT)
 obtain⟨p1,c1,rfl,_,_,_⟩:=hu
 obtain⟨n1,hn1⟩:=ZqJ ps.length
 rw[hn1] at HP hbox ⊢
 have HX:=ZqH hbox
 have HE:=ZqH hE
 have hEl:=(ZqC hE)
 have hBl:B<=w.heap.size:=Za
 clear hbox hE hT hq hn1
 go_enter Tryz.func170,Tryz.ntmps170
 have k0:=HX.out.cell 0 0 (b:=B) rfl rfl rfl
 go_wp2_with fail
 refine HP.out.mono ?_
 rintro e w2 ⟨hE2,hb2⟩
 have HB2:=ZqH hb2
 have HX2:=ZqH (HX.out.below hb2 HX.out.lt)
 have HE2:Hid (w2.heap[E]?=some (.cells #[.int .i64 0] 34 (0,0))):=(hb2.block E hEl).trans HE.out
 have hs2:=hb2.size
 clear hb2 k0
 rcases hE2 with ⟨z,x,y,h1,h2,rfl⟩ | ⟨h1,rfl⟩
 ·have H1:=ZqH (Zqy h1 h2)
  clear h1 h2
  have q0:=HX2.out.cell 1 0 (b:=B+1) rfl rfl rfl
  have q1:=HX2.out.cell 1 1 (b:=B+1) rfl rfl rfl
  have f0:=HX2.out.free 1 0 (b:=B+1) rfl rfl
  have f1:=HX2.out.free 1 1 (b:=B+1) rfl rfl
  go_wp2
  have HX7:=(HX2.out.store 1 0 (b:=B+1) rfl (.string x) rfl).store 1 1 (b:=B+1) rfl (.string y) rfl
  refine⟨rfl,.tuple #[],by simp[results,Tryz.f170,go_sem],.inl ⟨rfl,z,x,y,H1.out.1,H1.out.2,HX7,Zy (HB2.out.mono hBl) Za _ _⟩,?_⟩
  exact((ZpX _ ⟨B+1,1,none⟩ _ _ (by simp;omega)).trans (ZpX _ ⟨B+1,0,none⟩ _ _ (by simp;omega))).trans HE2.out
 ·have HR:Hid (sumA 0 qs=none):=h1
  clear h1
  unfold ZbY
  go_wp2
  exact⟨rfl,.inr ⟨4,rfl,rfl,HR.out,HX2.out,HB2.out.mono hBl⟩,HE2.out⟩
def ZpJ (ps:List PP) (w:World) (e:Ending) (w':World):Prop:=
 Below w.heap.size w w'/\((chkL [ps]≠0/\e=.returned (.tuple #[ZfD,.int .i64 (chkL [ps])]))\/
  (chkL [ps]=0/\((∃ z x y,sumA 0 (rats ps)=some z/\IsP z x y/\e=.returned (.tuple #[ZqE x y,.int .i64 0]))\/
   (sumA 0 (rats ps)=none/\e=.returned (.tuple #[ZfD,.int .i64 4])))))
theorem Zlo {B:Nat} {u:Value} {x0 y0:ByteArray} {w W:World} (h:Zu B (ZcE u x0 y0) W) (hb:Below B w W) (x y:ByteArray) :
  Zu B (ZcE u x y) ((W.setCell ⟨B+1,0,none⟩ (.string x)).setCell ⟨B+1,1,none⟩ (.string y))/\
  Below B w ((W.setCell ⟨B+1,0,none⟩ (.string x)).setCell ⟨B+1,1,none⟩ (.string y)):=
 ⟨(h.store 1 0 rfl (.string x) rfl).store 1 1 rfl (.string y) rfl,Zy hb Za _ _⟩
theorem Znk {u:Value} {ps:List PP} {w:World} (hu:PL w u ps) (hsm:ps.length<=512->∀ p ∈ ps,p.1.size<=1000000/\p.2.size<=1000000) (hT:Tabs w) :
  Calls Tryz.prog 133 #[u] w (ZpJ ps w):=by
 have hent:=enters_of Tryz.func170 Zb rfl
 have hmf:∀ (fn:Fn) (first cap:Array Value) (w:World),(Instr.makeFunc fn first cap).run Tryz.prog w=.ok (.func fn first cap) w:=fun _ _ _ _=>rfl
 obtain⟨p1,n1,c1,rfl⟩:∃ p n c,u=.slice p n c:=by obtain⟨p,c,h,_⟩:=hu;exact⟨_,_,_,h⟩
 have HU:=ZqH hu
 have HT:=ZqH hT
 have HSM:=ZqH hsm
 have HENT:=ZqH hent
 clear hu hT hsm hent
 go_enter Tryz.func133,Tryz.ntmps133
 go_wp2_with fail
 obtain⟨w1,hw1⟩:=ZqJ ((w.alloc (.cells #[.slice p1 n1 c1] 154)).alloc (ZqF ZqD ZqD))
 rw[hw1]
 have HX1:Hid (Zu w.heap.size (ZcE (.slice p1 n1 c1) ZqD ZqD) w1):=by rw[<- hw1];exact Zu.two w _ _
 have HB1:ZqB w w1:=by rw[<- hw1];exact((ZpV _ w).alloc ZqI _).alloc Zc _
 have hsz1:w1.heap.size=w.heap.size+1+1:=by rw[<- hw1];simp
 clear hw1
 have hal1:=(ZpV w1.heap.size w1).alloc ZqI (.cells #[.slice p1 n1 c1] 154)
 have HAL:=ZqH hal1
 clear hal1
 have hll:=Zjt (HU.out.after HB1.out ZqI)
 rw[hsz1] at hll
 have hck:=Zf7 hll Zc (Zix HSM.out)
 refine hck.mono ?_
 clear hll hck hsz1
 rintro e w2 ⟨rfl,hb2⟩
 have HB2:=ZqH (HB1.out.trans ((HAL.out.trans (hb2.mono HAL.out.size)).mono HB1.out.size))
 have HX2:=ZqH ((HX1.out.alloc (.cells #[.slice p1 n1 c1] 154)).below hb2 (HX1.out.alloc _).lt)
 clear hb2
 obtain⟨c,hc⟩:=ZqJ (chkL [ps])
 rw[hc]
 by_cases h0:c=0
 ·have hz:(c !=0)=false:=by rw[bne_eq_false_iff_eq];exact h0
  have HC:Hid (chkL [ps]=0):=by show _=_;rw[hc,h0]
  obtain⟨g1,g3⟩:=ZjZ HC.out
  have HQ1:=ZqH (Zj5 g3)
  clear h0 hc g1 g3
  go_wp2_with fail
  have hal:=(ZpV w2.heap.size w2).alloc ZqI (.cells #[.int .i64 0] 34)
  have hB3:=HB2.out.trans (hal.mono HB2.out.size)
  refine(Zik (w:=w2) HENT.out (ZnK (E:=w2.heap.size) HQ1.out (HU.out.after hB3 ZqI) (HT.out.below hB3 ZqI) (HX2.out.alloc _) (ZpY w2 _) HX2.out.lt)).mono ?_
  rintro e w3 ⟨w4,n,rfl,hk,hlt,hQ⟩
  clear hal
  have HW4:Hid (∃ x y,Zu w.heap.size (ZcE (.slice p1 n1 c1) x y) w4/\Below w.heap.size (w2.alloc (.cells #[.int .i64 0] 34)) w4/\
    ((∃ z,n=0/\sumA 0 (rats ps)=some z/\IsP z x y)\/(n=4/\sumA 0 (rats ps)=none/\x=ZqD/\y=ZqD))):=by
   rcases hQ with ⟨h1,z,x,y,h2,h3,h4,h5⟩ | ⟨h0,h1,h2,h3⟩
   ·exact⟨x,y,h4,h5,.inl ⟨z,h1,h2,h3⟩⟩
   ·exact⟨_,_,h2,h3,.inr ⟨h0,h1,rfl,rfl⟩⟩
  clear hQ
  obtain⟨x,y,hx4,hb4,hres⟩:=HW4.out
  have HX3:=ZqH (hx4.keeps hk (fun i hi=>by have:i<2:=hi;have:=HX2.out.lt;have h4:w.heap.size+2<=w2.heap.size:=this;omega))
  have hsz2:=HB2.out.size
  have HB3:ZqB w w3:=by
   have h5:Below w.heap.size w w4:=(HB2.out.alloc hsz2 _).trans hb4
   exact h5.trans ⟨hk.os,hk.tape,hk.output,hk.size,fun b hb=>hk.block b (by have:=h5.size;omega) Za⟩
  have HO3:=ZqH hres
  clear hk hx4 hb4 hres hlt hB3 HW4
  have r0:=HX3.out.cell 1 0 (b:=w.heap.size+1) rfl rfl rfl
  have r1:=HX3.out.cell 1 1 (b:=w.heap.size+1) rfl rfl rfl
  have f1:=HX3.out.free 1 0 (b:=w.heap.size+1) rfl rfl
  have f2:=HX3.out.free 1 1 (b:=w.heap.size+1) rfl rfl
  go_wp2
  obtain⟨hp1,hp2⟩:=Zlo HX3.out HB3.out x y
  obtain⟨w9,hw9⟩:=ZqJ ((w3.setCell ⟨w.heap.size+1,0,none⟩ (.string x)).setCell ⟨w.heap.size+1,1,none⟩ (.string y))
  rw[hw9] at hp1 hp2
  rw[hw9]
  have s1:=hp1.cell 1 0 (b:=w.heap.size+1) rfl rfl rfl
  have s2:=hp1.cell 1 1 (b:=w.heap.size+1) rfl rfl rfl
  clear r0 r1 f1 f2 hw9
  refine ZpW (v:=.tuple #[ZqE x y,.int .i64 n]) (by simp[results,Tryz.f133,go_sem,s1,s2]) rfl ⟨hp2,?_⟩
  refine .inr ⟨HC.out,?_⟩
  rcases HO3.out with ⟨z,h1,h2,h3⟩ | ⟨h1,h2,h3,h4⟩
  ·exact .inl ⟨z,x,y,h2,h3,by rw[h1]⟩
  ·exact .inr ⟨h2,by rw[h1,h3,h4];rfl⟩
 ·have hz:(c !=0)=true:=by rw[bne_iff_ne];exact h0
  have HC:Hid (chkL [ps]=c/\c≠0):=⟨hc,h0⟩
  clear h0 hc
  have r0:=HX2.out.cell 1 0 (b:=w.heap.size+1) rfl rfl rfl
  have r1:=HX2.out.cell 1 1 (b:=w.heap.size+1) rfl rfl rfl
  have f1:=HX2.out.free 1 0 (b:=w.heap.size+1) rfl rfl
  have f2:=HX2.out.free 1 1 (b:=w.heap.size+1) rfl rfl
  go_wp2
  obtain⟨hp1,hp2⟩:=Zlo HX2.out HB2.out ZqD ZqD
  obtain⟨w9,hw9⟩:=ZqJ ((w2.setCell ⟨w.heap.size+1,0,none⟩ (.string ZqD)).setCell ⟨w.heap.size+1,1,none⟩ (.string ZqD))
  rw[hw9] at hp1 hp2
  rw[hw9]
  have s1:=hp1.cell 1 0 (b:=w.heap.size+1) rfl rfl rfl
  have s2:=hp1.cell 1 1 (b:=w.heap.size+1) rfl rfl rfl
  clear r0 r1 f1 f2 hw9
  refine ZpW (v:=.tuple #[ZqE ZqD ZqD,.int .i64 c]) (by simp[results,Tryz.f133,go_sem,s1,s2]) rfl ⟨hp2,?_⟩
  exact .inl ⟨by rw[HC.out.1];exact HC.out.2,by rw[HC.out.1];rfl⟩
end Go.Proofs.YtjmckebecpjjfaaGreatDoor
