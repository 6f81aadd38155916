/- The parts Mixed, Products, Errors, Tried, Steps, Update, Updated, PubSum. -/
import Derived.Test.YtjmckebecpjjfaaGreatDoorH09
set_option maxRecDepth 100000
set_option maxHeartbeats 4000000
set_option linter.unusedVariables false
set_option linter.unusedSimpArgs false
namespace Go.Proofs.YtjmckebecpjjfaaGreatDoor
open Go.RowKit Go.Shelf
section
variable {P:Program} {ops:Array Oper} {Q:Exit->Act->World->Prop} {md:Region.Mode} {S:World->Prop} {bar:Nat->Bool}
def mixed (P:Program) (ops:Array Oper) (Q:Exit->Act->World->Prop) (S:World->Prop) (bar:Nat->Bool):List Bool->Nat->List Oper->Act->World->Prop
 | true::ks,k,o::l,a,w=>∃ v,YieldsIf P ops S o v a/\mixed P ops Q S bar ks (k+1) l (a.put o.dst v) w
 | false::ks,k,o::l,a,w=>(if Region.wanted o (yielded ops a.tmps) then o.wp P a w (fun a' w'=>(bar k=true\/S w')/\mixed P ops Q S bar ks (k+1) l a' w') Q
   else (bar k=true\/S w)/\mixed P ops Q S bar ks (k+1) l (a.put o.dst undef) w)
 | _,_,_,a,w=>Q .normal a w
end
def LLs (w:World) (v:Value) (ls:List (List PP)):Prop:=
 ∃ b cap,v=.slice (some ⟨b,0,none⟩) ls.length cap/\ls.length<=cap/\cap<=maxLen/\b<w.heap.size/\∀ j (h:j<ls.length),∃ u,w.cell? ⟨b,j,none⟩=some u/\PL w u ls[j]
theorem LLs.after {w w':World} {v:Value} {ls:List (List PP)} {B:Nat} (h:LLs w v ls) (hb:Below B w w') (hB:w.heap.size<=B):LLs w' v ls:=by
 obtain⟨b,cap,h1,h2,h3,h4,h5⟩:=h
 refine⟨b,cap,h1,h2,h3,Zm5 h4 hb.size,fun j hj=>?_⟩
 obtain⟨u,h6,h7⟩:=h5 j hj
 exact⟨u,(hb.cell (p:=⟨b,j,none⟩) (by show b<B;omega)).trans h6,h7.after hb hB⟩
def chkL (ls:List (List PP)):Int:=if ls.any (fun l=>decide (512<l.length)) then 3 else if ls.all (fun l=>l.all fun p=>okP p.1 p.2) then 0 else 2
theorem Zj2 {ls:List (List PP)} {l:List PP} (h:l ∈ ls) (hl:512<l.length):chkL ls=3:=by
 unfold chkL
 rw[if_pos]
 exact List.any_eq_true.2 ⟨l,h,by simpa using hl⟩
theorem ZlK {ls:List (List PP)} (hs:∀ l ∈ ls,l.length<=512) {l:List PP} (h:l ∈ ls) {p:PP} (hp:p ∈ l) (hb:okP p.1 p.2=false):chkL ls=2:=by
 unfold chkL
 rw[if_neg,if_neg]
 ·rw[Bool.not_eq_true,List.all_eq_false]
  exact⟨l,h,by rw[Bool.not_eq_true,List.all_eq_false];exact⟨p,hp,by simp[hb]⟩⟩
 ·rw[Bool.not_eq_true,List.any_eq_false]
  intro l hl
  have:=hs l hl
  simp;omega
theorem Zgd {ls:List (List PP)} (hs:∀ l ∈ ls,l.length<=512) (h:∀ l ∈ ls,∀ p ∈ l,okP p.1 p.2=true):chkL ls=0:=by
 unfold chkL
 rw[if_neg,if_pos]
 ·exact Znz.2 fun l hl=>Znz.2 fun p hp=>h l hl p hp
 ·rw[Bool.not_eq_true,List.any_eq_false]
  intro l hl
  have:=hs l hl
  simp;omega
theorem ZeH {v:Value} {ls:List (List PP)} {w:World} (hv:LLs w v ls) (hn:ls.length<=1000) (hsm:(∀ l ∈ ls,l.length<=512)->∀ l ∈ ls,∀ p ∈ l,p.1.size<=1000000/\p.2.size<=1000000) :
  Calls Tryz.prog 134 #[v] w (ZeB w (chkL ls)):=by
 obtain⟨b,cap,rfl,hcap,hmax,hbl,hat⟩:=hv
 obtain⟨n,hn'⟩:=ZnM ls.length
 rw[hn'] at hcap hn ⊢
 unfold maxLen at hmax
 have HN:=ZnK hn'
 have HA:=ZnK hat
 have HS:=ZnK hsm
 clear hn' hat hsm
 go_enter Tryz.func134,Tryz.ntmps134
 go_wp2
 go_loopw [12] (fun i wr=>∃ (k:Nat),i=.int .i64 k/\k<=n/\Hid (∀ j (h:j<ls.length),j<k->ls[j].length<=512)/\wr=w) (fun i _=>n-(intOf i).toNat)
 case atStart=>exact⟨0,rfl,Znb _,fun j _ h=>Za,rfl⟩
 case round=>
  obtain⟨k,rfl,hk,HK,rfl⟩:=hrel
  by_cases hlt:k<n
  ·have hkl:k<ls.length:=by rw[HN.out];exact hlt
   obtain⟨u,hc,hpl⟩:=HA.out k hkl
   obtain⟨q,qc,rfl,_,_,_⟩:=hpl
   obtain⟨m,hm⟩:=ZnM (ls[k].length)
   rw[hm] at hc
   have HM:=ZnK hm
   clear hm
   by_cases hg:512<m
   ·have hg':(512:Int)<(m:Nat):=Za
    have HQ:Hid (chkL ls=3):=Zj2 (Znp hkl) (by rw[HM.out];exact hg)
    go_wp2
    go_ret
    exact⟨by rw[HQ.out];rfl,ZmY _ _⟩
   ·have hg':¬ (512:Int)<(m:Nat):=Za
    have HK2:Hid (∀ j (h:j<ls.length),j<k+1->ls[j].length<=512):=fun j h1 h2=>by
     rcases Zm4 j k with h3 | h3
     ·exact HK.out j h1 h3
     ·obtain rfl:j=k:=Za
      rw[HM.out];omega
    go_wp2
    go_roundw
    case rel=>exact⟨k+1,by go_num,Za,HK2,by first | rfl | trivial⟩
    case measure=>exact Zj
  ·have HL:Hid (∀ l ∈ ls,l.length<=512):=fun l hl=>by
    obtain⟨j,hj,rfl⟩:=List.getElem_of_mem hl
    exact HK.out j hj (by rw[HN.out] at hj;omega)
   clear HK
   go_wp2
   obtain⟨w0,rfl⟩:∃ w0:World,w0=wr:=⟨_,rfl⟩
   go_loopw [22] (fun i wx=>∃ (k:Nat),i=.int .i64 k/\k<=n/\Hid (∀ j (h:j<ls.length),j<k->∀ p ∈ ls[j],okP p.1 p.2=true)/\ZnE w0 wx) (fun i _=>n-(intOf i).toNat)
   case atStart=>exact⟨0,rfl,Znb _,fun j _ h=>Za,ZmY _ _⟩
   case round=>
    obtain⟨k,rfl,hk,HK,HB⟩:=hrel
    obtain⟨wx,rfl⟩:∃ wx:World,wx=wr:=⟨_,rfl⟩
    by_cases hlt:k<n
    ·have hkl:k<ls.length:=by rw[HN.out];exact hlt
     obtain⟨u,hc,hpl⟩:=HA.out k hkl
     obtain⟨m,hm⟩:=ZnM (ls[k].length)
     obtain⟨q,qc,rfl,hqc,hqm,hq⟩:=hpl
     rw[hm] at hc hqc
     have hc':=(HB.out.cell (p:=⟨b,k,none⟩) hbl).trans hc
     have HQ:=ZnK hq
     have HM:=ZnK hm
     have hm512:m<=512:=by rw[<- hm];exact HL.out _ (Znp hkl)
     clear hm hq hc
     go_wp2
     go_loopw [28] (fun i wy=>∃ (j:Nat),i=.int .i64 j/\j<=m/\Hid (∀ z (h:z<ls[k].length),z<j->okP ls[k][z].1 ls[k][z].2=true)/\ZnE w0 wy) (fun i _=>m-(intOf i).toNat)
     case atStart=>exact⟨0,rfl,Znb _,fun j _ h=>Za,HB⟩
     case round=>
      obtain⟨j,rfl,hj,HJ,HY⟩:=hrel
      obtain⟨wy,rfl⟩:∃ wy:World,wy=wr:=⟨_,rfl⟩
      by_cases hjm:j<m
      ·have hjl:j<ls[k].length:=by rw[HM.out];exact hjm
       obtain⟨bb,off,rfl,hbb,hat⟩:=HQ.out (Zm6 Za)
       obtain⟨e0,e1⟩:=(hat.below HY.out hbb) j hjl
       obtain⟨hz1,hz2⟩:=HS.out HL.out _ (Znp hkl) _ (Znp hjl)
       obtain⟨s,hs⟩:=ZnM (ls[k][j].1)
       obtain⟨t,ht⟩:=ZnM (ls[k][j].2)
       have HOK:Hid (okP ls[k][j].1 ls[k][j].2=okP s t):=by show _=_;rw[hs,ht]
       rw[hs] at e0 hz1
       rw[ht] at e1 hz2
       clear hat hs ht
       go_wp2_with fail
       have hal:=(ZmY wy.heap.size wy).alloc ZnL (ZnI s t)
       refine(ZaJ s t _ hz1 hz2).mono ?_
       rintro e w5 ⟨rfl,hb5⟩
       have HB5:=ZnK (HY.out.trans ((hal.trans (hb5.mono Zc)).mono HY.out.size))
       clear hb5 hal e0 e1
       cases ho:okP s t
       ·have HE:=ZnK (Zbr ho)
        have HC:Hid (chkL ls=2):=ZlK HL.out (Znp hkl) (Znp hjl) (by rw[HOK.out];exact ho)
        clear ho
        rw[HE.out]
        go_wp2
        go_ret
        exact⟨by rw[HC.out];rfl,HB5.out⟩
       ·have HE:=ZnK (ZbX ho)
        have HJ2:Hid (∀ z (h:z<ls[k].length),z<j+1->okP ls[k][z].1 ls[k][z].2=true):=fun z h1 h2=>by
         rcases Zm4 z j with h3 | h3
         ·exact HJ.out z h1 h3
         ·obtain rfl:z=j:=Za
          rw[HOK.out];exact ho
        clear ho
        rw[HE.out]
        go_wp2
        go_roundw
        case rel=>exact⟨j+1,by go_num,Za,HJ2,HB5⟩
        case measure=>exact Zj
      ·have HK2:Hid (∀ z (h:z<ls.length),z<k+1->∀ p ∈ ls[z],okP p.1 p.2=true):=fun z h1 h2 p hp=>by
        rcases Zm4 z k with h3 | h3
        ·exact HK.out z h1 h3 p hp
        ·obtain rfl:z=k:=Za
         obtain⟨y,hy,rfl⟩:=List.getElem_of_mem hp
         exact HJ.out y hy (by rw[HM.out] at hy;omega)
       go_wp2
       go_roundw
       case rel=>exact⟨k+1,by go_num,Za,HK2,HY⟩
       case measure=>exact Zj
    ·have HQ:Hid (chkL ls=0):=Zgd HL.out fun l hl p hp=>by
      obtain⟨j,hj,rfl⟩:=List.getElem_of_mem hl
      exact HK.out j hj (by rw[HN.out] at hj;omega) p hp
     go_wp2
     go_ret
     exact⟨by rw[HQ.out];rfl,HB.out⟩
theorem Zhn {w:World} {u:Value} {ps:List PP} (h1:PL w u ps):LLs (w.alloc (.cells #[u] 154)) (.slice (some ⟨w.heap.size,0,none⟩) 1 1) [ps]:=by
 have hal:=(ZmY w.heap.size w).alloc ZnL (.cells #[u] 154)
 refine⟨_,1,rfl,Nat.le_refl _,by simp[maxLen],Zc,fun j hj=>?_⟩
 match j,hj with
 | 0,_=>exact⟨u,ZJ _ _ _ 0 rfl,h1.after hal ZnL⟩
 | j+1,h=>simp at h;try omega
theorem ZjC (n:Int) (w:World):(Instr.typeAssert (.iface 252 (.agg #[.int .i64 n])) 20 252 true).run Tryz.prog w=.ok (.tuple #[.agg #[.int .i64 n],.bool true]) w:=Zb
theorem ZjM (w:World):(Instr.typeAssert .nilIface 20 252 true).run Tryz.prog w=.ok (.tuple #[.agg #[.int .i64 0],.bool false]) w:=Zb
theorem Ze8 (b:Nat) (n:Int) (older:List PanicEntry) (w:World) (hc:w.heap[b]?=some (.cells #[.int .i64 0] 34 (0,0))) :
  CallsD Tryz.prog 171 #[.pointer (some ⟨b,0,none⟩)] (.panicking ({ v:=.iface 252 (.agg #[.int .i64 n]),recovered:=false }::older)) w fun e u' w'=>
   e=.returned (.tuple #[])/\u'=.panicking ({ v:=.iface 252 (.agg #[.int .i64 n]),recovered:=true }::older)/\w'=(w.setCell ⟨b,0,none⟩ (.int .i64 n)).alloc (.cells #[.int .i64 n] 252):=by
 have c0:=Zn hc 0 rfl
 have f0:=Zq hc 0
 have hta:=ZjC n
 have hbl:=(ZnF hc)
 have k0:(w.alloc (.cells #[.int .i64 n] 252)).cell? ⟨b,0,none⟩=some (.int .i64 0):=(Z0 _ _ _ hbl).trans c0
 have k1:(w.alloc (.cells #[.int .i64 n] 252)).frozen? ⟨b,0,none⟩=false:=(Zb0 _ _ _ hbl).trans f0
 refine callsD_of_wpS Tryz.func171 rfl fun c₀ cs hu=>?_
 apply wpS_seq
 apply wpS_region
 simp[wpOpsS,go_sem,recoverD,hu,Tryz.ntmps171,Exit.thenS]
 refine wpS_of_wp ?_
 simp only[Array.replicate_succ,Array.replicate_zero,List.push_toArray,List.append_toArray,ZnD,List.cons_append,List.setIfInBounds_toArray,List.set_cons_zero,List.set_cons_succ]
 go_wp2
 exact⟨rfl,_,rfl,.tuple #[],by simp[results,Tryz.f171,go_sem],rfl,rfl,rfl⟩
theorem Ziw (b:Nat) (w:World) :
  CallsD Tryz.prog 171 #[.pointer (some ⟨b,0,none⟩)] .returning w fun e u' w'=>
   e=.returned (.tuple #[])/\u'=.returning/\w'=w.alloc (.cells #[.int .i64 0] 252):=by
 have hta:=ZjM
 refine callsD_of_wpS Tryz.func171 rfl fun c₀ cs hu=>?_
 apply wpS_seq
 apply wpS_region
 simp[wpOpsS,go_sem,recoverD,hu,Tryz.ntmps171,Exit.thenS]
 refine wpS_of_wp ?_
 simp only[Array.replicate_succ,Array.replicate_zero,List.push_toArray,List.append_toArray,ZnD,List.cons_append,List.setIfInBounds_toArray,List.set_cons_zero,List.set_cons_succ]
 go_wp2
 exact⟨rfl,.returning,by cases c₀;simp_all,.tuple #[],by simp[results,Tryz.f171,go_sem],rfl,rfl,rfl⟩
def Zhx (B:Nat) (Q:World->Prop) (R:Int->World->Prop) (e:Ending) (w':World):Prop:=
 ((e=.returned (.tuple #[])/\Q w')\/(∃ n,e=Zbj n/\R n w'))/\w'.heap[B]?=some (.cells #[.int .i64 0] 34 (0,0))
def Zkk (B:Nat) (Q:World->Prop) (R:Int->World->Prop) (e:Ending) (w':World):Prop:=
 ∃ w1 n,e=.returned (.int .i64 n)/\Keeps (fun i=>i≠B) w1 w'/\B<w1.heap.size/\((n=0/\Q w1)\/R n w1)
theorem Zgr {f:Nat} {caps:Array Value} (hent:∀ args w,(callFunc f args).run Tryz.prog w=.ok (.enter f args) w) {Q:World->Prop} {R:Int->World->Prop} {w:World}
  (hdo:Calls Tryz.prog f caps (w.alloc (.cells #[.int .i64 0] 34)) (Zhx w.heap.size Q R)) :
  Calls Tryz.prog 135 #[.func (.func f) #[] caps] w (Zkk w.heap.size Q R):=by
 have hmf:∀ (fn:Fn) (first cap:Array Value) (w:World),(Instr.makeFunc fn first cap).run Tryz.prog w=.ok (.func fn first cap) w:=fun _ _ _ _=>rfl
 have HD:=ZnK hdo
 clear hdo
 go_enter_defers Tryz.func135,Tryz.ntmps135
 go_wp2_with fail
 refine HD.out.mono ?_
 rintro e w2 ⟨hE,hbox⟩
 have c0:=Zn hbox 0 rfl
 have f0:=Zq hbox 0
 have HX:=ZnK hbox
 clear hbox
 rcases hE with ⟨rfl,hQ⟩ | ⟨n,rfl,hR⟩
 ·have HQ:=ZnK hQ
  clear hQ
  go_wp2
  have c1:(w2.setCell ⟨w.heap.size,0,none⟩ (.int .i64 0)).heap[w.heap.size]?=some (.cells #[.int .i64 0] 34 (0,0)):=Zm3 HX.out _
  refine leaves_cons (f:=171) (args:=#[.pointer (some ⟨w.heap.size,0,none⟩)]) Zc (by simp[go_sem]) ?_
  refine(Ziw w.heap.size _).mono ?_
  rintro e u' w'' ⟨rfl,rfl,rfl⟩
  have hl:w.heap.size<w2.heap.size:=(ZnF HX.out)
  have hl2:w.heap.size<(w2.setCell ⟨w.heap.size,0,none⟩ (.int .i64 0)).heap.size:=(ZnF c1)
  have q0:((w2.setCell ⟨w.heap.size,0,none⟩ (.int .i64 0)).alloc (.cells #[.int .i64 0] 252)).cell? ⟨w.heap.size,0,none⟩=some (.int .i64 0):=(Z0 _ _ _ hl2).trans (Zn c1 0 rfl)
  refine⟨.int .i64 0,by simp[results,Tryz.f135,go_sem,q0],⟨w2,0,rfl,((Keeps.refl _ w2).setCell Zc _).alloc _,hl,.inl ⟨rfl,HQ.out⟩⟩⟩
 ·have HR:=ZnK hR
  clear hR
  unfold Zbj
  refine leaves_cons (f:=171) (args:=#[.pointer (some ⟨w.heap.size,0,none⟩)]) Zc (by simp[go_sem]) ?_
  refine(Ze8 w.heap.size n [] _ HX.out).mono ?_
  rintro e u' w'' ⟨rfl,rfl,rfl⟩
  have c1:(w2.setCell ⟨w.heap.size,0,none⟩ (.int .i64 n)).heap[w.heap.size]?=some (.cells #[.int .i64 n] 34 (0,0)):=Zm3 HX.out _
  have hl:w.heap.size<w2.heap.size:=(ZnF HX.out)
  have hl2:w.heap.size<(w2.setCell ⟨w.heap.size,0,none⟩ (.int .i64 n)).heap.size:=(ZnF c1)
  have q0:((w2.setCell ⟨w.heap.size,0,none⟩ (.int .i64 n)).alloc (.cells #[.int .i64 n] 252)).cell? ⟨w.heap.size,0,none⟩=some (.int .i64 n):=(Z0 _ _ _ hl2).trans (Zn c1 0 rfl)
  refine⟨.int .i64 n,by simp[results,Tryz.f135,go_sem,q0],⟨w2,n,rfl,((Keeps.refl _ w2).setCell Zc _).alloc _,hl,.inr HR.out⟩⟩
section
variable {P:Program} {ops:Array Oper} {Q:Exit->Act->World->Prop} {md:Region.Mode} {S:World->Prop} {bar:Nat->Bool}
def steps (P:Program) (ops:Array Oper) (Q:Exit->Act->World->Prop) (S:World->Prop) (bar:Nat->Bool):List (Bool×Nat)->Act->World->Prop
 | [],a,w=>Q .normal a w
 | (true,i)::ks,a,w=>∃ o v,ops[i]?=some o/\YieldsIf P ops S o v a/\steps P ops Q S bar ks (a.put o.dst v) w
 | (false,i)::ks,a,w=>∃ o,ops[i]?=some o/\(if Region.wanted o (yielded ops a.tmps) then o.wp P a w (fun a' w'=>(bar i=true\/S w')/\steps P ops Q S bar ks a' w') Q
   else (bar i=true\/S w)/\steps P ops Q S bar ks (a.put o.dst undef) w)
def Zde (md:Region.Mode) (ops:Array Oper) (bar:Nat->Bool):List (Bool×Nat)->Array Bool->Bool
 | [],listed=>decide (Region.ready md ops listed=[])
 | (true,k)::ks,listed=>(Region.ready md ops listed).contains k && Region.free md ops listed k && !bar k && ((List.range ops.size).all fun j=>!bar j || decide (j=k) || Region.waitsFor md ops j k) && Zde md ops bar ks (listed.setIfInBounds k true)
 | (false,k)::ks,listed=>decide (Region.ready md ops listed=[k]) && (!bar k || ks.all fun b=>!b.1) && Zde md ops bar ks (listed.setIfInBounds k true)
theorem ZcO (hsel:Region.noSelect ops=true) (hQ:∀ c a o v w,Q (.panic c) (a.put o v) w->Q (.panic c) a w) (hbo:∀ j,ops.size<=j->bar j=false) :
  ∀ (ks:List (Bool×Nat)) (listed:Array Bool) (a:Act) (w:World),Zde md ops bar ks listed=true->
   (S w\/ks.all (fun b=>!b.1)=true)->steps P ops Q S bar ks a w->wpJ P md ops Q S bar ks.length listed a w
 | [],listed,a,w,hB,_,h=>⟨of_decide_eq_true hB,h⟩
 | (true,k)::ks,listed,a,w,hB,hS,h=>by
  simp only[Zde,Znw] at hB
  obtain⟨⟨⟨⟨hr,hf⟩,hbk⟩,hw⟩,hB'⟩:=hB
  have hSw:S w:=by
   rcases hS with hS | hS
   ·exact hS
   ·simp at hS
  obtain⟨o,v,h0,hy,hrest⟩:=h
  have hbk':bar k=false:=by simpa using hbk
  have hwait:Zg5 md ops bar k:=fun j hj hne=>by
   have hjl:j<ops.size:=by
    rcases Zm4 j ops.size with h' | h'
    ·exact h'
    ·rw[hbo j h'] at hj;cases hj
   rw[Znz] at hw
   have:=hw j (List.mem_range.2 hjl)
   rw[hj] at this
   simpa[hne] using this
  have ih:=ZcO hsel hQ hbo ks (listed.setIfInBounds k true) (a.put o.dst v) w hB' (.inl hSw) hrest
  rw[Zny]
  exact Zed h0 hsel (fun c a w=>hQ c a o.dst v w) hwait hbk' ks.length listed a w (Region.free_spec h0 hf) (by simpa using hr) hy hSw ih
 | (false,k)::ks,listed,a,w,hB,hS,h=>by
  simp only[Zde,Znw,Znx] at hB
  obtain⟨⟨hr,hbk⟩,hB'⟩:=hB
  obtain⟨o,h0,h⟩:=h
  refine⟨fun h1=>(by rw[hr] at h1;cases h1),fun i hi=>?_⟩
  rw[hr] at hi
  obtain rfl:i=k:=by simpa using hi
  have ih:=fun a' w' (hs:bar i=true\/S w') h'=>ZcO hsel hQ hbo ks (listed.setIfInBounds i true) a' w' hB' (by
   rcases hs with hs | hs
   ·rw[hs] at hbk
    exact .inr (by simpa using hbk)
   ·exact .inl hs) h'
  unfold wpOp
  simp only[h0]
  split at h
  ·rename_i hw;simp only[hw,if_true];exact .inl (Oper.wp_mono (fun a' w' h'=>⟨h'.1,ih a' w' h'.1 h'.2⟩) h)
  ·rename_i hw;simp only[hw];exact⟨h.1,ih _ _ h.1 h.2⟩
def Zgk (l:List Oper) (ks:List (Bool×Nat)) (bar:Nat->Bool):Bool:=
 Region.noSelect l.toArray && decide (ks.length=l.length) && Zde .any l.toArray bar ks (Array.replicate l.toArray.size false) && ZcK l.toArray
theorem ZhM {l:List Oper} (ks:List (Bool×Nat)) (S:World->Prop) (bar:Nat->Bool) (hB:Zgk l ks bar=true) (hbo:∀ j,l.length<=j->bar j=false) (hQ:∀ c a o v w,Q (.panic c) (a.put o v) w->Q (.panic c) a w) {a:Act} {w:World} (hS:S w)
  (H:steps P l.toArray Q S bar ks a w):wpAny P .any l.toArray Q l.toArray.size (Array.replicate l.toArray.size false) a w:=by
 simp only[Zgk,Znw,Znx] at hB
 obtain⟨⟨⟨hsel,hn⟩,hm⟩,_⟩:=hB
 have:=ZbZ _ _ _ _ (ZcO hsel hQ (fun j hj=>hbo j (by simpa using hj)) ks _ a w hm (.inl hS) H)
 rw[hn] at this
 simpa using this
theorem Zid {id:Nat} {a:Act} {w:World} {l:List Oper} (ks:List (Bool×Nat)) (S:World->Prop) (bar:Nat->Bool) (hm:P.follows .mixedOrders=true)
  (hB:Zgk l ks bar=true) (hbo:∀ j,l.length<=j->bar j=false) (hQ:∀ c a o v w,Q (.panic c) (a.put o v) w->Q (.panic c) a w) (hS:S w.drew)
  (H:steps P l.toArray Q S bar ks a w.drew):(Code.region id l.toArray true).wp P Q a w:=
 wp_region_any hm (ZhM ks S bar hB hbo hQ hS H)
theorem Zi4 {i:Nat} {o:Oper} {ks:List (Bool×Nat)} {a:Act} {w:World} (v:Value) (ho:ops[i]?=some o) (hw:Region.wanted o (yielded ops a.tmps)=true) (hv:∀ w,S w->(execOp a.eval o).run P w=.ok (.value v) w)
  (h:steps P ops Q S bar ks (a.put o.dst v) w):steps P ops Q S bar ((true,i)::ks) a w:=⟨o,v,ho,.inl ⟨hw,hv⟩,h⟩
theorem Zc8 {i:Nat} {o:Oper} {ks:List (Bool×Nat)} {a:Act} {w:World} (ho:ops[i]?=some o) (hw:Region.wanted o (yielded ops a.tmps)=true)
  (h:∀ K:Act->World->Prop,(∀ a' w',(bar i=true\/S w')->steps P ops Q S bar ks a' w'->K a' w')->o.wp P a w K Q):steps P ops Q S bar ((false,i)::ks) a w:=by
 refine⟨o,ho,?_⟩
 rw[if_pos hw]
 exact h _ fun _ _ h1 h2=>⟨h1,h2⟩
theorem Zkf {a:Act} {w:World} (h:Q .normal a w):steps P ops Q S bar [] a w:=h
end
theorem Zs.store {B:Nat} {os:List Obj} {w:World} (h:Zs B os w) (i j:Nat) {cs:Array Value} {T:TypeId} (ho:os[i]?=some (.cells cs T (0,0))) (v:Value) {b:Nat} (hb:b=B+i) :
  Zs B (os.set i (.cells (cs.setIfInBounds j v) T (0,0))) (w.setCell ⟨b,j,Option.none⟩ v):=by
 subst hb
 have hi:i<os.length:=(Znm.1 ho).1
 have h0:=h.2 i _ ho
 refine⟨by rw[List.length_set];exact Zm7 h.1 (by simp[World.setCell]),fun k o hk=>?_⟩
 by_cases hki:k=i
 ·subst hki
  rw[List.getElem?_set_self hi] at hk
  obtain rfl:=Zm2 hk
  exact Zm3 h0 v
 ·rw[List.getElem?_set_ne (Ne.symm hki)] at hk
  rw[Zm0 _ _ _ _ (by simp;omega)]
  exact h.2 k o hk
def rats (ps:List PP):List Rat:=ps.map fun p=>ratP p.1 p.2
theorem ZhR {ps:List PP} (h:∀ p ∈ ps,okP p.1 p.2=true):IsL (rats ps) ps:=by
 refine⟨by simp[rats],fun k h1 h2=>?_⟩
 simp only[rats,List.getElem_map]
 exact ZbS (h _ (Znp h2))
theorem IsL.rats {qs:List Rat} {ps:List PP} (h:IsL qs ps):Go.Proofs.YtjmckebecpjjfaaGreatDoor.rats ps=qs:=by
 refine List.ext_getElem (by simp[Go.Proofs.YtjmckebecpjjfaaGreatDoor.rats,h.1]) fun k h1 h2=>?_
 simp only[Go.Proofs.YtjmckebecpjjfaaGreatDoor.rats,List.getElem_map]
 exact(h.2 k h2 (by rw[<- h.1];exact h2)).rat
theorem ZkJ {ls:List (List PP)} (h:chkL ls=0):(∀ l ∈ ls,l.length<=512)/\∀ l ∈ ls,∀ p ∈ l,okP p.1 p.2=true:=by
 unfold chkL at h
 split at h
 ·cases h
 ·rename_i h1
  split at h
  ·rename_i h2
   rw[Bool.not_eq_true,List.any_eq_false] at h1
   refine⟨fun l hl=>?_,fun l hl p hp=>?_⟩
   ·have:=h1 l hl
    simp at this;omega
   ·have:=Znz.1 h2 l hl
    exact Znz.1 this p hp
  ·cases h
def Zeg:Value:=ZnH ZnG ZnG
theorem PL.put {w w':World} {v:Value} {us:List PP} {B:Nat} (h:Own w B v us) (hk:∀ g,B<=g->g<w.heap.size->w'.heap[g]?=w.heap[g]?):PL w' v us:=by
 refine(h.kept fun g hg hv=>hk g hg ?_).pl
 exact(Znc h g hv).2
theorem ZhO {ps:List PP} (h:chkL [ps]=0):ps.length<=512/\∀ p ∈ ps,okP p.1 p.2=true:=by
 obtain⟨h1,h2⟩:=ZkJ h
 exact⟨h1 ps Zc,h2 ps Zc⟩
theorem ZgB {ps:List PP} (hsm:ps.length<=512->∀ p ∈ ps,p.1.size<=1000000/\p.2.size<=1000000):(∀ l ∈ [ps],l.length<=512)->∀ l ∈ [ps],∀ p ∈ l,p.1.size<=1000000/\p.2.size<=1000000:=fun h l hl=>by
 have h1:=h ps Zc
 obtain rfl:l=ps:=by simpa using hl
 exact hsm h1
def ZbO (u:Value) (x y:ByteArray):List Obj:=[.cells #[u] 154,ZnI x y]
def SumQ (B:Nat) (u:Value) (r:Option Rat) (w w':World):Prop:=∃ z x y,r=some z/\IsP z x y/\Zs B (ZbO u x y) w'/\Below B w w'
def SumR (B:Nat) (u:Value) (r:Option Rat) (w:World) (n:Int) (w':World):Prop:=n=4/\r=none/\Zs B (ZbO u ZnG ZnG) w'/\Below B w w'
theorem Zk1 {u:Value} {qs:List Rat} {ps:List PP} {w:World} {B E:Nat} (hq:IsL qs ps) (hu:PL w u ps) (hT:Tabs w)
  (hbox:Zs B (ZbO u ZnG ZnG) w) (hE:w.heap[E]?=some (.cells #[.int .i64 0] 34 (0,0))) (hBE:B+2<=E) :
  Calls Tryz.prog 170 #[.pointer (some ⟨B,0,none⟩),.pointer (some ⟨B+1,0,none⟩)] w
   (Zhx E (SumQ B u (sumA 0 qs) w) (SumR B u (sumA 0 qs) w)):=by
 have HP:=ZnK (ZiH hq hu hT)
 obtain⟨p1,c1,rfl,_,_,_⟩:=hu
 obtain⟨n1,hn1⟩:=ZnM ps.length
 rw[hn1] at HP hbox ⊢
 have HX:=ZnK hbox
 have HE:=ZnK hE
 have hEl:=(ZnF hE)
 have hBl:B<=w.heap.size:=Za
 clear hbox hE hT hq hn1
 go_enter Tryz.func170,Tryz.ntmps170
 have k0:=HX.out.cell 0 0 (b:=B) rfl rfl rfl
 go_wp2_with fail
 refine HP.out.mono ?_
 rintro e w2 ⟨hE2,hb2⟩
 have HB2:=ZnK hb2
 have HX2:=ZnK (HX.out.below hb2 HX.out.lt)
 have HE2:Hid (w2.heap[E]?=some (.cells #[.int .i64 0] 34 (0,0))):=(hb2.block E hEl).trans HE.out
 have hs2:=hb2.size
 clear hb2 k0
 rcases hE2 with ⟨z,x,y,h1,h2,rfl⟩ | ⟨h1,rfl⟩
 ·have H1:=ZnK (ZnB h1 h2)
  clear h1 h2
  have q0:=HX2.out.cell 1 0 (b:=B+1) rfl rfl rfl
  have q1:=HX2.out.cell 1 1 (b:=B+1) rfl rfl rfl
  have f0:=HX2.out.free 1 0 (b:=B+1) rfl rfl
  have f1:=HX2.out.free 1 1 (b:=B+1) rfl rfl
  go_wp2
  have HX7:=(HX2.out.store 1 0 (b:=B+1) rfl (.string x) rfl).store 1 1 (b:=B+1) rfl (.string y) rfl
  refine⟨rfl,.tuple #[],by simp[results,Tryz.f170,go_sem],.inl ⟨rfl,z,x,y,H1.out.1,H1.out.2,HX7,Zv (HB2.out.mono hBl) Za _ _⟩,?_⟩
  exact((Zm0 _ ⟨B+1,1,none⟩ _ _ (by simp;omega)).trans (Zm0 _ ⟨B+1,0,none⟩ _ _ (by simp;omega))).trans HE2.out
 ·have HR:Hid (sumA 0 qs=none):=h1
  clear h1
  unfold Zbj
  go_wp2
  exact⟨rfl,.inr ⟨4,rfl,rfl,HR.out,HX2.out,HB2.out.mono hBl⟩,HE2.out⟩
def ZmP (ps:List PP) (w:World) (e:Ending) (w':World):Prop:=
 Below w.heap.size w w'/\((chkL [ps]≠0/\e=.returned (.tuple #[Zeg,.int .i64 (chkL [ps])]))\/
  (chkL [ps]=0/\((∃ z x y,sumA 0 (rats ps)=some z/\IsP z x y/\e=.returned (.tuple #[ZnH x y,.int .i64 0]))\/
   (sumA 0 (rats ps)=none/\e=.returned (.tuple #[Zeg,.int .i64 4])))))
theorem ZiU {B:Nat} {u:Value} {x0 y0:ByteArray} {w W:World} (h:Zs B (ZbO u x0 y0) W) (hb:Below B w W) (x y:ByteArray) :
  Zs B (ZbO u x y) ((W.setCell ⟨B+1,0,none⟩ (.string x)).setCell ⟨B+1,1,none⟩ (.string y))/\
  Below B w ((W.setCell ⟨B+1,0,none⟩ (.string x)).setCell ⟨B+1,1,none⟩ (.string y)):=
 ⟨(h.store 1 0 rfl (.string x) rfl).store 1 1 rfl (.string y) rfl,Zv hb Za _ _⟩
theorem ZkD {u:Value} {ps:List PP} {w:World} (hu:PL w u ps) (hsm:ps.length<=512->∀ p ∈ ps,p.1.size<=1000000/\p.2.size<=1000000) (hT:Tabs w) :
  Calls Tryz.prog 133 #[u] w (ZmP ps w):=by
 have hent:=enters_of Tryz.func170 Zb rfl
 have hmf:∀ (fn:Fn) (first cap:Array Value) (w:World),(Instr.makeFunc fn first cap).run Tryz.prog w=.ok (.func fn first cap) w:=fun _ _ _ _=>rfl
 obtain⟨p1,n1,c1,rfl⟩:∃ p n c,u=.slice p n c:=by obtain⟨p,c,h,_⟩:=hu;exact⟨_,_,_,h⟩
 have HU:=ZnK hu
 have HT:=ZnK hT
 have HSM:=ZnK hsm
 have HENT:=ZnK hent
 clear hu hT hsm hent
 go_enter Tryz.func133,Tryz.ntmps133
 go_wp2_with fail
 obtain⟨w1,hw1⟩:=ZnM ((w.alloc (.cells #[.slice p1 n1 c1] 154)).alloc (ZnI ZnG ZnG))
 rw[hw1]
 have HX1:Hid (Zs w.heap.size (ZbO (.slice p1 n1 c1) ZnG ZnG) w1):=by rw[<- hw1];exact Zs.two w _ _
 have HB1:ZnE w w1:=by rw[<- hw1];exact((ZmY _ w).alloc ZnL _).alloc Zc _
 have hsz1:w1.heap.size=w.heap.size+1+1:=by rw[<- hw1];simp
 clear hw1
 have hal1:=(ZmY w1.heap.size w1).alloc ZnL (.cells #[.slice p1 n1 c1] 154)
 have HAL:=ZnK hal1
 clear hal1
 have hll:=Zhn (HU.out.after HB1.out ZnL)
 rw[hsz1] at hll
 have hck:=ZeH hll Zc (ZgB HSM.out)
 refine hck.mono ?_
 clear hll hck hsz1
 rintro e w2 ⟨rfl,hb2⟩
 have HB2:=ZnK (HB1.out.trans ((HAL.out.trans (hb2.mono HAL.out.size)).mono HB1.out.size))
 have HX2:=ZnK ((HX1.out.alloc (.cells #[.slice p1 n1 c1] 154)).below hb2 (HX1.out.alloc _).lt)
 clear hb2
 obtain⟨c,hc⟩:=ZnM (chkL [ps])
 rw[hc]
 by_cases h0:c=0
 ·have hz:(c !=0)=false:=by rw[bne_eq_false_iff_eq];exact h0
  have HC:Hid (chkL [ps]=0):=by show _=_;rw[hc,h0]
  obtain⟨g1,g3⟩:=ZhO HC.out
  have HQ1:=ZnK (ZhR g3)
  clear h0 hc g1 g3
  go_wp2_with fail
  have hal:=(ZmY w2.heap.size w2).alloc ZnL (.cells #[.int .i64 0] 34)
  have hB3:=HB2.out.trans (hal.mono HB2.out.size)
  refine(Zgr (w:=w2) HENT.out (Zk1 (E:=w2.heap.size) HQ1.out (HU.out.after hB3 ZnL) (HT.out.below hB3 ZnL) (HX2.out.alloc _) (Zm1 w2 _) HX2.out.lt)).mono ?_
  rintro e w3 ⟨w4,n,rfl,hk,hlt,hQ⟩
  clear hal
  have HW4:Hid (∃ x y,Zs w.heap.size (ZbO (.slice p1 n1 c1) x y) w4/\Below w.heap.size (w2.alloc (.cells #[.int .i64 0] 34)) w4/\
    ((∃ z,n=0/\sumA 0 (rats ps)=some z/\IsP z x y)\/(n=4/\sumA 0 (rats ps)=none/\x=ZnG/\y=ZnG))):=by
   rcases hQ with ⟨h1,z,x,y,h2,h3,h4,h5⟩ | ⟨h0,h1,h2,h3⟩
   ·exact⟨x,y,h4,h5,.inl ⟨z,h1,h2,h3⟩⟩
   ·exact⟨_,_,h2,h3,.inr ⟨h0,h1,rfl,rfl⟩⟩
  clear hQ
  obtain⟨x,y,hx4,hb4,hres⟩:=HW4.out
  have HX3:=ZnK (hx4.keeps hk (fun i hi=>by have:i<2:=hi;have:=HX2.out.lt;have h4:w.heap.size+2<=w2.heap.size:=this;omega))
  have hsz2:=HB2.out.size
  have HB3:ZnE w w3:=by
   have h5:Below w.heap.size w w4:=(HB2.out.alloc hsz2 _).trans hb4
   exact h5.trans ⟨hk.os,hk.tape,hk.output,hk.size,fun b hb=>hk.block b (by have:=h5.size;omega) Za⟩
  have HO3:=ZnK hres
  clear hk hx4 hb4 hres hlt hB3 HW4
  have r0:=HX3.out.cell 1 0 (b:=w.heap.size+1) rfl rfl rfl
  have r1:=HX3.out.cell 1 1 (b:=w.heap.size+1) rfl rfl rfl
  have f1:=HX3.out.free 1 0 (b:=w.heap.size+1) rfl rfl
  have f2:=HX3.out.free 1 1 (b:=w.heap.size+1) rfl rfl
  go_wp2
  obtain⟨hp1,hp2⟩:=ZiU HX3.out HB3.out x y
  obtain⟨w9,hw9⟩:=ZnM ((w3.setCell ⟨w.heap.size+1,0,none⟩ (.string x)).setCell ⟨w.heap.size+1,1,none⟩ (.string y))
  rw[hw9] at hp1 hp2
  rw[hw9]
  have s1:=hp1.cell 1 0 (b:=w.heap.size+1) rfl rfl rfl
  have s2:=hp1.cell 1 1 (b:=w.heap.size+1) rfl rfl rfl
  clear r0 r1 f1 f2 hw9
  refine ZmZ (v:=.tuple #[ZnH x y,.int .i64 n]) (by simp[results,Tryz.f133,go_sem,s1,s2]) rfl ⟨hp2,?_⟩
  refine .inr ⟨HC.out,?_⟩
  rcases HO3.out with ⟨z,h1,h2,h3⟩ | ⟨h1,h2,h3,h4⟩
  ·exact .inl ⟨z,x,y,h2,h3,by rw[h1]⟩
  ·exact .inr ⟨h2,by rw[h1,h3,h4];rfl⟩
 ·have hz:(c !=0)=true:=by rw[bne_iff_ne];exact h0
  have HC:Hid (chkL [ps]=c/\c≠0):=⟨hc,h0⟩
  clear h0 hc
  have r0:=HX2.out.cell 1 0 (b:=w.heap.size+1) rfl rfl rfl
  have r1:=HX2.out.cell 1 1 (b:=w.heap.size+1) rfl rfl rfl
  have f1:=HX2.out.free 1 0 (b:=w.heap.size+1) rfl rfl
  have f2:=HX2.out.free 1 1 (b:=w.heap.size+1) rfl rfl
  go_wp2
  obtain⟨hp1,hp2⟩:=ZiU HX2.out HB2.out ZnG ZnG
  obtain⟨w9,hw9⟩:=ZnM ((w2.setCell ⟨w.heap.size+1,0,none⟩ (.string ZnG)).setCell ⟨w.heap.size+1,1,none⟩ (.string ZnG))
  rw[hw9] at hp1 hp2
  rw[hw9]
  have s1:=hp1.cell 1 0 (b:=w.heap.size+1) rfl rfl rfl
  have s2:=hp1.cell 1 1 (b:=w.heap.size+1) rfl rfl rfl
  clear r0 r1 f1 f2 hw9
  refine ZmZ (v:=.tuple #[ZnH ZnG ZnG,.int .i64 c]) (by simp[results,Tryz.f133,go_sem,s1,s2]) rfl ⟨hp2,?_⟩
  exact .inl ⟨by rw[HC.out.1];exact HC.out.2,by rw[HC.out.1];rfl⟩
end Go.Proofs.YtjmckebecpjjfaaGreatDoor
