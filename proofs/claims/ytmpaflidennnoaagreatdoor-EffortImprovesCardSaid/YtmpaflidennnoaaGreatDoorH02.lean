/- The parts Trim, Plus, Back, Builder, Format, Groups, Make, Region, Reads, Short, Times, Compare, Greater. -/
import Derived.Test.YtmpaflidennnoaaGreatDoorH01
import Derived.RangeFuncBound
import Derived.RangeFuncCalls
import Derived.RangeFuncBox
import Derived.Shelf.Abstract
import Derived.OwnWalkIn
import Derived.TacticsInMore
import Derived.LoopNIn
import Derived.LoopIn
import Derived.Test.YtmpaflidennnoaaGreatDoorH00
import Derived.Shelf.Strings.BuilderK
import Derived.Lib.AppendIntMem
import Derived.StillTailTactics
import Derived.OrdersIn
import Derived.OrdersHeld
import Derived.Deep.QuietTactic
import Derived.BigQuiet
import Derived.Laws.Externs
set_option maxRecDepth 100000
set_option maxHeartbeats 4000000
set_option linter.unusedVariables false
set_option linter.unusedSimpArgs false
namespace Go.Proofs.YtmpaflidennnoaaGreatDoor
open Go.RowKit
def lenV:Value->Nat
 | .slice _ n _=>n
 | _=>0
theorem Zdj {B:Nat} {l:List Nat} {k:Nat} (hk:k<l.length) (h:l[k]=0):val B (l.take (k+1))=val B (l.take k):=by
 rw[Zcs B l k hk,h];simp
theorem ZeB {B:Nat} (hB:1<B) {l:List Nat} (hl:∀ x ∈ l,x<B) {k:Nat} (hk:k<l.length) (h:l[k]≠0):Zp B (val B (l.take (k+1)))=l.take (k+1):=by
 refine Zfh hB (fun x hx=>hl x (List.mem_of_mem_take hx)) ?_
 rw[List.take_succ_eq_append_getElem hk,List.getLast?_append]
 simpa using h
theorem Zba {B:Nat} (hB:1<B):∀ {l:List Nat},(∀ x ∈ l,x<B)->Zp B (val B l)=l.take (Zp B (val B l)).length:=by
 intro l hl
 induction h:l.length generalizing l with
 | zero=>
  have:l=[]:=ZoX h
  subst this;simp[val,ZO]
 | succ n ih=>
  have hn:n<l.length:=Za
  by_cases hz:l[n]=0
  ·have h1:val B l=val B (l.take n):=by
    rw[<- Zdj hn hz,ZoV Za]
   have h2:=ih (l:=l.take n) (fun x hx=>hl x (List.mem_of_mem_take hx)) (by rw[Zpr];omega)
   rw[h1]
   rw[List.take_take] at h2
   have h3:(Zp B (val B (l.take n))).length<=n:=by
    have:=congrArg List.length h2
    rw[Zpr] at this
    omega
   rw[Nat.min_eq_left h3] at h2
   exact h2
  ·have h1:=ZeB hB hl hn hz
   rw[ZoV Za] at h1
   rw[h1,ZoV ZpA]
theorem ZcR {B:Nat} (hB:1<B) {l:List Nat} (hl:∀ x ∈ l,x<B):(Zp B (val B l)).length<=l.length:=by
 have:=congrArg List.length (Zba hB hl)
 rw[Zpr] at this
 omega
theorem Zdv (p:Option Addr) (cap:Nat) (xs:List Nat) (w:World) (hlc:xs.length<=cap) (hcap:cap<=maxLen) (hlt:∀ x ∈ xs,x<1000000000)
  (hp:xs≠[]->∃ b off,p=some ⟨b,off,none⟩/\At .u64 w b off xs) :
  Calls Tryz.prog 126 #[.slice p xs.length cap] w fun e w'=>
   w=w'/\e=.returned (.slice p (Zp 1000000000 (val 1000000000 xs)).length cap):=by
 unfold maxLen at hcap
 have HP:=Zpz hp
 clear hp
 go_enter Tryz.func126,Tryz.ntmps126
 go_wp2
 go_loop [0] (fun v=>∃ k:Nat,k<=xs.length/\v=.slice p k cap/\Hid (val 1000000000 xs=val 1000000000 (xs.take k))) (fun v=>lenV v)
 case atStart=>exact⟨xs.length,Nat.le_refl _,rfl,by rw[ZoV ZpA];rfl⟩
 case round=>
  obtain⟨k,hk,rfl,HV⟩:=hrel
  rcases Zo0 k with h0 | h0
  ·subst h0
   go_wp2
   go_ret
   exact⟨rfl,by rw[HV.out];simp[val,ZO]⟩
  ·obtain⟨j,rfl⟩:∃ j,k=j+1:=⟨k-1,Za⟩
   have hj:j<xs.length:=Za
   obtain⟨b,off,rfl,hc⟩:=HP.out (ZoT Za)
   have hcj:w.cell? ⟨b,off+j,none⟩=some (.int .u64 (xs[j]:Nat)):=hc j hj
   clear hc
   by_cases hz:xs[j]=0
   ·have hz':((xs[j]:Nat):Int)=0:=by rw[hz];rfl
    rw[hz'] at hcj
    have HZ:=Zpz hz
    clear hz hz'
    go_wp2
    go_round
    case rel=>exact⟨j,Za,Zc,by rw[HV.out,Zdj hj HZ.out];rfl⟩
    case measure=>simp[lenV]
   ·have hz':(((xs[j]:Nat):Int)==0)=false:=by simpa using hz
    have HZ:=Zpz hz
    clear hz
    go_wp2
    go_ret
    exact⟨rfl,by rw[HV.out,ZeB Za hlt hj HZ.out];simp;omega⟩
theorem Zcz {E:TypeId} {B g cap:Nat} {xs:List Nat} {w:World} (h:Row .u64 E w B g cap xs) (hlt:∀ x ∈ xs,x<1000000000) (n:Nat) (hn:n=xs.length) (m:Nat) (hm:val 1000000000 xs=m) :
  Calls Tryz.prog 126 #[.slice (some ⟨g,0,none⟩) n cap] w fun e w'=>
   w=w'/\e=.returned (.slice (some ⟨g,0,none⟩) (Zp 1000000000 m).length cap)/\Row .u64 E w' B g cap (Zp 1000000000 m):=by
 subst hn;subst hm
 refine(Zdv (some ⟨g,0,none⟩) cap xs w h.cap_le.1 h.cap_le.2 hlt (fun _=>⟨g,0,rfl,h.at⟩)).mono ?_
 rintro e w' ⟨rfl,rfl⟩
 refine⟨rfl,rfl,?_⟩
 have:=h.take (Zp 1000000000 (val 1000000000 xs)).length
 rwa [<- Zba Za hlt] at this
def Num (w:World) (v:Value) (n:Nat):Prop:=Nums .u64 w v (Zp 1000000000 n)
def Zdh (B:Nat) (w:World) (v:Value) (n:Nat):Prop:=∃ g cap,v=.slice (some ⟨g,0,none⟩) (Zp 1000000000 n).length cap/\Row .u64 158 w B g cap (Zp 1000000000 n)
theorem Zdh.num {B:Nat} {w:World} {v:Value} {n:Nat} (h:Zdh B w v n):Num w v n:=by
 obtain⟨g,cap,rfl,hr⟩:=h
 exact hr.nums
theorem ZhF (p1 p2 q1 q2:Option Addr) (c1 c2 d1 d2:Nat) (xs ys:List Nat) (l1 l2:Nat) (w:World)
  (hsw:(l1=xs.length/\l2=ys.length/\q1=p1/\q2=p2/\d1=c1/\d2=c2)\/(l2=xs.length/\l1=ys.length/\l1<l2/\q2=p1/\q1=p2/\d2=c1/\d1=c2))
  (hle:ys.length<=xs.length) (hx:∀ x ∈ xs,x<1000000000) (hy:∀ x ∈ ys,x<1000000000) (hl:xs.length<=1000000)
  (hp1:xs≠[]->∃ b off,p1=some ⟨b,off,none⟩/\b<w.heap.size/\At .u64 w b off xs) (hp2:ys≠[]->∃ b off,p2=some ⟨b,off,none⟩/\b<w.heap.size/\At .u64 w b off ys) :
  Calls Tryz.prog 100 #[.slice q1 l1 d1,.slice q2 l2 d2] w fun e w'=>
   ∃ v,e=.returned v/\Zdh w.heap.size w' v (val 1000000000 xs+val 1000000000 ys)/\Below w.heap.size w w':=by
 obtain⟨i0,hi,hz0,hz1,hz2⟩:=info_parts Zcx
 have HX:=Zpz hx
 have HY:=Zpz hy
 have HP1:=Zpz hp1
 have HP2:=Zpz hp2
 clear hx hy hp1 hp2
 have hs:(l1=xs.length/\l2=ys.length/\q1=p1/\q2=p2/\d1=c1/\d2=c2/\¬ l1<l2)\/(l2=xs.length/\l1=ys.length/\l1<l2/\q2=p1/\q1=p2/\d2=c1/\d1=c2):=by
  rcases hsw with ⟨h1,h2,h3⟩ | h
  ·exact .inl ⟨h1,h2,h3.1,h3.2.1,h3.2.2.1,h3.2.2.2,Za⟩
  ·exact .inr h
 clear hsw
 rcases hs with ⟨rfl,rfl,rfl,rfl,rfl,rfl,hn⟩ | ⟨rfl,rfl,hn,rfl,rfl,rfl,rfl⟩
 all_goals
  go_enter Tryz.func100,Tryz.ntmps100
  go_wp2_with (at_make;refine wpList_make_own _ rfl _ _ 110 rfl w.heap.size 158 i0 (.int .u64 0) 1 Tryz.underlying110 hi hz0 hz1 _ _ _ (xs.length+1) rfl rfl Za ?b2 ?b3 ZpA ?_)
  case b2=>rw[hz2];omega
  case b3=>unfold maxLen;omega
  intro w0 hown0 hgrow0
  have HB0:=Zpz ((ZoL w.heap.size w).grown hgrow0 ZpA (fun k h=>by cases h))
  have HR0:=Zpz (Row.made (k:=.u64) hown0)
  clear hgrow0 hown0
  go_wp2
  go_loopw [5,6,22] (fun o c i wr=>∃ (k:Nat) (out:List Nat) (cr:Nat),k<=xs.length/\i=.int .i64 k/\o=.slice (some ⟨w.heap.size,0,none⟩) k (xs.length+1)/\c=.int .u64 cr/\
    Hid (Row .u64 158 wr w.heap.size w.heap.size (xs.length+1) out)/\Hid (PlusInv 1000000000 xs ys k out cr)/\Zpt w wr) (fun _ _ i _=>xs.length-(intOf i).toNat)
  case atStart=>exact⟨0,[],0,ZoY _,rfl,rfl,rfl,HR0,PlusInv.start _ _ _,HB0⟩
  case round=>
   obtain⟨k,out,cr,hk,rfl,rfl,rfl,HR,HI,HB⟩:=hrel
   have hcr:cr<=1:=HI.out.carry
   by_cases hlt:k<xs.length
   ·obtain⟨b1,off1,rfl,hb1,ha1⟩:=HP1.out (ZoT Za)
    obtain⟨x,hx⟩:=ZpB (xs.getD k 0)
    have hxl:x<1000000000:=by rw[<- hx];exact ZM Za HX.out k
    have cx:wr.cell? ⟨b1,off1+k,none⟩=some (.int .u64 (x:Nat)):=(HB.out.cell (p:=⟨b1,off1+k,none⟩) hb1).trans (ha1.getD hlt hx)
    have Hx:=Zpz hx
    clear hx ha1
    by_cases hlt2:k<ys.length
    ·obtain⟨b2,off2,rfl,hb2,ha2⟩:=HP2.out (ZoT Za)
     obtain⟨y,hy⟩:=ZpB (ys.getD k 0)
     have hyl:y<1000000000:=by rw[<- hy];exact ZM Za HY.out k
     have cy:wr.cell? ⟨b2,off2+k,none⟩=some (.int .u64 (y:Nat)):=(HB.out.cell (p:=⟨b2,off2+k,none⟩) hb2).trans (ha2.getD hlt2 hy)
     have Hy:=Zpz hy
     clear hy ha2
     have e1:((x:Int)+cr+y) % 1000000000=((x+cr+y) % 1000000000:Nat):=Za
     have e2:((x:Int)+cr+y)/1000000000=((x+cr+y)/1000000000:Nat):=Za
     have E1:=Zpz e1
     have E2:=Zpz e2
     clear e1 e2
     have HS:Hid (PlusInv 1000000000 xs ys (k+1) (out++[(x+cr+y) % 1000000000]) ((x+cr+y)/1000000000)):=
      HI.out.step Za HX.out HY.out (by rw[Hx.out,Hy.out])
     have hown:=HR.out.own HI.out.len
     go_wp2_with (at_builtin;refine wpList_append_fits _ rfl (.tmp 40) (.tmp 43) 110 rfl w.heap.size 158 i0 1 Tryz.underlying110 hi hz1 w.heap.size k (xs.length+1) _ rfl (hown.alloc _) ⟨wr.heap.size,0,none⟩ 1 1 [.int .u64 (((x:Int)+cr+y) % 1000000000)] rfl rfl (cell_one_new _ _ _) (by simp[Value.oneCell']) Za ?_;intro w1 hown1 hgrow1)
     have HR1:=Zpz (Row.snoc HI.out.len.symm E1.out hown1)
     have HB1:=Zpz ((HB.out.alloc HB.out.size _).grown hgrow1 (by have:=HB.out.size;simp;omega) (fun k h=>by cases h;exact Nat.le_refl _))
     clear hown1 hgrow1
     go_roundw
     case rel=>exact⟨k+1,_,_,Za,by go_num,rfl,by rw[E2.out],HR1,HS,HB1⟩
     case measure=>exact Zj
    ·have e1:((x:Int)+cr) % 1000000000=((x+cr) % 1000000000:Nat):=Za
     have e2:((x:Int)+cr)/1000000000=((x+cr)/1000000000:Nat):=Za
     have E1:=Zpz e1
     have E2:=Zpz e2
     clear e1 e2
     have HS:Hid (PlusInv 1000000000 xs ys (k+1) (out++[(x+cr) % 1000000000]) ((x+cr)/1000000000)):=
      HI.out.step Za HX.out HY.out (by rw[Hx.out];simp[List.getD,hlt2])
     have hown:=HR.out.own HI.out.len
     go_wp2_with (at_builtin;refine wpList_append_fits _ rfl (.tmp 40) (.tmp 43) 110 rfl w.heap.size 158 i0 1 Tryz.underlying110 hi hz1 w.heap.size k (xs.length+1) _ rfl (hown.alloc _) ⟨wr.heap.size,0,none⟩ 1 1 [.int .u64 (((x:Int)+cr) % 1000000000)] rfl rfl (cell_one_new _ _ _) (by simp[Value.oneCell']) Za ?_;intro w1 hown1 hgrow1)
     have HR1:=Zpz (Row.snoc HI.out.len.symm E1.out hown1)
     have HB1:=Zpz ((HB.out.alloc HB.out.size _).grown hgrow1 (by have:=HB.out.size;simp;omega) (fun k h=>by cases h;exact Nat.le_refl _))
     clear hown1 hgrow1
     go_roundw
     case rel=>exact⟨k+1,_,_,Za,by go_num,rfl,by rw[E2.out],HR1,HS,HB1⟩
     case measure=>exact Zj
   ·obtain rfl:k=xs.length:=Za
    have hown:=HR.out.own HI.out.len
    have HV:=Zpz (HI.out.done hle)
    have HL:Hid (∀ z ∈ out++[cr],z<1000000000):=ZbV HI.out.lt Za
    have HN:=Zpz HI.out.len
    go_wp2_with (at_builtin;refine wpList_append_fits _ rfl (.tmp 48) (.tmp 50) 110 rfl w.heap.size 158 i0 1 Tryz.underlying110 hi hz1 w.heap.size xs.length (xs.length+1) _ rfl (hown.alloc _) ⟨wr.heap.size,0,none⟩ 1 1 [.int .u64 cr] rfl rfl (cell_one_new _ _ _) (by simp[Value.oneCell']) Za ?_;intro w1 hown1 hgrow1)
    have hr1:=Row.snoc HN.out.symm rfl hown1
    have HB1:=Zpz ((HB.out.alloc HB.out.size _).grown hgrow1 (by have:=HB.out.size;simp;omega) (fun k h=>by cases h;exact Nat.le_refl _))
    clear hown1 hgrow1
    refine(Zcz hr1 HL.out _ (by simp[HN.out]) _ HV.out).mono ?_
    rintro e w' ⟨rfl,rfl,hr2⟩
    have HR2:=Zpz hr2
    clear hr1 hr2
    go_wp2
    go_ret
    exact⟨_,rfl,⟨_,_,rfl,HR2.out⟩,HB1.out⟩
theorem Zm1 {v1 v2:Value} {n m:Nat} {w:World} (h1:Num w v1 n) (h2:Num w v2 m) (hl1:(Zp 1000000000 n).length<=1000000) (hl2:(Zp 1000000000 m).length<=1000000) :
  Calls Tryz.prog 100 #[v1,v2] w fun e w'=>∃ v,e=.returned v/\Zdh w.heap.size w' v (n+m)/\Below w.heap.size w w':=by
 obtain⟨p1,c1,rfl,_,_,hp1⟩:=h1
 obtain⟨p2,c2,rfl,_,_,hp2⟩:=h2
 have e1:=ZA (B:=1000000000) Za n
 have e2:=ZA (B:=1000000000) Za m
 rcases ZoR (Zp 1000000000 n).length (Zp 1000000000 m).length with h | h
 ·have:=ZhF p2 p1 p1 p2 c2 c1 c1 c2 _ _ _ _ w (.inr ⟨rfl,rfl,h,rfl,rfl,rfl,rfl⟩) (Zph h) (ZJ Za m) (ZJ Za n) hl2 hp2 hp1
  rw[e1,e2,Nat.add_comm m n] at this
  exact this
 ·have:=ZhF p1 p2 p1 p2 c1 c2 c1 c2 _ _ _ _ w (.inl ⟨rfl,rfl,rfl,rfl,rfl,rfl⟩) h (ZJ Za n) (ZJ Za m) hl1 hp1 hp2
  rw[e1,e2] at this
  exact this
end Go.Proofs.YtmpaflidennnoaaGreatDoor
namespace Go.Proofs.YtmpaflidennnoaaGreatDoor
open Go.RowKit Go.Shelf
attribute [local go_sem] Oper.semAt_some
def bk (n k:Nat):Nat:=n-1-k
theorem At.keeps {k:IntKind} {S:Nat->Prop} {w w':World} {b off:Nat} {xs:List Nat} (h:At k w b off xs) (hb:Keeps S w w') (hs:S b):At k w' b off xs:=
 fun j hj=>hb.cellAt (p:=⟨b,off+j,none⟩) (h j hj) hs
theorem Ze6 (Bs:Nat) (S:Nat->Prop) (p:Option Addr) (cap:Nat) (xs:List Nat) (hl:xs.length<=1000000) (w0:World) (hS:S Bs)
  (hBs:w0.cell? ⟨Bs,0,none⟩=some (.slice p xs.length cap)) (hp:xs≠[]->∃ b off,p=some ⟨b,off,none⟩/\S b/\At .u64 w0 b off xs) :
  Iter Tryz.prog 176 #[.pointer (some ⟨Bs,0,none⟩)] (fun k=>#[.int .i64 (bk xs.length k:Nat),.int .u64 (lim xs (bk xs.length k):Nat)]) xs.length S (fun _=>True) w0:=by
 intro n l J Jx W hK hJ hJx hY h0
 have HP:Hid (xs≠[]->∃ b off,p=some ⟨b,off,none⟩/\S b/\At .u64 W b off xs):=fun hne=>by
  obtain⟨b,off,h1,h2,h3⟩:=hp hne
  exact⟨b,off,h1,h2,h3.keeps hK h2⟩
 have hB1:W.cell? ⟨Bs,0,none⟩=some (.slice p xs.length cap):=hK.cellAt hBs hS
 have HY:=Zpz hY
 clear hp hY hBs
 refine callsIn_of_wp Tryz.func176 rfl trivial ?_ rfl
 simp only[Tryz.ntmps176,Nat.reduceAdd,Nat.reduceSub,Zpy]
 gi_wp2
 gi_loopw [3] (fun iv wr=>∃ (i:Int) (k:Nat),iv=.int .i64 i/\Hid (i+k+1=xs.length)/\-1<=i/\i<xs.length/\J k wr/\Hid (Keeps S W wr))
  (fun iv _=>(intOf iv+1).toNat)
 case atStart=>exact⟨_,0,rfl,by show _=_;omega,Za,Za,h0,Keeps.refl _ _⟩
 case round=>
  obtain⟨i,k,rfl,HK,hi1,hi2,hJs,HN⟩:=hrel
  have hbs':wr.cell? ⟨Bs,0,none⟩=some (.slice p xs.length cap):=HN.out.cellAt hB1 hS
  clear hB1
  by_cases hge:0<=i
  ·obtain⟨j,rfl⟩:∃ j:Nat,i=(j:Int):=⟨i.toNat,Za⟩
   have hjl:j<xs.length:=Za
   obtain⟨b,off,rfl,hb,ha⟩:=HP.out (ZoT Za)
   obtain⟨x,hx⟩:=ZpB (lim xs j)
   have hcx:wr.cell? ⟨b,off+j,none⟩=some (.int .u64 (x:Nat)):=HN.out.cellAt (ha.getD hjl hx) hb
   have hjk:bk xs.length k=j:=by have:=HK.out;unfold bk;omega
   have hkl:k<xs.length:=by have:=HK.out;omega
   obtain⟨fn,tmps,assign,body,hy,hR⟩:=HY.out k wr hkl hJs
   rw[hjk,hx] at hy
   clear ha hx hjk hJs
   gi_wp2
   refine⟨(fun h=>by cases h),hR.mono ?_⟩
   rintro e W3 (⟨rfl,hJ3,hk3⟩ | ⟨rfl,hJx3⟩)
   ·have HN3:=Zpz (HN.out.trans hk3)
    clear hk3
    gi_wp2
    go_roundw
    case rel=>exact⟨_,k+1,rfl,by show _=_;have:=HK.out;omega,Za,Za,hJ3,HN3⟩
    case measure=>simp[intOf]
   ·gi_wp2
    refine ZoM (results_none rfl _ _ _) rfl ?_
    exact⟨⟨_,rfl⟩,.inr ⟨k,hkl,hJx3⟩⟩
  ·obtain rfl:i = -1:=Za
   have hkl:k=xs.length:=by have:=HK.out;omega
   have HKL:=Zpz hkl
   clear hkl
   gi_wp2
   go_end0
   exact⟨⟨_,rfl⟩,.inl (by rw[<- HKL.out];exact hJs)⟩
theorem Zhm (F:Fence) (n:Nat) (hf:F.fn 127) (hro:F.round=none) (p:Option Addr) (len cap:Nat) (w:World) :
  CallsIn F n Tryz.prog 127 #[.slice p len cap] w fun e w'=>e=.returned (.func (.func 176) #[] #[.pointer (some ⟨w.heap.size,0,none⟩)])/\w'=w.alloc (.cells #[.slice p len cap] 110):=by
 refine callsIn_of_wp Tryz.func127 rfl hf ?_ hro
 simp only[Tryz.ntmps127,Nat.reduceAdd,Nat.reduceSub,Zpy]
 gi_wp2
 go_ret
 exact⟨rfl,rfl⟩
end Go.Proofs.YtmpaflidennnoaaGreatDoor
namespace Go.Proofs.YtmpaflidennnoaaGreatDoor
open Go.RowKit Go.Shelf
theorem bX:Builder.Extra Tryz.prog Tryz.lays169_ren:=Tryz.Builder_Extra_169
theorem Zhp (b:Nat) (w:World) (h0:w.cell? ⟨b,0,none⟩=some (.pointer (some ⟨b,0,none⟩))) :
  Calls Tryz.prog 220 #[.pointer (some ⟨b,0,none⟩)] w fun e w'=>e=.returned (.tuple #[])/\w'=w:=by
 obtain⟨j,hj,_⟩:=Option.map_eq_some_iff.1 bX.sizeBuilder
 go_enter Tryz.func220,Tryz.ntmps220
 go_wp2
 rw[Lib.run_neq_ptr_same w _ Tryz.underlying235 hj]
 go_wp2
 go_end0
 exact⟨rfl,rfl⟩
theorem Zgv (b:Nat) (w:World) (h0:w.cell? ⟨b,0,none⟩=some (.pointer none)) (hsh:w.shape? b=some (238,2)) (hfz:w.frozen? ⟨b,0,none⟩=false) :
  Calls Tryz.prog 220 #[.pointer (some ⟨b,0,none⟩)] w fun e w'=>e=.returned (.tuple #[])/\w'=w.setCell ⟨b,0,none⟩ (.pointer (some ⟨b,0,none⟩)):=by
 obtain⟨j,hj,hjs⟩:=Option.map_eq_some_iff.1 bX.sizeBuilder
 go_enter Tryz.func220,Tryz.ntmps220
 go_wp2
 rw[Lib.run_to_unsafe w ⟨b,0,none⟩ Tryz.underlying235 Tryz.underlying276 hj (by rw[hjs];decide) hsh (Nat.zero_lt_succ 1)]
 simp only[Result.andThen]
 rw[Oper.upon_value]
 go_wp2
 rw[run_callFunc_extern Tryz.func234 Zb Zb Zb (e:=Extern.AbiNoEscape.same) Zb]
 rw[Lib.run_noEscape]
 simp only[Result.andThen]
 rw[Oper.upon_value]
 go_wp2
 rw[Lib.run_from_unsafe w ⟨b,0,none⟩ Tryz.underlying276 Tryz.underlying235 hj hsh bX.liesBuilder]
 simp only[Result.andThen]
 rw[Oper.upon_value]
 go_wp2
 go_end0
 exact⟨rfl,rfl⟩
def Bld (B b:Nat) (l:List UInt8) (w:World):Prop:=Lib.IsBuilderF 238 5 B b (Lib.byteCells l) w
theorem Zh1 (B b:Nat) (bs:List Value) (w:World) (h:Lib.IsBuilderF 238 5 B b bs w) :
  Calls Tryz.prog 220 #[.pointer (some ⟨b,0,none⟩)] w fun e w'=>e=.returned (.tuple #[])/\
   (Lib.BuilderAtF 238 5 B b (.pointer (some ⟨b,0,none⟩)) bs w'/\Below B w w'/\Lib.OthersKept 5 (some b) w w'):=by
 rcases h with h | h
 ·refine(Zgv b w h.cell0 h.shape h.frozen0).mono ?_
  rintro e w' ⟨rfl,rfl⟩
  exact⟨rfl,h.used _,(ZoL B w).setCell (p:=⟨b,0,none⟩) h.1 _,(Lib.OthersKept.refl _ _ w).setCell ⟨b,0,none⟩ rfl _⟩
 ·refine(Zhp b w h.cell0).mono ?_
  rintro e w' ⟨rfl,rfl⟩
  exact⟨rfl,h,ZoL B _,Lib.OthersKept.refl _ _ _⟩
theorem ZfL (B b:Nat) (bs:List Value) (s:ByteArray) (w:World) (h:Lib.IsBuilderF 238 5 B b bs w) (hlen:bs.length+s.size<=140737488355328) (hBw:B<=w.heap.size) :
  Calls Tryz.prog 197 #[.pointer (some ⟨b,0,none⟩),.string s] w fun e w'=>e=.returned (.tuple #[.int .i64 s.size,.nilIface])/\
   (Lib.BuilderAtF 238 5 B b (.pointer (some ⟨b,0,none⟩)) (bs++Lib.strCells s) w'/\Below B w w'/\Lib.OthersKept 5 (some b) w w'):=by
 obtain⟨i0,hi,hz0,hz1,hz2⟩:=info_parts bX.infoByte
 go_enter Tryz.func197,Tryz.ntmps197
 go_wp2_with (go_at_call 220;refine(Zh1 B b bs _ h).mono ?_)
 rintro e w1 ⟨rfl,h1,hb1,hk1⟩
 obtain⟨hB,v,hbk,hown,hne⟩:=h1
 have c0:w1.cell? ⟨b,0,none⟩=some (.pointer (some ⟨b,0,none⟩)):=by rw[Lib.cell_of_heap hbk];rfl
 have c1:w1.cell? ⟨b,1,none⟩=some v:=by rw[Lib.cell_of_heap hbk];rfl
 go_wp2_with (at_builtin;refine Lib.wpList_append_own_stringF _ rfl _ _ 236 9 rfl B 5 i0 Tryz.underlying236 Tryz.underlying9 hi hz0 hz1 hz2 _ _ _ rfl hown s rfl ?c3 ?c4 ?c5 ?_)
 case c3=>unfold maxLen;omega
 case c4=>omega
 case c5=>have:=hb1.size;omega
 intro v' w2 hown' hgrow _
 have hlt:b<w1.heap.size:=(Zpu hbk)
 have hb2:w2.heap[b]?=some (.cells #[.pointer (some ⟨b,0,none⟩),v] 238 (0,0)):=by
  rw[hgrow.block b hlt (fun e=>hne e.symm)]
  exact hbk
 have d0:w2.cell? ⟨b,0,none⟩=some (.pointer (some ⟨b,0,none⟩)):=by rw[Lib.cell_of_heap hb2];rfl
 have d1:w2.cell? ⟨b,1,none⟩=some v:=by rw[Lib.cell_of_heap hb2];rfl
 have f1:w2.frozen? ⟨b,1,none⟩=false:=Lib.frozen_of_heap hb2 1
 obtain⟨ao,n',cap,rfl⟩:∃ ao n' cap,v'=.slice ao n' cap:=by
  rcases hown'.2 with ⟨hv,_⟩ | ⟨g,cap,cur,fz,hv,_⟩
  ·exact⟨_,_,_,hv⟩
  ·exact⟨_,_,_,hv⟩
 go_wp2
 go_ret2
 refine⟨rfl,?_,?_,(hk1.grown hgrow (Lib.ownsRowF_kind hown)).setCell ⟨b,1,none⟩ rfl _⟩
 ·exact Lib.BuilderAtF.put (T:=238) (e:=5) hB hb2 (bs':=bs++Lib.strCells s) (by simpa[Lib.strCells_length] using hown') bX.neB5
 ·exact(hb1.grown hgrow (by have:=hb1.size;omega) (fun k hk=>(hown.lt k hk).1)).setCell (p:=⟨b,1,none⟩) hB _
end Go.Proofs.YtmpaflidennnoaaGreatDoor
namespace Go.Proofs.YtmpaflidennnoaaGreatDoor
open Go.RowKit Go.Shelf Go.Sort Go.Lib
theorem Zf3 (i:Nat) (hi:i<100) (w:World) :
  Calls Tryz.prog 221 #[.int .u64 i,.int .i64 10] w fun e w'=>e=.returned (.string ⟨(Lib.decDigits i).toArray⟩)/\Below w.heap.size w w':=by
 go_enter Tryz.func221,Tryz.ntmps221
 go_wp2_with (go_at_call 235;refine(Tryz.internal_strconv_small i hi _).mono ?_;rintro e w' ⟨rfl,rfl⟩)
 go_ret
 exact⟨rfl,ZoL _ _⟩
theorem Zgi (u:Nat) (hu:100<=u) (hu64:u<18446744073709551616) (w:World) (htab:Lib.TabIs Tryz.prog w "internal/strconv.uint64pow10" .u64 Lib.pow10Tab) :
  Calls Tryz.prog 221 #[.int .u64 u,.int .i64 10] w fun e w'=>e=.returned (.string ⟨(Lib.decDigits u).toArray⟩)/\Below w.heap.size w w':=by
 have hu1:1<=u:=Za
 have hnd20:Lib.nDigits u<=20:=by have:=Lib.numDigits_eq u hu1 hu64;split at this<;>omega
 have hal:Tryz.prog.arrayLen 278=24:=Zb
 have hel:Tryz.prog.elem 278=5:=Zb
 have hsl1:∀ W,(Instr.sliceAt 278 (.pointer (some ⟨w.heap.size,0,none⟩)) none (some (.int .i64 (Lib.nDigits u:Int))) none).run Tryz.prog W=.ok (.slice (some ⟨w.heap.size,0,none⟩) (Lib.nDigits u) 24) W:=fun W=>by
  rw[run_sliceAt_array_h W 278 ⟨w.heap.size,0,none⟩ (by simp[hal,hel]) .i64 (Lib.nDigits u:Int) Za (by rw[hal];omega)]
  go_simp
 have hH0:=Lib.holds_zero0 w 278 (Lib.nDigits u) Za
 have hfmt:=Tryz.internal_strconv_formatBase10 w.heap.size 0 24 u (Array.replicate (Lib.nDigits u) 0) (w.alloc (.cells Lib.zeros24 278)) hH0 (by rw[Array.size_replicate];exact Lib.lt_pow_nDigits u) hu64 (by rw[Array.size_replicate];omega)
 rw[Array.size_replicate] at hfmt
 have HH0:=Zpz hH0
 clear hH0 hal hel
 have hul:¬ (u:Int)<100:=Za
 go_enter Tryz.func221,Tryz.ntmps221
 go_wp2_with (first
  | (go_at_call 236;refine(Tryz.internal_strconv_numDigits u hu1 hu64 _ (Lib.tabIs_alloc htab _)).mono ?_;rintro e w' ⟨rfl,rfl⟩))
 refine hfmt.mono ?_
 rintro e w' ⟨rfl,k,v',dk,rfl,hF⟩
 have hcv:(convert 236 9 (.slice (some ⟨w.heap.size,0,none⟩) (Lib.nDigits u) 24)).run Tryz.prog ((putRow (fun(b:UInt8)=>Value.int .u8 (b.toNat:Int)) (w.alloc (.cells Lib.zeros24 278)) w.heap.size 0 dk).drewN k)=.ok (.string ⟨(Lib.decDigits u).toArray⟩) ((putRow (fun(b:UInt8)=>Value.int .u8 (b.toNat:Int)) (w.alloc (.cells Lib.zeros24 278)) w.heap.size 0 dk).drewN k):=by
  have h:=run_convert_bytes_back (P:=Tryz.prog) ((putRow (fun(b:UInt8)=>Value.int .u8 (b.toNat:Int)) (w.alloc (.cells Lib.zeros24 278)) w.heap.size 0 dk).drewN k) 236 9 5 ⟨w.heap.size,0,none⟩ 24 (Lib.decDigits u) Tryz.underlying236 Tryz.underlying5 Tryz.underlying9 (fun j hj=>by
   rw[Lib.row_is_numeral hF j hj,Lib.add_plain,World.cell?_drewN]
   exact cell?_putRow (fun(b:UInt8)=>Value.int .u8 (b.toNat:Int)) _ w.heap.size 0 _ dk HH0.out (by rw[hF.size,Array.size_replicate]) j (by rw[hF.size];rw[Lib.decDigits_length] at hj;exact hj))
  rw[Lib.decDigits_length] at h
  exact h
 go_wp2
 go_ret
 refine⟨rfl,?_⟩
 obtain⟨os,eo⟩:=Lib.fin_at w (.cells Lib.zeros24 278) dk k 0
 rw[eo]
 exact Lib.below_grow _ _ ZpA _ _
theorem Zeg (u:Nat) (hu64:u<18446744073709551616) (w:World) (htab:Lib.TabIs Tryz.prog w "internal/strconv.uint64pow10" .u64 Lib.pow10Tab) :
  Calls Tryz.prog 198 #[.int .u64 u,.int .i64 10] w fun e w'=>e=.returned (.string ⟨(Lib.decDigits u).toArray⟩)/\Below w.heap.size w w':=by
 have h:Calls Tryz.prog 221 #[.int .u64 u,.int .i64 10] w fun e w'=>e=.returned (.string ⟨(Lib.decDigits u).toArray⟩)/\Below w.heap.size w w':=by
  rcases ZoR u 100 with hu | hu
  ·exact Zf3 u hu w
  ·exact Zgi u hu hu64 w htab
 go_enter Tryz.func198,Tryz.ntmps198
 go_wp2_with (go_at_call 221;refine h.mono ?_;rintro e w' ⟨rfl,hb⟩)
 have HB:=Zpz hb
 clear hb h
 go_wp2
 go_ret
 exact⟨rfl,HB.out⟩
end Go.Proofs.YtmpaflidennnoaaGreatDoor
namespace Go.Proofs.YtmpaflidennnoaaGreatDoor
open Go.RowKit Go.Shelf
attribute [local go_sem] Oper.semAt_some
theorem ZiC (t:ByteArray) (a:Nat):(t.extract a t.size).data.toList=t.data.toList.drop a:=by
 rw[ByteArray.data_extract,Array.toList_extract,List.extract_eq_take_drop]
 exact ZoV (by rw[List.length_drop,Zy];exact Nat.le_refl _)
theorem Ziu (t:ByteArray) (a:Nat):(t.extract 0 a).data.toList=t.data.toList.take a:=by
 rw[ByteArray.data_extract,Array.toList_extract,List.extract_eq_take_drop]
 simp
theorem _root_.Go.RowKit.Below.keepsAll {w w':World} (h:Below w.heap.size w w') (S:Nat->Prop):Keeps S w w':=⟨h.os,h.tape,h.output,h.size,fun k hk _=>h.block k hk⟩
def ZaK (l:List UInt8) (k:Nat):List UInt8:=l.take (l.length-9*k)
def gval (l:List UInt8) (k:Nat):Nat:=Zq ((ZaK l k).drop (l.length-9*k-9))
def Za6 (l:List UInt8):Nat:=(l.length+8)/9
theorem Za4 (l:List UInt8) (k:Nat):(ZaK l k).length=l.length-9*k:=by unfold ZaK;rw[Zpr];omega
theorem ZgM (l:List UInt8):ZaK l 0=l:=by unfold ZaK;exact ZoV Za
theorem Zg5 (l:List UInt8) (k:Nat):ZaK l (k+1)=(ZaK l k).take (l.length-9*k-9):=by
 unfold ZaK
 rw[List.take_take]
 congr 1
 omega
theorem Zn1 {l:List UInt8} (h:∀ c ∈ l,ZG c=true) (k:Nat):gval l k<1000000000:=by
 have h1:=Zb5 (s:=(ZaK l k).drop (l.length-9*k-9)) fun c hc=>h c (List.mem_of_mem_take (List.mem_of_mem_drop hc))
 have h2:((ZaK l k).drop (l.length-9*k-9)).length<=9:=by rw[List.length_drop,Za4];omega
 have h3:10 ^ ((ZaK l k).drop (l.length-9*k-9)).length<=10 ^ 9:=ZoW Za h2
 unfold gval
 omega
theorem Zmp (l:List UInt8) (k:Nat):Zq (ZaK l k)=gval l k+1000000000*Zq (ZaK l (k+1)):=by
 have h1:=Zcu ((ZaK l k).take (l.length-9*k-9)) ((ZaK l k).drop (l.length-9*k-9))
 rw[List.take_append_drop,<- Zg5] at h1
 rw[h1]
 unfold gval
 rcases ZoR (l.length-9*k) 9 with h2 | h2
 ·have h3:ZaK l (k+1)=[]:=ZoX (by rw[Za4];omega)
  rw[h3,Zb7];omega
 ·have h3:((ZaK l k).drop (l.length-9*k-9)).length=9:=by rw[List.length_drop,Za4];omega
  rw[h3];omega
theorem ZlE (l:List UInt8) (k:Nat):val 1000000000 ((List.range k).map (gval l))+1000000000 ^ k*Zq (ZaK l k)=Zq l:=by
 induction k with
 | zero=>simp[val,ZgM]
 | succ k ih=>
  rw[List.range_succ,List.map_append,List.map_cons,List.map_nil,ZbQ,Zpi]
  simp only[List.length_map,List.length_range]
  rw[Zmp] at ih
  grind
theorem Zhu (l:List UInt8):val 1000000000 ((List.range (Za6 l)).map (gval l))=Zq l:=by
 have h:=ZlE l (Za6 l)
 have h2:ZaK l (Za6 l)=[]:=ZoX (by rw[Za4];unfold Za6;omega)
 rw[h2,Zb7] at h
 simpa using h
theorem Zjs (Bs:Nat) (S:Nat->Prop) (s:ByteArray) (hl:s.size<=1000000) (hd:∀ c ∈ s.data.toList,ZG c=true) (w0:World) (hS:S Bs)
  (hBs:w0.cell? ⟨Bs,0,none⟩=some (.string s)) (hF:w0.frozen? ⟨Bs,0,none⟩=false) :
  Iter Tryz.prog 215 #[.pointer (some ⟨Bs,0,none⟩)] (fun k=>#[.int .u64 (gval s.data.toList k:Nat)]) (Za6 s.data.toList) S (fun b=>b≠Bs) w0:=by
 intro n l J Jx W hK hJ hJx hY h0
 have hB1:W.cell? ⟨Bs,0,none⟩=some (.string s):=hK.cellAt hBs hS
 have hF1:W.frozen? ⟨Bs,0,none⟩=false:=by rw[hK.frozen (Zo5 _ _ hBs) hS];exact hF
 have HY:=Zpz hY
 have HJ:=Zpz hJ
 clear hY hBs hF hJ
 refine callsIn_of_wp Tryz.func215 rfl trivial ?_ rfl
 simp only[Tryz.ntmps215,Nat.reduceAdd,Nat.reduceSub,Zpy]
 gi_wp2
 gi_loopw [] (fun wr=>∃ (k:Nat) (t:ByteArray),k<=Za6 s.data.toList/\wr.cell? ⟨Bs,0,none⟩=some (.string t)/\wr.frozen? ⟨Bs,0,none⟩=false/\Hid (t.data.toList=ZaK s.data.toList k)/\J k wr)
  (fun wr=>match wr.cell? ⟨Bs,0,none⟩ with | some (.string t)=>t.size | _=>0)
 case atStart=>exact⟨0,s,ZoY _,hB1,hF1,(ZgM _).symm,h0⟩
 case round=>
  obtain⟨k,t,hk,hc,hf,HT,hJk⟩:=hrel
  obtain⟨r,hr⟩:=ZpB t.size
  have HTS:Hid (r=s.size-9*k):=by show _=_;rw[<- hr,<- Zy,HT.out,Za4,Zy]
  by_cases h0:r=0
  ·have hb:¬ (0:Int)<t.size:=Za
   have hkN:k=Za6 s.data.toList:=by have:=HTS.out;unfold Za6 at *;rw[Zy] at *;omega
   clear h0
   gi_wp2
   go_end0
   exact⟨⟨_,rfl⟩,.inl (by rw[<- hkN];exact hJk)⟩
  ·have hkN:k<Za6 s.data.toList:=by have:=HTS.out;unfold Za6 at *;rw[Zy] at *;omega
   have hrl:r<=1000000:=by have:=HTS.out;omega
   obtain⟨a,ha⟩:=ZpB (r-9)
   have hm:max 0 ((r:Int)-9)=(a:Nat):=Za
   have har:a<=r:=Za
   have HA:Hid (a=s.size-9*k-9):=by have:=HTS.out;show _=_;omega
   have HA9:Hid (r-a<=9/\0<r-a):=by refine⟨?_,?_⟩<;>omega
   have hG:(t.extract a r).data.toList=(ZaK s.data.toList k).drop (s.size-9*k-9):=by
    rw[<- HA.out,<- HT.out,<- hr]
    exact ZiC t a
   have hL:(t.extract a r).size=r-a:=by
    rw[<- Zy,hG,List.length_drop,Za4,Zy]
    have:=HTS.out;have:=HA.out;omega
   have hP:Lib.parseUintB 64 (t.extract a r).data.toList=.ok (gval s.data.toList k):=by
    rw[ZfE]
    ·rw[hG];rfl
    ·intro c hc;rw[hG] at hc;exact hd c (List.mem_of_mem_take (List.mem_of_mem_drop hc))
    ·intro hc
     have h1:=congrArg List.length hc
     rw[Zy,hL] at h1
     have:=HA9.out.2
     simp at h1;omega
    ·rw[Zy,hL];have:=HA9.out.1;omega
   have hu:=Tryz.strconv_ParseUint_10_at64_ok (t.extract a r) (by rw[hL];omega) _ hP wr
   have HG2:Hid ((t.extract 0 a).data.toList=ZaK s.data.toList (k+1)):=by
    show _=_
    rw[Zg5,Zy,<- HA.out,<- HT.out]
    exact Ziu t a
   clear hP hG ha
   gi_wp2
   refine⟨trivial,(fun h=>by cases h),Zpf.2 (hu.mono ?_)⟩
   rintro e w2 ⟨rfl,hw2⟩
   have hk2:∀ S':Nat->Prop,Keeps S' wr w2:=fun S'=>by
    rcases hw2 with rfl | rfl
    ·exact Keeps.refl _ _
    ·exact(Joins.below_bytesWorld wr.heap.size wr 5 (t.extract a r) ZpA).keepsAll S'
   have hJ2:J k w2:=HJ.out _ _ _ hJk (hk2 _)
   have hc2:w2.cell? ⟨Bs,0,none⟩=some (.string t):=(hk2 (fun _=>True)).cellAt hc trivial
   have hf2:w2.frozen? ⟨Bs,0,none⟩=false:=by rw[(hk2 (fun _=>True)).frozen (Zo5 _ _ hc) trivial];exact hf
   obtain⟨fn,tmps,assign,body,hy,hR⟩:=HY.out k w2 hkN hJ2
   obtain⟨g,hg⟩:=ZpB (gval s.data.toList k)
   rw[hg] at hy ⊢
   have HC:=Zpz hc
   clear hu hw2 hk2 hJ2 hJk hc hf hg
   gi_wp2
   refine⟨(fun h=>by cases h),hR.mono ?_⟩
   rintro e W3 (⟨rfl,hJ3,hk3⟩ | ⟨rfl,hJx3⟩)
   ·have hc3:W3.cell? ⟨Bs,0,none⟩=some (.string t):=hk3.cellAt hc2 hS
    have hf3:W3.frozen? ⟨Bs,0,none⟩=false:=by rw[hk3.frozen (Zo5 _ _ hc2) hS];exact hf2
    clear hc2 hf2 hk3 hy hR
    gi_wp2
    go_roundw
    case rel=>
     refine⟨k+1,t.extract 0 a,hkN,?_,?_,HG2,?_⟩
     ·exact World.cell?_setCell_same' _ _ _ (by rw[hc3];rfl)
     ·rw[World.frozen?_setCell];exact hf3
     ·exact HJ.out _ _ _ hJ3 ((Keeps.refl _ _).setCell (p:=⟨Bs,0,none⟩) (fun h=>h rfl) _)
    case measure=>
     rw[World.cell?_setCell_same' _ _ _ (by rw[hc3];rfl),HC.out]
     show (t.extract 0 a).size<t.size
     rw[<- Zy,HG2.out,Za4,Zy,hr]
     have:=HTS.out
     omega
   ·gi_wp2
    refine ZoM (results_none rfl _ _ _) rfl ?_
    exact⟨⟨_,rfl⟩,.inr ⟨k,hkN,hJx3⟩⟩
end Go.Proofs.YtmpaflidennnoaaGreatDoor
namespace Go.Proofs.YtmpaflidennnoaaGreatDoor
open Go.RowKit
theorem ZnZ {F:Fence} {n:Nat} {P:Program} (w:World) {ops:Array Oper} {rest:List Oper} {o:Oper} {a:Act} {Q:Exit->Act->World->Prop}
  (hg:o.guard=none) (l c:Operand) (t:TypeId) (hop:o.op=Op.makeSlice t l c)
  (base:Nat) (e:TypeId) (i:TypeInfo) (z:Value) (size:Nat) (h1:P.underlying t=some (.slice e)) (h2:P.info? e=some i) (h3:i.zero=some z) (h4:i.size=size)
  (kl kc:IntKind) (L C:Int) (m:Nat) (hl:a.eval l=.int kl L) (hc:a.eval c=.int kc C) (hL:L=(m:Int)) (hC:C=(m:Int)) (b2:i.bytes*m<=281474976710656) (b3:m<=maxLen) (b4:base<=w.heap.size)
  (hK:∀ w',Hid (w'.heap.size=w.heap.size+1)->w'.ownsRow base e size (.slice (some ⟨w.heap.size,0,none⟩) m m) m (madeCells z.cells (m*size)).toList->w.grownBy w' none->
   wpListIn F n P ops Q rest (a.put o.dst (.slice (some ⟨w.heap.size,0,none⟩) m m)) w') :
  wpListIn F n P ops Q (o::rest) a w:=by
 refine wpListIn_plain hg fun K hK'=>?_
 subst h4
 have hm63:(m:Int)<=9223372036854775807:=by simp[maxLen] at b3;omega
 have hb':(i.bytes:Int)*(m:Int)<=281474976710656:=by
  have h:((i.bytes*m:Nat):Int)<=281474976710656:=Za
  rwa [Int.natCast_mul] at h
 have hrun:=run_make (P:=P) w t e i z h1 h2 h3 kl kc m m Za (Int.le_refl _) hb' hm63
 simp only[Int.toNat_natCast] at hrun
 subst hL
 subst hC
 unfold Oper.wpIn
 refine⟨by simp[Oper.about,hop],?_⟩
 rw[Oper.semAt_plain F _ _ (by rw[hop];intro c hc';cases hc')]
 simp[execOp,hop,hl,hc,hrun,Result.andThen]
 exact hK' _ _ (hK _ (by show _=_;simp) (World.ownsRow_lit w _ m b4 b3 (size_madeCells _ _)) (World.grownBy_alloc w _ none))
theorem ZjY {P:Program} {row:String} {args:Array Value} {w:World} {R:Value->World->Prop} {n l:Nat} (h:Rows P row args w R):RowsIn (Fence.wide.inRound l) n P row args w R:=
 fun c cs _=>let ⟨v,w',r,s⟩:=h c cs;⟨v,w',r,stepsIn_wide.2 s⟩
theorem Zlt {P:Program} {n l:Nat} {o:Oper} {a:Act} {w:World} {K:Act->World->Prop} {Q:Exit->Act->World->Prop} (hd:∀ c,o.op≠.defer c) (h:o.wp P a w K Q) :
  o.wpIn (Fence.wide.inRound l) n P a w K Q:=by
 refine⟨fun _ _=>trivial,?_⟩
 rw[Oper.semAt_eq _ _ _ hd]
 unfold Oper.wp at h
 generalize (execOp a.eval o).run P w=r at *
 cases r with
 | ok x w'=>
  cases x with
  | enter f args=>exact⟨(fun h=>by cases h),(Zpf.2 h).inRound l⟩
  | row row args=>exact⟨(fun h=>by cases h),ZjY h⟩
  | value v=>exact h
  | skip=>exact h
  | defer d=>exact h
  | _=>exact h.elim
 | halt x w'=>
  cases x with
  | panic v=>exact h
  | _=>exact h.elim
def ZcE (ops:Array Oper):Bool:=ops.all fun o=>match o.op with | .defer _=>false | _=>true
theorem ZiG {ops:Array Oper} (h:ZcE ops=true) {i:Nat} {o:Oper} (ho:ops[i]?=some o):∀ c,o.op≠.defer c:=by
 intro c hc
 unfold ZcE at h
 rw[Array.all_eq_true] at h
 obtain⟨hi,he⟩:=ZoK.1 ho
 have:=h i hi
 rw[he,hc] at this
 cases this
theorem Za7 {P:Program} {n l:Nat} {md:Region.Mode} {ops:Array Oper} {Q:Exit->Act->World->Prop} (hd:ZcE ops=true) (hout:∀ a w,¬ Q .outgrown a w) :
  ∀ (fuel:Nat) (listed:Array Bool) (a:Act) (w:World),wpAny P md ops Q fuel listed a w->wpAnyIn (Fence.wide.inRound l) n P md ops Q fuel listed a w
 | 0,_,_,_,h=>h
 | fuel+1,listed,a,w,h=>by
  refine⟨h.1,fun i hi=>?_⟩
  have h1:=h.2 i hi
  unfold wpOp at h1
  unfold wpOpIn
  cases ho:ops[i]? with
  | none=>simp only[ho] at h1 ⊢;exact Za7 hd hout fuel _ _ _ h1
  | some o=>
   simp only[ho] at h1 ⊢
   split
   ·rename_i hw
    rw[if_pos hw] at h1
    rcases h1 with h1 | ⟨_,a',w',hq⟩
    ·exact Oper.wpIn_mono (fun a' w' h2=>Za7 hd hout fuel _ _ _ h2) (Zlt (ZiG hd ho) h1)
    ·exact Zpp hq (hout a' w')
   ·rename_i hw
    rw[if_neg hw] at h1
    exact⟨fun _ _=>trivial,Za7 hd hout fuel _ _ _ h1⟩
section
variable {P:Program} {ops:Array Oper} {Q:Exit->Act->World->Prop} {md:Region.Mode} {S:World->Prop} {bar:Nat->Bool}
def wpJ (P:Program) (md:Region.Mode) (ops:Array Oper) (Q:Exit->Act->World->Prop) (S:World->Prop) (bar:Nat->Bool):Nat->Array Bool->Act->World->Prop
 | 0,listed,a,w=>Region.ready md ops listed=[]/\Q .normal a w
 | fuel+1,listed,a,w=>(Region.ready md ops listed=[]->Q .normal a w)/\
  ∀ i ∈ Region.ready md ops listed,wpOp P ops Q i (fun a' w'=>(bar i=true\/S w')/\wpJ P md ops Q S bar fuel (listed.setIfInBounds i true) a' w') a w
theorem ZbP:∀ (fuel:Nat) (listed:Array Bool) (a:Act) (w:World),wpJ P md ops Q S bar fuel listed a w->wpAny P md ops Q fuel listed a w
 | 0,_,_,_,h=>h
 | fuel+1,_,_,_,h=>⟨h.1,fun i hi=>wpOp_mono (fun a' w' h'=>ZbP fuel _ a' w' h'.2) (h.2 i hi)⟩
def Zid (md:Region.Mode) (ops:Array Oper) (bar:Nat->Bool) (i:Nat):Prop:=∀ j,bar j=true->j≠i->Region.waitsFor md ops j i=true
theorem Zaz {i j:Nat} {listed:Array Bool} (hi:i ∈ Region.ready md ops listed) (hw:Region.waitsFor md ops j i=true):j ∉ Region.ready md ops listed:=by
 intro hj
 obtain⟨oj,hoj,e,he,hb,hon⟩:=Region.waitsFor_spec hw
 obtain⟨_,oj',hoj',hall⟩:=mem_ready.1 hj
 have:oj'=oj:=ZoP (hoj'.symm.trans hoj)
 subst this
 have h1:=hall e he hb
 have h0:=(mem_ready.1 hi).1
 rw[hon] at h1
 rcases ZoR i listed.size with h' | h'
 ·simp[h'] at h0 h1;rw[h0] at h1;cases h1
 ·simp[Array.getElem?_eq_none h'] at h1
theorem Zfy {i:Nat} {oi:Oper} {v:Value} (hi:ops[i]?=some oi) (hsel:Region.noSelect ops=true) (hQ:∀ c a w,Q (.panic c) (a.put oi.dst v) w->Q (.panic c) a w) (hbar:Zid md ops bar i) (hbi:bar i=false) :
  ∀ (fuel:Nat) (listed:Array Bool) (a:Act) (w:World),
   (∀ j oj,ops[j]?=some oj->j≠i->listed.getD j true=false->(∀ e ∈ oj.after,Region.binds md e=true->e.on≠i)->oi.apart ops oj=true)->
   i ∈ Region.ready md ops listed->YieldsIf P ops S oi v a->S w->
   wpJ P md ops Q S bar fuel (listed.setIfInBounds i true) (a.put oi.dst v) w->wpJ P md ops Q S bar (fuel+1) listed a w
 | 0,listed,a,w,_,hr,hy,hS,H=>by
  refine⟨fun h=>(by rw[h] at hr;cases hr),fun j hj=>?_⟩
  by_cases hji:j=i
  ·subst hji;exact hy.wpOp hi hS ⟨.inr hS,H⟩
  ·have:=ready_mono hj hji
   rw[H.1] at this
   cases this
 | fuel+1,listed,a,w,hfree,hr,hy,hS,H=>by
  refine⟨fun h=>(by rw[h] at hr;cases hr),fun j hj=>?_⟩
  by_cases hji:j=i
  ·subst hji;exact hy.wpOp hi hS ⟨.inr hS,H⟩
  ·have hbj:bar j=false:=by
    cases hb:bar j with
    | false=>rfl
    | true=>exact Zpp hj (Zaz hr (hbar j hb hji))
   obtain⟨hjun,oj,hoj,hall⟩:=mem_ready.1 hj
   have hnot:∀ e ∈ oj.after,Region.binds md e=true->e.on≠i:=fun e he hb heq=>by
    have:Region.waitsFor md ops j i=true:=by
     unfold Region.waitsFor
     rw[hoj]
     exact Array.any_eq_true'.2 ⟨e,he,by simp[hb,heq]⟩
    exact Zaz hr this hj
   have h2:=wpOp_putIf hoj (hfree j oj hoj hji hjun hnot) (fun cs b=>Region.noSelect_spec hsel i oi cs b hi) (fun cs b=>Region.noSelect_spec hsel j oj cs b hoj) hQ hy (H.2 j (ready_mono hj hji))
   refine wpOp_mono (fun a' w' h3=>?_) h2
   have hS':S w':=by
    rcases h3.2.1 with h4 | h4
    ·rw[hbj] at h4;cases h4
    ·exact h4
   refine⟨.inr hS',Zfy hi hsel hQ hbar hbi fuel (listed.setIfInBounds j true) a' w' (fun k ok hk hki hun hno=>?_) (ready_mono hr (Ne.symm hji)) h3.1 hS' ?_⟩
   ·refine hfree k ok hk hki ?_ hno
    by_cases hjk:j=k
    ·subst hjk;exact hjun
    ·rw[getD_set_ne true hjk] at hun;exact hun
   ·rw[Array.setIfInBounds_comm _ _ hji]
    exact h3.2.2
def Zex (P:Program) (ops:Array Oper) (S:World->Prop) (L:Act->Prop):List Oper->Act->Prop
 | [],a=>L a
 | o::l,a=>∃ v,YieldsIf P ops S o v a/\Zex P ops S L l (a.put o.dst v)
def Zb4 (P:Program) (ops:Array Oper) (Q:Exit->Act->World->Prop) (S:World->Prop) (bar:Nat->Bool):Nat->List Oper->Act->World->Prop
 | _,[],a,w=>Q .normal a w
 | k,o::l,a,w=>(if Region.wanted o (yielded ops a.tmps) then o.wp P a w (fun a' w'=>(bar k=true\/S w')/\Zb4 P ops Q S bar (k+1) l a' w') Q
   else (bar k=true\/S w)/\Zb4 P ops Q S bar (k+1) l (a.put o.dst undef) w)
theorem ZeX:∀ (l:List Oper) (k:Nat) (listed:Array Bool) (a:Act) (w:World),(∀ j,l[j]?=ops[k+j]?)->Region.seqB md ops l.length k listed=true->
  Zb4 P ops Q S bar k l a w->wpJ P md ops Q S bar l.length listed a w
 | [],_,_,_,_,_,hB,h=>⟨by simpa[Region.seqB] using hB,h⟩
 | o::l,k,listed,a,w,hl,hB,h=>by
  have h0:ops[k]?=some o:=by simpa using (hl 0).symm
  simp only[Zpl,Region.seqB,Zpj,Zpk] at hB
  refine⟨fun h1=>(by rw[hB.1] at h1;cases h1),fun i hi=>?_⟩
  rw[hB.1] at hi
  obtain rfl:i=k:=by simpa using hi
  have ih:=fun a' w' h'=>ZeX l (i+1) (listed.setIfInBounds i true) a' w' (fun j=>by have:=hl (j+1);simpa[Nat.add_assoc,Nat.add_comm 1 j] using this) hB.2 h'
  unfold wpOp
  simp only[h0]
  unfold Zb4 at h
  split at h
  ·rename_i hw;simp only[hw,if_true];exact .inl (Oper.wp_mono (fun a' w' h'=>⟨h'.1,ih a' w' h'.2⟩) h)
  ·rename_i hw;simp only[hw];exact⟨h.1,ih _ _ h.2⟩
def ZgV (md:Region.Mode) (ops:Array Oper) (h:Nat) (bar:Nat->Bool):Bool:=
 Region.noSelect ops && decide (h<=ops.size) && Region.lexHead md ops (ops.size-h) h 0 (Array.replicate ops.size false) &&
  ((List.range ops.size).all fun j=>!bar j || (decide (h<=j) && (List.range h).all fun i=>Region.waitsFor md ops j i)) && ZcE ops
theorem Zfj (hsel:Region.noSelect ops=true) (hQ:∀ c a o v w,Q (.panic c) (a.put o v) w->Q (.panic c) a w) (g h:Nat) (hbar:∀ i,i<h->Zid md ops bar i/\bar i=false) {w:World} (hS:S w) (tl:List Oper) (htl:tl.length=g)
  (htail:∀ j,tl[j]?=ops[h+j]?) :
  ∀ (l:List Oper) (k:Nat) (listed:Array Bool) (a:Act),(∀ j,j<l.length->l[j]?=ops[k+j]?)->k+l.length=h->Region.lexHead md ops g l.length k listed=true->
   Zex P ops S (fun a'=>Zb4 P ops Q S bar h tl a' w) l a->wpJ P md ops Q S bar (l.length+g) listed a w
 | [],k,listed,a,_,hk,hB,h'=>by
  obtain rfl:k=h:=by simpa using hk
  rw[List.length_nil,Nat.zero_add,<- htl]
  exact ZeX tl k listed a w htail (by rw[htl];simpa[Region.lexHead] using hB) h'
 | o::l,k,listed,a,hl,hk,hB,h'=>by
  have h0:ops[k]?=some o:=by simpa using (hl 0 Zc).symm
  simp only[Zpl,Region.lexHead,Zpj] at hB
  obtain⟨⟨hr,hf⟩,hB'⟩:=hB
  have hkh:k<h:=by simp only[Zpl] at hk;omega
  obtain⟨v,hy,hrest⟩:=h'
  have ih:=Zfj hsel hQ g h hbar hS tl htl htail l (k+1) (listed.setIfInBounds k true) (a.put o.dst v) (fun j hj=>by have:=hl (j+1) (by simp;omega);simpa[Nat.add_assoc,Nat.add_comm 1 j] using this) (by simp only[Zpl] at hk;omega) hB' hrest
  have:=Zfy h0 hsel (fun c a w=>hQ c a o.dst v w) (hbar k hkh).1 (hbar k hkh).2 (l.length+g) listed a w (Region.free_spec h0 hf) (by simpa using hr) hy hS ih
  rw[Zpl,Nat.add_right_comm]
  exact this
theorem Zjc {l:List Oper} (h:Nat) (S:World->Prop) (bar:Nat->Bool) (hB:ZgV .any l.toArray h bar=true) (hbo:∀ j,l.length<=j->bar j=false) (hQ:∀ c a o v w,Q (.panic c) (a.put o v) w->Q (.panic c) a w) {a:Act} {w:World} (hS:S w)
  (H:Zex P l.toArray S (fun a'=>Zb4 P l.toArray Q S bar h (l.drop h) a' w) (l.take h) a):wpAny P .any l.toArray Q l.toArray.size (Array.replicate l.toArray.size false) a w:=by
 simp only[ZgV,Zpj,Zpk] at hB
 obtain⟨⟨⟨⟨hsel,hn⟩,hlex⟩,hbar⟩,_⟩:=hB
 have hn':h<=l.length:=by simpa using hn
 have htake:(l.take h).length=h:=by simp;omega
 have hdrop:(l.drop h).length=l.toArray.size-h:=Zc
 rw[Zpo] at hbar
 have hw:∀ i,i<h->Zid .any l.toArray bar i/\bar i=false:=fun i hi=>by
  have key:∀ j,bar j=true->h<=j/\∀ i,i<h->Region.waitsFor .any l.toArray j i=true:=fun j hj=>by
   have hjl:j<l.length:=by
    rcases ZoR j l.length with h' | h'
    ·exact h'
    ·rw[hbo j h'] at hj;cases hj
   have:=hbar j (by simpa using hjl)
   rw[hj] at this
   simp only[Bool.not_true,Bool.false_or,Zpj,Zpk,Zpo,List.mem_range] at this
   exact this
  refine⟨fun j hj _=>(key j hj).2 i hi,?_⟩
  cases hb:bar i with
  | false=>rfl
  | true=>have:=(key i hb).1;omega
 have:=Zfj (md:=.any) (P:=P) (S:=S) (Q:=Q) hsel hQ (l.toArray.size-h) h hw hS (l.drop h) hdrop (fun j=>by simp[List.getElem?_drop]) (l.take h) 0 (Array.replicate l.toArray.size false) a (fun j hj=>by rw[htake] at hj;simp[hj]) (by simpa using htake) (by rw[htake];exact hlex) H
 rw[htake,show h+(l.toArray.size-h)=l.toArray.size by omega] at this
 exact ZbP _ _ _ _ this
end
theorem Zly {P:Program} {ops:Array Oper} {S:World->Prop} {L:Act->Prop} {o:Oper} {l:List Oper} {a:Act} (v:Value) (hw:Region.wanted o (yielded ops a.tmps)=true) (hv:∀ w,S w->(execOp a.eval o).run P w=.ok (.value v) w)
  (h:Zex P ops S L l (a.put o.dst v)):Zex P ops S L (o::l) a:=⟨v,.inl ⟨hw,hv⟩,h⟩
theorem Zmm {P:Program} {ops:Array Oper} {S:World->Prop} {L:Act->Prop} {a:Act} (h:L a):Zex P ops S L [] a:=h
theorem ZfR {P:Program} {ops:Array Oper} {Q:Exit->Act->World->Prop} {S:World->Prop} {bar:Nat->Bool} {k:Nat} {o:Oper} {l:List Oper} {a:Act} {w:World} (hw:Region.wanted o (yielded ops a.tmps)=true)
  (h:∀ K:Act->World->Prop,(∀ a' w',(bar k=true\/S w')->Zb4 P ops Q S bar (k+1) l a' w'->K a' w')->o.wp P a w K Q):Zb4 P ops Q S bar k (o::l) a w:=by
 unfold Zb4
 rw[if_pos hw]
 exact h _ fun _ _ h1 h2=>⟨h1,h2⟩
theorem Zli {P:Program} {ops:Array Oper} {Q:Exit->Act->World->Prop} {S:World->Prop} {bar:Nat->Bool} {k:Nat} {a:Act} {w:World} (h:Q .normal a w):Zb4 P ops Q S bar k [] a w:=h
theorem Zhi {P:Program} {n r id:Nat} {Q:Exit->Act->World->Prop} {a:Act} {w:World} {l:List Oper} (h:Nat) (S:World->Prop) (bar:Nat->Bool) (hm:P.follows .mixedOrders=true)
  (hB:ZgV .any l.toArray h bar=true) (hbo:∀ j,l.length<=j->bar j=false) (hQ:∀ c a o v w,Q (.panic c) (a.put o v) w->Q (.panic c) a w) (hout:∀ a w,¬ Q .outgrown a w) (hS:S w.drew)
  (H:Zex P l.toArray S (fun a'=>Zb4 P l.toArray Q S bar h (l.drop h) a' w.drew) (l.take h) a):(Code.region id l.toArray true).wpIn (Fence.wide.inRound r) n P Q a w:=by
 have hd:ZcE l.toArray=true:=by simp only[ZgV,Zpj] at hB;exact hB.2
 exact wpIn_region_any hm (Za7 hd hout _ _ _ _ (Zjc h S bar hB hbo hQ hS H))
end Go.Proofs.YtmpaflidennnoaaGreatDoor
namespace Go.Proofs.YtmpaflidennnoaaGreatDoor
open Go.RowKit Go.Shelf
attribute [local go_sem] Oper.semAt_some
theorem ZfU (p1:Option Addr) (c1:Nat) (xs:List Nat) (hl:xs.length<=1000000) (d:Nat) (hd1:1<=d) (hd2:d<=1000000000) (w:World)
  (hp1:xs≠[]->∃ b off,p1=some ⟨b,off,none⟩/\b<w.heap.size/\At .u64 w b off xs) (hx:∀ x ∈ xs,x<1000000000) :
  Calls Tryz.prog 193 #[.slice p1 xs.length c1,.int .u64 d] w fun e w'=>
   ∃ v,e=.returned (.tuple #[v,.int .u64 (val 1000000000 xs % d:Nat)])/\Zdh w.heap.size w' v (val 1000000000 xs/d)/\Below w.heap.size w w':=by
 obtain⟨i0,hi,hz0,hz1,hz2⟩:=info_parts Zcx
 have HP1:=Zpz hp1
 have HX:=Zpz hx
 clear hp1 hx
 have hfn:∀ k,Fence.wide.fn k:=fun _=>trivial
 refine(Zpf (n:=9)).1 ?_
 refine callsIn_of_wp_marks Tryz.func193 rfl trivial ?_ rfl
 simp only[Tryz.ntmps193,Nat.reduceAdd,Nat.reduceSub,Zpy]
 gi_wp2_with (gi_at_make;refine ZnZ _ rfl _ _ 110 rfl w.heap.size 158 i0 (.int .u64 0) 1 Tryz.underlying110 hi hz0 hz1 _ _ _ _ xs.length rfl rfl rfl rfl ?b2 ?b3 Zc ?_)
 case b2=>rw[hz2];omega
 case b3=>unfold maxLen;omega
 intro w0 hsz0 hown0 hgrow0
 have HR0:=Zpz (Row.full (k:=.u64) hown0)
 have hg0:=HR0.out.lt.2
 have HB0:=Zpz (((ZoL w.heap.size w).alloc ZpA _).grown hgrow0 Zc (fun k h=>by cases h))
 have HBY:Hid (w0.cell? ⟨w.heap.size,0,none⟩=some (.int .u64 d)):=by
  show _=_
  rw[Zo3 (w:=w.alloc (.cells #[.int .u64 d] 158)) (hgrow0.block _ Zc Zc)]
  exact ZK _ _ _ _ rfl
 clear hown0 hgrow0
 gi_wp2_with (gi_at_call 127;refine(Zhm Fence.wide _ trivial rfl _ _ _ _).mono ?_;rintro e w' ⟨rfl,rfl⟩)
 obtain⟨w3,hw3⟩:=ZpB (((w0.alloc (.cells #[.slice (some ⟨w.heap.size+1,0,none⟩) xs.length xs.length] 110)).alloc (.cells #[.int .u64 0] 158)).alloc (.cells #[.slice p1 xs.length c1] 110))
 rw[hw3]
 have hD:w3.heap.size=w0.heap.size+3:=by rw[<- hw3];simp
 have HB3:Zpt w0 w3:=by rw[<- hw3];exact(((ZoL _ w0).alloc ZpA _).alloc Zc _).alloc (by simp<;>omega) _
 have HBY3:Hid (w3.cell? ⟨w.heap.size,0,none⟩=some (.int .u64 d)):=by show _=_;rw[HB3.out.cell (by simp<;>omega)];exact HBY.out
 have HOV3:Hid (w3.cell? ⟨w0.heap.size,0,none⟩=some (.slice (some ⟨w.heap.size+1,0,none⟩) xs.length xs.length)):=by
  show _=_;rw[<- hw3,Zai _ _ _ (by simp<;>omega),Zai _ _ _ Zc];exact ZK _ _ _ _ rfl
 have HRV3:Hid (w3.cell? ⟨w0.heap.size+1,0,none⟩=some (.int .u64 0)/\w3.frozen? ⟨w0.heap.size+1,0,none⟩=false):=by
  rw[<- hw3,Zai _ _ _ Zc,Zdw _ _ _ Zc];exact⟨ZK _ _ _ _ Zc,ZcL _ _ _ _ Zc⟩
 have HR3:=Zpz (HR0.out.below HB3.out hg0)
 refine Zgc (w0.heap.size+3) hD (gf:=176) (lb:=#[.pointer (some ⟨w0.heap.size+2,0,none⟩)])
  (f:=fun k=>#[.int .i64 (bk xs.length k:Nat),.int .u64 (lim xs (bk xs.length k):Nat)]) (N:=xs.length) (S:=fun b=>b<w0.heap.size+3/\b≠w.heap.size+1/\b≠w0.heap.size+1) (T:=fun _=>True)
  rfl (enters_of Tryz.func176 Zb rfl) (fun _=>rfl) ?iter (fun b h=>h.1) ⟨trivial,trivial⟩
  (fun k W=>(∃ o r,Row .u64 158 W w.heap.size (w.heap.size+1) xs.length o/\ShortInv 1000000000 xs d (xs.length-k) o r/\W.cell? ⟨w0.heap.size+1,0,none⟩=some (.int .u64 (r:Nat))/\W.frozen? ⟨w0.heap.size+1,0,none⟩=false)/\Keeps (fun b=>b<w0.heap.size+3/\b≠w.heap.size+1/\b≠w0.heap.size+1) w3 W)
  (fun _ _ _=>False)
  (fun k W1 W2 h hk=>?ci)
  (fun c k W1 W2 h hk=>h.elim) ⟨⟨_,0,HR3.out,by rw[Nat.sub_zero];exact ShortInv.start Za xs hd1,HRV3.out.1,HRV3.out.2⟩,Keeps.refl _ _⟩ ?a1 ?assign ?body ?done ?stop
 case ci=>
  obtain⟨⟨o,r,h1,h2,h3,h4⟩,h5⟩:=h
  refine⟨⟨o,r,h1.kept (hk.block _ h1.lt.2 ⟨trivial,Za,Za⟩),h2,hk.cellAt h3 ⟨trivial,Zc,Zc⟩,?_⟩,h5.trans (hk.mono fun b hb1 hb2=>⟨trivial,Za,Za⟩)⟩
  rw[hk.frozen (Zo5 W1 _ h3) ⟨trivial,Zc,Zc⟩];exact h4
 case iter=>
  refine Ze6 (w0.heap.size+2) _ p1 c1 xs hl w3 ⟨Za,Za,Za⟩ ?_ ?_
  ·rw[<- hw3];exact ZK _ _ _ _ Zc
  ·intro hne
   obtain⟨b,off,h1,h2,h3⟩:=HP1.out hne
   exact⟨b,off,h1,⟨Za,Za,Za⟩,(h3.below HB0.out h2).below HB3.out Za⟩
 case assign=>
  intro l k W K hK
  gi_wp2
  exact hK
 case stop=>
  intro c k W _ h
  exact h.elim
 case body=>
  rintro l k W hk ⟨⟨o,r,HR,HI,hr1,hr2⟩,HK⟩ hW
  have cb:W.cell? ⟨w.heap.size,0,none⟩=some (.int .u64 d):=HK.cellAt HBY3.out ⟨by simp<;>omega,Zc,by simp<;>omega⟩
  have co:W.cell? ⟨w0.heap.size,0,none⟩=some (.slice (some ⟨w.heap.size+1,0,none⟩) xs.length xs.length):=HK.cellAt HOV3.out ⟨by simp<;>omega,by simp<;>omega,Zc⟩
  have hrl:r<d:=HI.rest
  obtain⟨i,hi⟩:=ZpB (bk xs.length k)
  have hil:i<xs.length:=by unfold bk at hi;omega
  have hik:Hid (xs.length-k=i+1/\xs.length-(k+1)=i):=by unfold bk at hi;exact⟨Za,Za⟩
  obtain⟨x,hx⟩:=ZpB (lim xs i)
  have hxl:x<1000000000:=by rw[<- hx];exact ZM Za HX.out i
  have hol:o.length=xs.length:=HI.len
  obtain⟨z,hz⟩:=ZpB (o.getD i 0)
  have cz:W.cell? ⟨w.heap.size+1,i,none⟩=some (.int .u64 (z:Nat)):=HR.cell Za hz
  have fz:W.frozen? ⟨w.heap.size+1,i,none⟩=false:=HR.frozen _
  rw[hi,hx]
  have HKh:=Zpz HK
  have HRh:=Zpz HR
  have HIh:=Zpz HI
  have Hi:=Zpz hi
  have Hx:=Zpz hx
  clear hi hx HK HR HI hol hz
  have hdi:(1:Int)<=(d:Int):=Za
  gi_wp2
  have hS0:W.drew.cell? ⟨w0.heap.size+1,0,none⟩=some (.int .u64 (r:Nat))/\W.drew.cell? ⟨w.heap.size,0,none⟩=some (.int .u64 d)/\W.drew.cell? ⟨w0.heap.size,0,none⟩=some (.slice (some ⟨w.heap.size+1,0,none⟩) xs.length xs.length):=⟨hr1,cb,co⟩
  refine Zhi 15 (fun w'=>w'.cell? ⟨w0.heap.size+1,0,none⟩=some (.int .u64 (r:Nat))/\w'.cell? ⟨w.heap.size,0,none⟩=some (.int .u64 d)/\w'.cell? ⟨w0.heap.size,0,none⟩=some (.slice (some ⟨w.heap.size+1,0,none⟩) xs.length xs.length)) (fun j=>j==16)
   Zb Zb (fun j hj=>by simp at hj ⊢;omega) (fun _ _ _ _ _ h=>h) (fun _ _ h=>h) hS0 ?_
  simp only[List.take_succ_cons,List.take_zero,List.drop_succ_cons,List.drop_zero]
  obtain⟨s,hs⟩:=ZpB (r*1000000000+x)
  have hrb:r<=999999999:=Za
  have e1:IntKind.u64.wrap ((r:Int)*1000000000)=(r:Int)*1000000000:=IntWalk.u64_in _ Za
  have e2:IntKind.u64.wrap ((r:Int)*1000000000+x)=(s:Int):=by
   have h:=IntWalk.u64_in ((r:Int)*1000000000+x) Za
   rw[h];omega
  obtain⟨q,hq⟩:=ZpB (s/d)
  obtain⟨m,hm⟩:=ZpB (s % d)
  have e3:((s:Int).tdiv d)=(q:Int):=by rw[<- hq];rfl
  have e4:((s:Int).tmod d)=(m:Int):=by rw[<- hm];rfl
  have hqb:q<=999999999999999999:=by rw[<- hq];exact ZoU (Nat.div_le_self _ _) Za
  have e5:IntKind.u64.wrap (q:Int)=(q:Int):=IntWalk.u64_in _ Za
  have hdn:¬ d=0:=Za
  have HS:Hid (ShortInv 1000000000 xs d (xs.length-(k+1)) (o.set i q) m):=by
   have h1:=HIh.out
   rw[hik.out.1] at h1
   have h2:=h1.step HX.out hil (show s=r*1000000000+xs.getD i 0 by rw[<- hs];rw[show xs.getD i 0=x from Hx.out])
   rw[hq,hm] at h2
   show ShortInv _ _ _ _ _ _
   rw[hik.out.2]
   exact h2
  clear hs hq hm
  iterate 15
   refine Zly _ rfl (fun w' hS=>by obtain⟨s1,s2,s3⟩:=hS;exact Zf) ?_
   simp only[Act.put,Zm]
  refine Zmm ?_
  refine ZfR rfl fun K hK=>?_
  go_simp
  refine hK _ _ ?_ ?_
  ·right
   show ((W.setCell ⟨w.heap.size+1,i,none⟩ (.int .u64 (q:Nat))).drew).cell? _=_/\((W.setCell ⟨w.heap.size+1,i,none⟩ (.int .u64 (q:Nat))).drew).cell? _=_/\((W.setCell ⟨w.heap.size+1,i,none⟩ (.int .u64 (q:Nat))).drew).cell? _=_
   exact⟨(Zo3 (ZoN W _ _ _ (by simp<;>omega))).trans hr1,(Zo3 (ZoN W _ _ _ Zc)).trans cb,(Zo3 (ZoN W _ _ _ (by simp<;>omega))).trans co⟩
  clear hK K
  refine ZfR rfl fun K hK=>?_
  go_simp
  refine hK _ _ (.inl rfl) ?_
  clear hK K
  refine Zli ?_
  have k1:∀ S':Nat->Prop,¬ S' (w.heap.size+1)->¬ S' (w0.heap.size+1)->Keeps S' W ((W.setCell ⟨w.heap.size+1,i,none⟩ (.int .u64 (q:Nat))).setCell ⟨w0.heap.size+1,0,none⟩ (.int .u64 (m:Nat))).drew:=
   fun S' n1 n2=>(((Keeps.refl _ _).setCell (p:=⟨w.heap.size+1,i,none⟩) n1 _).setCell (p:=⟨w0.heap.size+1,0,none⟩) n2 _).drew
  refine⟨k1 _ (by simp<;>omega) Zc,⟨⟨o.set i q,m,?_,HS.out,?_,?_⟩,HKh.out.trans (k1 _ Zc Zc)⟩⟩
  ·exact((HRh.out.set i q).setOther (a:=⟨w0.heap.size+1,0,none⟩) (by simp<;>omega) _).drew
  ·exact World.cell?_setCell_same' _ _ _ (by rw[Zo3 (ZoN W _ _ _ (by simp<;>omega)),hr1];rfl)
  ·show ((W.setCell ⟨w.heap.size+1,i,none⟩ (.int .u64 (q:Nat))).setCell ⟨w0.heap.size+1,0,none⟩ (.int .u64 (m:Nat))).frozen? ⟨w0.heap.size+1,0,none⟩=false
   rw[World.frozen?_setCell,World.frozen?_setCell];exact hr2
 case done=>
  rintro W ⟨⟨o,r,HR,HI,hr1,hr2⟩,HK⟩ hdef
  rw[Nat.sub_self] at HI
  have HV:=Zpz HI.done
  have HLT:Hid (∀ z ∈ o,z<1000000000):=HI.lt
  have HLN:Hid (o.length=xs.length):=HI.len
  have co:W.cell? ⟨w0.heap.size,0,none⟩=some (.slice (some ⟨w.heap.size+1,0,none⟩) xs.length xs.length):=HK.cellAt HOV3.out ⟨by simp<;>omega,by simp<;>omega,Zc⟩
  have HKh:=Zpz HK
  have HRh:=Zpz HR
  have Hdef:=Zpz hdef
  clear HK HR HI hdef
  gi_wp2
  refine wpIn_wide.2 ?_
  go_quiet ((go_at_call 126;exact Calls.quiet_of_same ((Zcz (w:=_) (by exact HRh.out) HLT.out _ HLN.out.symm _ HV.out.1).mono fun e w' h=>⟨h.2.1,h.1.symm⟩)))
  gi_wp2
  have hB:Below w.heap.size w (W.drewN nq):=by
   refine HB0.out.trans ?_
   refine(show Below w.heap.size w0 w3 from ⟨HB3.out.os,HB3.out.tape,HB3.out.output,HB3.out.size,fun k hk=>HB3.out.block k Za⟩).trans ?_
   exact⟨HKh.out.os,HKh.out.tape,HKh.out.output,HKh.out.size,fun k hk=>HKh.out.block k Za ⟨Za,Za,Za⟩⟩
  have hRow:Row .u64 158 ((W.drewN nq).putObj (w0.heap.size+3) (.deferred none)) w.heap.size (w.heap.size+1) xs.length (Zp 1000000000 (val 1000000000 xs/d)):=by
   have h1:=HRh.out.take (Zp 1000000000 (val 1000000000 o)).length
   rw[<- Zba Za HLT.out,HV.out.1] at h1
   refine h1.kept ?_
   exact Zo4 (w:=W.drewN nq) Za
  have hdef':(W.drewN nq).heap[w0.heap.size+3]?=some (.deferred (some [])):=Hdef.out
  refine⟨Zc,.inl ⟨_,_,rfl,run_takeDeferred hdef',?_⟩⟩
  refine⟨.tuple #[.slice (some ⟨w.heap.size+1,0,none⟩) (Zp 1000000000 (val 1000000000 xs/d)).length xs.length,.int .u64 (r:Nat)],by simp[results,Tryz.f193,go_sem],_,by rw[HV.out.2],⟨_,_,rfl,hRow⟩,?_⟩
  refine hB.trans ?_
  exact⟨rfl,rfl,rfl,Zc,fun k hk=>Zo4 (w:=W.drewN nq) Za⟩
end Go.Proofs.YtmpaflidennnoaaGreatDoor
namespace Go.Proofs.YtmpaflidennnoaaGreatDoor
open Go.RowKit
theorem Zfa {v1 v2:Value} {n m:Nat} {w:World} (h1:Num w v1 n) (h2:Num w v2 m) (hl1:(Zp 1000000000 n).length<=1000000) (hl2:(Zp 1000000000 m).length<=1000000) :
  Calls Tryz.prog 68 #[v1,v2] w fun e w'=>∃ v,e=.returned v/\Zdh w.heap.size w' v (n*m)/\Below w.heap.size w w':=by
 obtain⟨p1,c1,rfl,_,_,hp1⟩:=h1
 obtain⟨p2,c2,rfl,_,_,hp2⟩:=h2
 obtain⟨xs,hxs⟩:=ZpB (Zp 1000000000 n)
 obtain⟨ys,hys⟩:=ZpB (Zp 1000000000 m)
 rw[hxs] at hl1 hp1 ⊢
 rw[hys] at hl2 hp2 ⊢
 have HX:Hid (∀ x ∈ xs,x<1000000000):=by rw[<- hxs];exact ZJ Za n
 have HY:Hid (∀ x ∈ ys,x<1000000000):=by rw[<- hys];exact ZJ Za m
 have HV:Hid (val 1000000000 xs=n/\val 1000000000 ys=m):=by rw[<- hxs,<- hys];exact⟨ZA Za n,ZA Za m⟩
 have HP1:=Zpz hp1
 have HP2:=Zpz hp2
 clear hxs hys hp1 hp2
 obtain⟨i0,hi,hz0,hz1,hz2⟩:=info_parts Zcx
 go_enter Tryz.func68,Tryz.ntmps68
 go_wp2_with (at_make;refine wpList_make_full _ rfl _ _ 110 rfl w.heap.size 158 i0 (.int .u64 0) 1 Tryz.underlying110 hi hz0 hz1 _ _ _ _ (xs.length+ys.length) rfl rfl Za Za ?b2 ?b3 ZpA ?_)
 case b2=>rw[hz2];omega
 case b3=>unfold maxLen;omega
 intro w0 hown0 hgrow0
 have HB0:=Zpz ((ZoL w.heap.size w).grown hgrow0 ZpA (fun k h=>by cases h))
 have HR0:=Zpz (Row.full (k:=.u64) hown0)
 clear hgrow0 hown0
 go_wp2
 go_loopw [19] (fun i wr=>∃ (k:Nat) (o:List Nat),k<=xs.length/\i=.int .i64 k/\Hid (Row .u64 158 wr w.heap.size w.heap.size (xs.length+ys.length) o)/\
   Hid (RowsInv 1000000000 (xs.length+ys.length) xs ys k o)/\Zpt w wr) (fun i _=>xs.length-(intOf i).toNat)
 case atStart=>exact⟨0,_,ZoY _,rfl,HR0,RowsInv.start Za _ _ _,HB0⟩
 case round=>
  obtain⟨i,o,hk,rfl,HR,HI,HB⟩:=hrel
  by_cases hlt:i<xs.length
  ·obtain⟨b1,off1,rfl,hb1,ha1⟩:=HP1.out (ZoT Za)
   obtain⟨x,hx⟩:=ZpB (xs.getD i 0)
   have hxl:x<1000000000:=by rw[<- hx];exact ZM Za HX.out i
   have cx:wr.cell? ⟨b1,off1+i,none⟩=some (.int .u64 (x:Nat)):=(HB.out.cell (p:=⟨b1,off1+i,none⟩) hb1).trans (ha1.getD hlt hx)
   have Hx:=Zpz hx
   have HT:=Zpz (HI.out.inner Za x)
   clear hx ha1 HI
   go_wp2
   obtain⟨wo,hwo⟩:∃ wo:World,wo=wr:=⟨_,rfl⟩
   go_loopw [8,26] (fun c kk wr=>∃ (k:Nat) (o:List Nat) (cr:Nat),k<=ys.length/\kk=.int .i64 k/\c=.int .u64 cr/\Hid (Row .u64 158 wr w.heap.size w.heap.size (xs.length+ys.length) o)/\
     Hid (TimesInv 1000000000 (xs.length+ys.length) i (val 1000000000 (xs.take i)*val 1000000000 ys) x ys k o cr)/\Zpt w wr) (fun _ kk _=>ys.length-(intOf kk).toNat)
   case atStart=>exact⟨0,_,0,ZoY _,rfl,rfl,HR,HT,HB⟩
   case round=>
    clear HT HR HB cx hwo
    obtain⟨k,o,cr,hk2,rfl,rfl,HR,HT,HB⟩:=hrel
    have hcr:=HT.out.carry
    by_cases hlt2:k<ys.length
    ·obtain⟨b2,off2,rfl,hb2,ha2⟩:=HP2.out (ZoT Za)
     obtain⟨y,hy⟩:=ZpB (ys.getD k 0)
     have hyl:y<1000000000:=by rw[<- hy];exact ZM Za HY.out k
     have cy:wr.cell? ⟨b2,off2+k,none⟩=some (.int .u64 (y:Nat)):=(HB.out.cell (p:=⟨b2,off2+k,none⟩) hb2).trans (ha2.getD hlt2 hy)
     obtain⟨z,hz⟩:=ZpB (o.getD (i+k) 0)
     have hzl:z<1000000000:=by rw[<- hz];exact ZM Za HT.out.lt _
     have hlen:=HT.out.len
     have cz:wr.cell? ⟨w.heap.size,i+k,none⟩=some (.int .u64 (z:Nat)):=HR.out.cell Za hz
     have fz:wr.frozen? ⟨w.heap.size,i+k,none⟩=false:=HR.out.frozen _
     have Hlen:=Zpz hlen
     have Hy:=Zpz hy
     have Hz:=Zpz hz
     have hmul:x*y<=999999999*999999999:=Nat.mul_le_mul Za Za
     have hmul':((x*y:Nat):Int)=(x:Int)*y:=Zc
     have hm0:0<=(x:Int)*y:=Za
     have hm1:(x:Int)*y<=999999998000000001:=Za
     have e3:((cr+z+x*y:Nat):Int)=(cr:Int)+(z+x*y):=by simp;omega
     have E1:Hid (((cr:Int)+(z+x*y)) % 1000000000=((cr+z+x*y) % 1000000000:Nat)):=by show _=_;omega
     have E2:Hid (((cr:Int)+(z+x*y))/1000000000=((cr+z+x*y)/1000000000:Nat)):=by show _=_;omega
     have HS:=Zpz (HT.out.step Za HY.out hxl hlt2 Za (show cr+z+x*y=cr+o.getD (i+k) 0+x*ys.getD k 0 by rw[Hy.out,Hz.out]))
     clear hy hz hlen ha2 hmul hmul' e3
     go_wp2
     go_roundw
     case rel=>exact⟨k+1,_,_,Za,by go_num,by rw[E2.out],by rw[E1.out];exact HR.out.set _ _,HS,HB.out.setCell ZpA _⟩
     case measure=>exact Zj
    ·obtain rfl:k=ys.length:=Za
     have hlen:=HT.out.len
     have hz:o.getD (i+ys.length) 0=0:=HT.out.zero _ ZpA
     have cz:wr.cell? ⟨w.heap.size,i+ys.length,none⟩=some (.int .u64 (0:Nat)):=HR.out.cell Za hz
     have fz:wr.frozen? ⟨w.heap.size,i+ys.length,none⟩=false:=HR.out.frozen _
     have HS:=Zpz (HT.out |> RowsInv.step (x:=x) (n:=xs) Za Hx.out.symm)
     have Hlen:=Zpz hlen
     clear hz hlen
     go_wp2
     go_roundw
     case rel=>exact⟨i+1,_,Za,by go_num,HR.out.set _ _,HS,HB.out.setCell ZpA _⟩
     case measure=>exact Zj
  ·obtain rfl:i=xs.length:=Za
   have HL:Hid (∀ z ∈ o,z<1000000000):=HI.out.lt
   have HD:Hid (val 1000000000 o=n*m):=by show _=_;rw[HI.out.done,HV.out.1,HV.out.2]
   go_wp2_with fail
   refine(Zcz HR.out HL.out _ HI.out.len.symm _ HD.out).mono ?_
   rintro e w' ⟨rfl,rfl,hr2⟩
   have HR2:=Zpz hr2
   clear hr2
   go_wp2
   go_ret
   exact⟨_,rfl,⟨_,_,rfl,HR2.out⟩,HB.out⟩
end Go.Proofs.YtmpaflidennnoaaGreatDoor
namespace Go.Proofs.YtmpaflidennnoaaGreatDoor
open Go.RowKit Go.Shelf
attribute [local go_sem] Oper.semAt_some
def Sign (n m:Nat) (r:Int):Prop:=(r<0<->n<m)/\(r=0<->n=m)/\-1000000<=r/\r<=1000000
def Zke (w:World) (n m:Nat) (e:Ending) (w':World):Prop:=∃ r:Int,e=.returned (.int .i64 r)/\Sign n m r/\Below w.heap.size w w'
def ZfG (xs ys:List Nat) (k:Nat):Prop:=∀ j,xs.length-k<=j->j<xs.length->lim xs j=lim ys j
theorem ZdD {xs:List Nat} {i:Nat} (h:i<xs.length):lim xs i=xs[i]:=by simp[lim,List.getD,h]
theorem Zjr {xs ys:List Nat} (hlen:ys.length=xs.length) (h:ZfG xs ys xs.length):xs=ys:=by
 refine List.ext_getElem hlen.symm fun j h1 h2=>?_
 have:=h j Za h1
 rwa [ZdD h1,ZdD h2] at this
theorem Zj3 {xs ys:List Nat} (hlen:ys.length=xs.length) (hx:∀ x ∈ xs,x<1000000000) (hy:∀ x ∈ ys,x<1000000000) {k:Nat} (hk:k<xs.length) (h:ZfG xs ys k)
  {r:Int} (hs:Sign (lim xs (bk xs.length k)) (lim ys (bk xs.length k)) r) (hr:r≠0):Sign (val 1000000000 xs) (val 1000000000 ys) r:=by
 obtain⟨i,hi⟩:=ZpB (bk xs.length k)
 have hil:i<xs.length:=by unfold bk at hi;omega
 have hdrop:xs.drop (i+1)=ys.drop (i+1):=by
  refine List.ext_getElem (by simp[hlen]) fun j h1 h2=>?_
  have h3:i+1+j<xs.length:=by simp at h1;omega
  have:=h (i+1+j) (by unfold bk at hi;omega) h3
  rw[ZdD h3,ZdD Za] at this
  simpa using this
 rw[hi,ZdD hil,ZdD Za] at hs
 obtain⟨s1,s2,s3,s4⟩:=hs
 have hne:xs[i]≠ys[i]'Za:=fun e=>hr (s2.2 e)
 rcases Nat.lt_or_gt_of_ne hne with h1 | h1
 ·have:=Zct (B:=1000000000) hx hil hlen.symm hdrop h1
  have h2:=s1.2 h1
  exact⟨⟨fun _=>this,fun _=>h2⟩,⟨fun e=>Za,fun e=>Za⟩,s3,s4⟩
 ·have:=Zct (B:=1000000000) hy Za hlen hdrop.symm h1
  have h2:¬ r<0:=fun h=>by have:=s1.1 h;omega
  exact⟨⟨fun e=>Zpp e h2,fun e=>Za⟩,⟨fun e=>Zpp e hr,fun e=>Za⟩,s3,s4⟩
theorem Zjo (p1 p2:Option Addr) (c1 c2:Nat) (l1 l2:Nat) (h1:l1<=1000000) (h2:l2<=1000000) (hne:l1≠l2) (w:World) :
  Calls Tryz.prog 69 #[.slice p1 l1 c1,.slice p2 l2 c2] w fun e w'=>e=.returned (.int .i64 ((l1:Int)-l2))/\Below w.heap.size w w':=by
 have hb:((l1:Int) !=l2)=true:=by rw[bne_iff_ne];omega
 clear hne
 go_enter Tryz.func69,Tryz.ntmps69
 go_wp2
 refine ZoM (v:=.int .i64 ((l1:Int)-l2)) ?_ rfl ⟨rfl,?_⟩
 ·simp[results,Tryz.f69,go_sem]
 exact((ZoL _ _).alloc ZpA _).alloc Zc _
theorem Ziy (p1 p2:Option Addr) (c1 c2:Nat) (xs ys:List Nat) (hl:xs.length<=1000000) (hlen:ys.length=xs.length) (w:World)
  (hp1:xs≠[]->∃ b off,p1=some ⟨b,off,none⟩/\b<w.heap.size/\At .u64 w b off xs) (hp2:ys≠[]->∃ b off,p2=some ⟨b,off,none⟩/\b<w.heap.size/\At .u64 w b off ys)
  (hx:∀ x ∈ xs,x<1000000000) (hy:∀ x ∈ ys,x<1000000000) :
  Calls Tryz.prog 69 #[.slice p1 xs.length c1,.slice p2 xs.length c2] w (Zke w (val 1000000000 xs) (val 1000000000 ys)):=by
 have HL:=Zpz hlen
 have HP1:=Zpz hp1
 have HP2:=Zpz hp2
 have HX:=Zpz hx
 have HY:=Zpz hy
 clear hlen hp1 hp2 hx hy
 have hfn:∀ k,Fence.wide.fn k:=fun _=>trivial
 refine(Zpf (n:=9)).1 ?_
 refine callsIn_of_wp_marks Tryz.func69 rfl trivial ?_ rfl
 simp only[Tryz.ntmps69,Nat.reduceAdd,Nat.reduceSub,Zpy]
 gi_wp2_with (gi_at_call 127;refine(Zhm Fence.wide _ trivial rfl _ _ _ _).mono ?_;rintro e w' ⟨rfl,rfl⟩)
 obtain⟨w3,hw3⟩:=ZpB (((w.alloc (.cells #[.slice p2 xs.length c2] 110)).alloc (.cells #[.int .i64 0] 3)).alloc (.cells #[.slice p1 xs.length c1] 110))
 rw[hw3]
 have hD:w3.heap.size=w.heap.size+3:=by rw[<- hw3];simp
 have HB3:Zpt w w3:=by rw[<- hw3];exact(((ZoL _ w).alloc ZpA _).alloc Zc _).alloc (by simp;omega) _
 refine Zgc (w.heap.size+3) hD (gf:=176) (lb:=#[.pointer (some ⟨w.heap.size+2,0,none⟩)])
  (f:=fun k=>#[.int .i64 (bk xs.length k:Nat),.int .u64 (lim xs (bk xs.length k):Nat)]) (N:=xs.length) (S:=fun b=>b<w.heap.size+3/\b≠w.heap.size+1) (T:=fun _=>True)
  rfl (enters_of Tryz.func176 Zb rfl) (fun _=>rfl) ?iter (fun b h=>h.1) ⟨trivial,trivial⟩
  (fun k W=>ZfG xs ys k/\Keeps (fun b=>b<w.heap.size+3) w3 W)
  (fun c k W=>c=.ret/\ZfG xs ys k/\(∃ r:Int,W.cell? ⟨w.heap.size+1,0,none⟩=some (.int .i64 r)/\Hid (Sign (lim xs (bk xs.length k)) (lim ys (bk xs.length k)) r/\r≠0))/\Keeps (fun b=>b<w.heap.size+3/\b≠w.heap.size+1) w3 W)
  (fun k W1 W2 h hk=>⟨h.1,h.2.trans (hk.mono fun b hb1 hb2=>⟨trivial,Za,Za⟩)⟩)
  (fun c k W1 W2 h hk=>?ix) ⟨fun j h1 h2=>Za,Keeps.refl _ _⟩ ?a1 ?assign ?body ?done ?stop
 case ix=>
  obtain⟨h1,h2,⟨r,h3,h4⟩,h5⟩:=h
  exact⟨h1,h2,⟨r,hk.cellAt h3 ⟨trivial,Zc,Zc⟩,h4⟩,h5.trans (hk.mono fun b hb1 hb2=>⟨trivial,Za,Za⟩)⟩
 case iter=>
  refine Ze6 (w.heap.size+2) _ p1 c1 xs hl w3 ⟨Za,Za⟩ ?_ ?_
  ·rw[<- hw3];exact ZK _ _ _ _ Zc
  ·intro hne
   obtain⟨b,off,h1,h2,h3⟩:=HP1.out hne
   refine⟨b,off,h1,⟨Za,Za⟩,?_⟩
   exact h3.below HB3.out h2
 case assign=>
  intro l k W K hK
  gi_wp2
  exact hK
 case body=>
  rintro l k W hk ⟨HE,HK⟩ hW
  have cm:W.cell? ⟨w.heap.size,0,none⟩=some (.slice p2 xs.length c2):=HK.cellAt (by rw[<- hw3,Zai _ _ _ (by simp;omega),Zai _ _ _ Zc];exact ZK _ _ _ _ rfl) Zc
  have cr:W.cell? ⟨w.heap.size+1,0,none⟩=some (.int .i64 0):=HK.cellAt (by rw[<- hw3,Zai _ _ _ Zc];exact ZK _ _ _ _ Zc) Zc
  have fr:W.frozen? ⟨w.heap.size+1,0,none⟩=false:=by rw[HK.frozen (by rw[hD];simp) Zc,<- hw3,Zdw _ _ _ Zc];exact ZcL _ _ _ _ Zc
  have HKh:=Zpz HK
  obtain⟨i,hi⟩:=ZpB (bk xs.length k)
  have hil:i<xs.length:=by unfold bk at hi;omega
  have hik:Hid (xs.length-k=i+1/\xs.length-(k+1)=i):=by unfold bk at hi;exact⟨Za,Za⟩
  obtain⟨b,off,rfl,hb,ha⟩:=HP2.out (ZoT (by rw[HL.out];omega))
  obtain⟨y,hy⟩:=ZpB (lim ys i)
  obtain⟨x,hx⟩:=ZpB (lim xs i)
  have ha3:=ha.below HB3.out hb
  have cy:W.cell? ⟨b,off+i,none⟩=some (.int .u64 (y:Nat)):=HK.cellAt (ha3.getD (by rw[HL.out];exact hil) hy) (by simp;omega)
  rw[hi,hx]
  clear HK ha ha3
  have Hi:=Zpz hi
  have Hx:=Zpz hx
  have Hy:=Zpz hy
  clear hi hx hy
  by_cases hxy:x=y
  ·have hb0:((x:Int) !=y)=false:=by subst hxy;simp
   have HXY:=Zpz hxy
   clear hxy
   gi_wp2
   refine⟨Keeps.refl _ _,fun j h1 h2=>?_,HKh.out⟩
   have hik1:=hik.out
   rcases ZoR i j with h3 | h3
   ·exact HE j Za h2
   ·obtain rfl:j=i:=Za
    rw[Hx.out,Hy.out,HXY.out]
  ·have hb0:((x:Int) !=y)=true:=by rw[bne_iff_ne];omega
   have HS1:Hid (x<y->Sign (lim xs (bk xs.length k)) (lim ys (bk xs.length k)) (-1)/\(-1:Int)≠0):=fun h=>by
    rw[Hi.out,Hx.out,Hy.out];exact⟨⟨Za,Za,Za,Za⟩,Za⟩
   have HS2:Hid (¬ x<y->Sign (lim xs (bk xs.length k)) (lim ys (bk xs.length k)) 1/\(1:Int)≠0):=fun h=>by
    rw[Hi.out,Hx.out,Hy.out];exact⟨⟨Za,Za,Za,Za⟩,Za⟩
   have hS3:¬ (fun b=>(b<w.heap.size+3/\b≠w.heap.size+1)\/b=w.heap.size+3\/b=w.heap.size+3+1) (w.heap.size+1):=Zc
   have HS3:=Zpz hS3
   clear hxy hS3
   by_cases hlt:x<y
   ·gi_wp2
    exact⟨(Keeps.refl _ _).setCell (p:=⟨w.heap.size+1,0,none⟩) HS3.out _,rfl,HE,⟨-1,World.cell?_setCell_same' _ _ _ (by rw[cr];rfl),HS1.out hlt⟩,(HKh.out.mono (fun b _ hb=>hb.1)).setCell (p:=⟨w.heap.size+1,0,none⟩) Zc _⟩
   ·gi_wp2
    exact⟨(Keeps.refl _ _).setCell (p:=⟨w.heap.size+1,0,none⟩) HS3.out _,rfl,HE,⟨1,World.cell?_setCell_same' _ _ _ (by rw[cr];rfl),HS2.out hlt⟩,(HKh.out.mono (fun b _ hb=>hb.1)).setCell (p:=⟨w.heap.size+1,0,none⟩) Zc _⟩
 case done=>
  rintro W ⟨HE,HK⟩ hdef
  have cr:W.cell? ⟨w.heap.size+1,0,none⟩=some (.int .i64 0):=HK.cellAt (by rw[<- hw3,Zai _ _ _ Zc];exact ZK _ _ _ _ Zc) Zc
  have fr:W.frozen? ⟨w.heap.size+1,0,none⟩=false:=by rw[HK.frozen (by rw[hD];simp) Zc,<- hw3,Zdw _ _ _ Zc];exact ZcL _ _ _ _ Zc
  have HKh:=Zpz HK
  clear HK
  gi_wp2
  have hdef':(W.setCell ⟨w.heap.size+1,0,none⟩ (.int .i64 0)).heap[w.heap.size+3]?=some (.deferred (some [])):=(ZoN _ _ _ _ Zc).trans hdef
  have hc5:((W.setCell ⟨w.heap.size+1,0,none⟩ (.int .i64 0)).putObj (w.heap.size+3) (.deferred none)).cell? ⟨w.heap.size+1,0,none⟩=some (.int .i64 0):=
   (Zo3 (Zo4 Zc)).trans (World.cell?_setCell_same' _ _ _ (by rw[cr];rfl))
  refine⟨Zc,.inl ⟨_,_,rfl,run_takeDeferred hdef',?_⟩⟩
  refine⟨.int .i64 0,by simp[results,Tryz.f69,go_sem,hc5],0,rfl,?_,?_⟩
  ·rw[Zjr HL.out HE]
   exact⟨Zc,Zc,Za,Za⟩
  ·refine HB3.out.trans ?_
   have h1:=((HKh.out.mono (S':=fun b=>b<w.heap.size) (fun b _ hb=>Za)).setCell (p:=⟨w.heap.size+1,0,none⟩) Zc (.int .i64 0)).putObj (r:=w.heap.size+3) Zc (.deferred none)
   exact⟨h1.os,h1.tape,h1.output,h1.size,fun k hk=>h1.block k Za hk⟩
 case stop=>
  rintro c k W hk ⟨rfl,HE,⟨r,cr,HS⟩,HK⟩ hdef
  have HKh:=Zpz HK
  clear HK
  gi_wp2
  have hc5:(W.putObj (w.heap.size+3) (.deferred none)).cell? ⟨w.heap.size+1,0,none⟩=some (.int .i64 r):=(Zo3 (Zo4 Zc)).trans cr
  refine⟨Zc,.inl ⟨_,_,rfl,run_takeDeferred hdef,?_⟩⟩
  refine⟨.int .i64 r,by simp[results,Tryz.f69,go_sem,hc5],r,rfl,Zj3 HL.out HX.out HY.out hk HE HS.out.1 HS.out.2,?_⟩
  refine HB3.out.trans ?_
  have h1:=(HKh.out.mono (S':=fun b=>b<w.heap.size) (fun b _ hb=>Za)).putObj (r:=w.heap.size+3) Zc (.deferred none)
  exact⟨h1.os,h1.tape,h1.output,h1.size,fun k hk=>h1.block k Za hk⟩
theorem ZbU {v1 v2:Value} {n m:Nat} {w:World} (h1:Num w v1 n) (h2:Num w v2 m) (hl1:(Zp 1000000000 n).length<=1000000) (hl2:(Zp 1000000000 m).length<=1000000) :
  Calls Tryz.prog 69 #[v1,v2] w (Zke w n m):=by
 obtain⟨p1,c1,rfl,_,_,hp1⟩:=h1
 obtain⟨p2,c2,rfl,_,_,hp2⟩:=h2
 by_cases hlen:(Zp 1000000000 n).length=(Zp 1000000000 m).length
 ·rw[<- hlen]
  have:=Ziy p1 p2 c1 c2 _ _ hl1 hlen.symm w hp1 hp2 (ZJ Za n) (ZJ Za m)
  rwa [ZA Za,ZA Za] at this
 ·refine(Zjo p1 p2 c1 c2 _ _ hl1 hl2 hlen w).mono ?_
  rintro e w' ⟨rfl,hb⟩
  refine⟨_,rfl,?_,hb⟩
  rcases Nat.lt_or_gt_of_ne hlen with h | h
  ·have:=ZbZ (B:=1000000000) Za h
   exact⟨⟨fun _=>this,fun _=>Za⟩,⟨fun e=>Za,fun e=>Za⟩,Za,Za⟩
  ·have:=ZbZ (B:=1000000000) Za h
   exact⟨⟨fun e=>Za,fun e=>Za⟩,⟨fun e=>Za,fun e=>Za⟩,Za,Za⟩
end Go.Proofs.YtmpaflidennnoaaGreatDoor
namespace Go.Proofs.YtmpaflidennnoaaGreatDoor
open Go.RowKit
theorem ZfW (x y p:Nat) (hp:x*y=p) (hx:x<18446744073709551616) (hy:y<18446744073709551616) (h:p<18446744073709551616) (w:World) :
  Calls Tryz.prog 218 #[.int .u64 x,.int .u64 y] w fun e w'=>w=w'/\e=.returned (.tuple #[.int .u64 0,.int .u64 (p:Nat)]):=by
 refine(Tryz.bits_Mul64 x y hx hy w).mono ?_
 rintro e w' ⟨rfl,rfl⟩
 refine⟨rfl,?_⟩
 rw[hp,Nat.div_eq_of_lt h,Nat.mod_eq_of_lt h]
 rfl
theorem Zlc (x p:Nat) (hp:x*1000000000=p) (hx:x<18446744073709551616) (h:p<18446744073709551616) (w:World) :
  Calls Tryz.prog 218 #[.int .u64 x,.int .u64 1000000000] w fun e w'=>w=w'/\e=.returned (.tuple #[.int .u64 0,.int .u64 (p:Nat)]):=
 ZfW x 1000000000 p hp hx Za h w
theorem ZkY (x y s:Nat) (hs:x+y=s) (h:s<18446744073709551616) (w:World) :
  (callFunc 219 #[.int .u64 x,.int .u64 y,.int .u64 0]).run Tryz.prog w=.ok (.value (.tuple #[.int .u64 (s:Nat),.int .u64 0])) w:=by
 have:=run_callFunc_extern (P:=Tryz.prog) Tryz.func219 Zb Zb Zb (e:=add64Entry) Zb (args:=#[.int .u64 x,.int .u64 y,.int .u64 0]) (w:=w)
 rw[this]
 rw[run_add64 x y 0 Za Za Za Za (P:=Tryz.prog) (w:=w)]
 subst hs
 simp only[Result.andThen]
 have h1:((x:Int)+y+0) % 18446744073709551616=((x+y:Nat):Int):=Za
 have h2:((x:Int)+y+0)/18446744073709551616=0:=Za
 rw[h1,h2]
theorem ZfP (g s l n:Nat) (hg:g<=1000000001) (hs:s<1000000000) (hl:l<1000000000) (hn:n<1000000000) (w:World) :
  Calls Tryz.prog 194 #[.int .u64 g,.int .u64 s,.int .u64 l,.int .u64 n] w fun e w'=>w=w'/\e=.returned (.bool (decide (l*1000000000+n<g*s))):=by
 obtain⟨p,hp⟩:=ZpB (g*s)
 have hpl:p<2000000000000000000:=by
  have:g*s<=1000000001*999999999:=Nat.mul_le_mul hg Za
  omega
 have HP:=Zpz hp
 clear hp
 obtain⟨q,hq⟩:=ZpB (l*1000000000)
 obtain⟨r,hr⟩:=ZpB (q+n)
 have hql:q<1000000000000000000:=Za
 have hrl:r<2000000000000000000:=Za
 have HQ:=Zpz hq
 have HRR:=Zpz hr
 clear hq hr
 go_enter Tryz.func194,Tryz.ntmps194
 go_wp2_with fail
 refine(ZfW g s p HP.out Za Za Za _).mono ?_
 rintro e w' ⟨rfl,rfl⟩
 go_wp2_with fail
 refine(Zlc l q HQ.out Za Za _).mono ?_
 rintro e w' ⟨rfl,rfl⟩
 have ha:=fun w=>ZkY q n r HRR.out Za w
 have E2:Hid (decide (l*1000000000+n<g*s)=decide (r<p)):=by
  show _=_
  rw[HP.out,HQ.out,HRR.out]
 go_wp2_with (simp only[ha])
 go_ret
 exact⟨rfl,by rw[E2.out];rfl⟩
end Go.Proofs.YtmpaflidennnoaaGreatDoor
