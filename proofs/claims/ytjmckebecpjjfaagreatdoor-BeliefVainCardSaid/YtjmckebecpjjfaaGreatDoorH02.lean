/- The parts Trim, Plus, Back, Builder, Format, Dec, NatOk, Groups, Make, Region. -/
import Derived.Test.YtjmckebecpjjfaaGreatDoorH01
import Derived.RangeFuncBound
import Derived.RangeFuncCalls
import Derived.RangeFuncBox
import Derived.Shelf.Abstract
import Derived.OwnWalkIn
import Derived.TacticsInMore
import Derived.LoopNIn
import Derived.LoopIn
import Derived.Test.YtjmckebecpjjfaaGreatDoorH00
import Derived.Shelf.Strings.BuilderK
import Derived.Lib.AppendIntMem
import Derived.Lib.ItoaNum
import Derived.Lib.ParseIntB
import Derived.StillTailTactics
import Derived.OrdersIn
set_option maxRecDepth 100000
set_option maxHeartbeats 2000000
set_option linter.unusedVariables false
set_option linter.unusedSimpArgs false
namespace Go.Proofs.YtjmckebecpjjfaaGreatDoor
open Go.RowKit
def lenV:Value->Nat
 | .slice _ n _=>n
 | _=>0
theorem Ze7 {B:Nat} {l:List Nat} {k:Nat} (hk:k<l.length) (h:l[k]=0):val B (l.take (k+1))=val B (l.take k):=by
 rw[Zcx B l k hk,h];simp
theorem Zhg {B:Nat} (hB:1<B) {l:List Nat} (hl:∀ x ∈ l,x<B) {k:Nat} (hk:k<l.length) (h:l[k]≠0):Zp B (val B (l.take (k+1)))=l.take (k+1):=by
 refine Zfe hB (fun x hx=>hl x (List.mem_of_mem_take hx)) ?_
 rw[List.take_succ_eq_append_getElem hk,List.getLast?_append]
 simpa using h
theorem Zci {B:Nat} (hB:1<B):∀ {l:List Nat},(∀ x ∈ l,x<B)->Zp B (val B l)=l.take (Zp B (val B l)).length:=by
 intro l hl
 induction h:l.length generalizing l with
 | zero=>
  have:l=[]:=Zp7 h
  subst this;simp[val,ZL]
 | succ n ih=>
  have hn:n<l.length:=Za
  by_cases hz:l[n]=0
  ·have h1:val B l=val B (l.take n):=by
    rw[<- Ze7 hn hz,Zp5 Za]
   have h2:=ih (l:=l.take n) (fun x hx=>hl x (List.mem_of_mem_take hx)) (by rw[Zqz];omega)
   rw[h1]
   rw[List.take_take] at h2
   have h3:(Zp B (val B (l.take n))).length<=n:=by
    have:=congrArg List.length h2
    rw[Zqz] at this
    omega
   rw[Nat.min_eq_left h3] at h2
   exact h2
  ·have h1:=Zhg hB hl hn hz
   rw[Zp5 Za] at h1
   rw[h1,Zp5 ZqI]
theorem Zfd {B:Nat} (hB:1<B) {l:List Nat} (hl:∀ x ∈ l,x<B):(Zp B (val B l)).length<=l.length:=by
 have:=congrArg List.length (Zci hB hl)
 rw[Zqz] at this
 omega
theorem Zev (p:Option Addr) (cap:Nat) (xs:List Nat) (w:World) (hlc:xs.length<=cap) (hcap:cap<=maxLen) (hlt:∀ x ∈ xs,x<1000000000)
  (hp:xs≠[]->∃ b off,p=some ⟨b,off,none⟩/\At .u64 w b off xs) :
  Calls Tryz.prog 102 #[.slice p xs.length cap] w fun e w'=>
   w=w'/\e=.returned (.slice p (Zp 1000000000 (val 1000000000 xs)).length cap):=by
 unfold maxLen at hcap
 have HP:=ZqH hp
 clear hp
 go_enter Tryz.func102,Tryz.ntmps102
 go_wp2
 go_loop [0] (fun v=>∃ k:Nat,k<=xs.length/\v=.slice p k cap/\Hid (val 1000000000 xs=val 1000000000 (xs.take k))) (fun v=>lenV v)
 case atStart=>exact⟨xs.length,Nat.le_refl _,rfl,by rw[Zp5 ZqI];rfl⟩
 case round=>
  obtain⟨k,hk,rfl,HV⟩:=hrel
  rcases Zqa k with h0 | h0
  ·subst h0
   go_wp2
   go_ret
   exact⟨rfl,by rw[HV.out];simp[val,ZL]⟩
  ·obtain⟨j,rfl⟩:∃ j,k=j+1:=⟨k-1,Za⟩
   have hj:j<xs.length:=Za
   obtain⟨b,off,rfl,hc⟩:=HP.out (Zp3 Za)
   have hcj:w.cell? ⟨b,off+j,none⟩=some (.int .u64 (xs[j]:Nat)):=hc j hj
   clear hc
   by_cases hz:xs[j]=0
   ·have hz':((xs[j]:Nat):Int)=0:=by rw[hz];rfl
    rw[hz'] at hcj
    have HZ:=ZqH hz
    clear hz hz'
    go_wp2
    go_round
    case rel=>exact⟨j,Za,Zc,by rw[HV.out,Ze7 hj HZ.out];rfl⟩
    case measure=>simp[lenV]
   ·have hz':(((xs[j]:Nat):Int)==0)=false:=by simpa using hz
    have HZ:=ZqH hz
    clear hz
    go_wp2
    go_ret
    exact⟨rfl,by rw[HV.out,Zhg Za hlt hj HZ.out];simp;omega⟩
theorem Zdb {E:TypeId} {B g cap:Nat} {xs:List Nat} {w:World} (h:Row .u64 E w B g cap xs) (hlt:∀ x ∈ xs,x<1000000000) (n:Nat) (hn:n=xs.length) (m:Nat) (hm:val 1000000000 xs=m) :
  Calls Tryz.prog 102 #[.slice (some ⟨g,0,none⟩) n cap] w fun e w'=>
   w=w'/\e=.returned (.slice (some ⟨g,0,none⟩) (Zp 1000000000 m).length cap)/\Row .u64 E w' B g cap (Zp 1000000000 m):=by
 subst hn;subst hm
 refine(Zev (some ⟨g,0,none⟩) cap xs w h.cap_le.1 h.cap_le.2 hlt (fun _=>⟨g,0,rfl,h.at⟩)).mono ?_
 rintro e w' ⟨rfl,rfl⟩
 refine⟨rfl,rfl,?_⟩
 have:=h.take (Zp 1000000000 (val 1000000000 xs)).length
 rwa [<- Zci Za hlt] at this
def Num (w:World) (v:Value) (n:Nat):Prop:=Nums .u64 w v (Zp 1000000000 n)
def Zdl (B:Nat) (w:World) (v:Value) (n:Nat):Prop:=∃ g cap,v=.slice (some ⟨g,0,none⟩) (Zp 1000000000 n).length cap/\Row .u64 146 w B g cap (Zp 1000000000 n)
theorem Zdl.num {B:Nat} {w:World} {v:Value} {n:Nat} (h:Zdl B w v n):Num w v n:=by
 obtain⟨g,cap,rfl,hr⟩:=h
 exact hr.nums
theorem ZiL (p1 p2 q1 q2:Option Addr) (c1 c2 d1 d2:Nat) (xs ys:List Nat) (l1 l2:Nat) (w:World)
  (hsw:(l1=xs.length/\l2=ys.length/\q1=p1/\q2=p2/\d1=c1/\d2=c2)\/(l2=xs.length/\l1=ys.length/\l1<l2/\q2=p1/\q1=p2/\d2=c1/\d1=c2))
  (hle:ys.length<=xs.length) (hx:∀ x ∈ xs,x<1000000000) (hy:∀ x ∈ ys,x<1000000000) (hl:xs.length<=1000000)
  (hp1:xs≠[]->∃ b off,p1=some ⟨b,off,none⟩/\b<w.heap.size/\At .u64 w b off xs) (hp2:ys≠[]->∃ b off,p2=some ⟨b,off,none⟩/\b<w.heap.size/\At .u64 w b off ys) :
  Calls Tryz.prog 66 #[.slice q1 l1 d1,.slice q2 l2 d2] w fun e w'=>
   ∃ v,e=.returned v/\Zdl w.heap.size w' v (val 1000000000 xs+val 1000000000 ys)/\Below w.heap.size w w':=by
 obtain⟨i0,hi,hz0,hz1,hz2⟩:=info_parts ZdM
 have HX:=ZqH hx
 have HY:=ZqH hy
 have HP1:=ZqH hp1
 have HP2:=ZqH hp2
 clear hx hy hp1 hp2
 have hs:(l1=xs.length/\l2=ys.length/\q1=p1/\q2=p2/\d1=c1/\d2=c2/\¬ l1<l2)\/(l2=xs.length/\l1=ys.length/\l1<l2/\q2=p1/\q1=p2/\d2=c1/\d1=c2):=by
  rcases hsw with ⟨h1,h2,h3⟩ | h
  ·exact .inl ⟨h1,h2,h3.1,h3.2.1,h3.2.2.1,h3.2.2.2,Za⟩
  ·exact .inr h
 clear hsw
 rcases hs with ⟨rfl,rfl,rfl,rfl,rfl,rfl,hn⟩ | ⟨rfl,rfl,hn,rfl,rfl,rfl,rfl⟩
 all_goals
  go_enter Tryz.func66,Tryz.ntmps66
  go_wp2_with (at_make;refine wpList_make_own _ rfl _ _ 105 rfl w.heap.size 146 i0 (.int .u64 0) 1 Tryz.underlying105 hi hz0 hz1 _ _ _ (xs.length+1) rfl rfl Za ?b2 ?b3 ZqI ?_)
  case b2=>rw[hz2];omega
  case b3=>unfold maxLen;omega
  intro w0 hown0 hgrow0
  have HB0:=ZqH ((ZpV w.heap.size w).grown hgrow0 ZqI (fun k h=>by cases h))
  have HR0:=ZqH (Row.made (k:=.u64) hown0)
  clear hgrow0 hown0
  go_wp2
  go_loopw [5,6,22] (fun o c i wr=>∃ (k:Nat) (out:List Nat) (cr:Nat),k<=xs.length/\i=.int .i64 k/\o=.slice (some ⟨w.heap.size,0,none⟩) k (xs.length+1)/\c=.int .u64 cr/\
    Hid (Row .u64 146 wr w.heap.size w.heap.size (xs.length+1) out)/\Hid (PlusInv 1000000000 xs ys k out cr)/\ZqB w wr) (fun _ _ i _=>xs.length-(intOf i).toNat)
  case atStart=>exact⟨0,[],0,Zp8 _,rfl,rfl,rfl,HR0,PlusInv.start _ _ _,HB0⟩
  case round=>
   obtain⟨k,out,cr,hk,rfl,rfl,rfl,HR,HI,HB⟩:=hrel
   have hcr:cr<=1:=HI.out.carry
   by_cases hlt:k<xs.length
   ·obtain⟨b1,off1,rfl,hb1,ha1⟩:=HP1.out (Zp3 Za)
    obtain⟨x,hx⟩:=ZqJ (xs.getD k 0)
    have hxl:x<1000000000:=by rw[<- hx];exact ZM Za HX.out k
    have cx:wr.cell? ⟨b1,off1+k,none⟩=some (.int .u64 (x:Nat)):=(HB.out.cell (p:=⟨b1,off1+k,none⟩) hb1).trans (ha1.getD hlt hx)
    have Hx:=ZqH hx
    clear hx ha1
    by_cases hlt2:k<ys.length
    ·obtain⟨b2,off2,rfl,hb2,ha2⟩:=HP2.out (Zp3 Za)
     obtain⟨y,hy⟩:=ZqJ (ys.getD k 0)
     have hyl:y<1000000000:=by rw[<- hy];exact ZM Za HY.out k
     have cy:wr.cell? ⟨b2,off2+k,none⟩=some (.int .u64 (y:Nat)):=(HB.out.cell (p:=⟨b2,off2+k,none⟩) hb2).trans (ha2.getD hlt2 hy)
     have Hy:=ZqH hy
     clear hy ha2
     have e1:((x:Int)+cr+y) % 1000000000=((x+cr+y) % 1000000000:Nat):=Za
     have e2:((x:Int)+cr+y)/1000000000=((x+cr+y)/1000000000:Nat):=Za
     have E1:=ZqH e1
     have E2:=ZqH e2
     clear e1 e2
     have HS:Hid (PlusInv 1000000000 xs ys (k+1) (out++[(x+cr+y) % 1000000000]) ((x+cr+y)/1000000000)):=
      HI.out.step Za HX.out HY.out (by rw[Hx.out,Hy.out])
     have hown:=HR.out.own HI.out.len
     go_wp2_with (at_builtin;refine wpList_append_fits _ rfl (.tmp 40) (.tmp 43) 105 rfl w.heap.size 146 i0 1 Tryz.underlying105 hi hz1 w.heap.size k (xs.length+1) _ rfl (hown.alloc _) ⟨wr.heap.size,0,none⟩ 1 1 [.int .u64 (((x:Int)+cr+y) % 1000000000)] rfl rfl (cell_one_new _ _ _) (by simp[Value.oneCell']) Za ?_;intro w1 hown1 hgrow1)
     have HR1:=ZqH (Row.snoc HI.out.len.symm E1.out hown1)
     have HB1:=ZqH ((HB.out.alloc HB.out.size _).grown hgrow1 (by have:=HB.out.size;simp;omega) (fun k h=>by cases h;exact Nat.le_refl _))
     clear hown1 hgrow1
     go_roundw
     case rel=>exact⟨k+1,_,_,Za,by go_num,rfl,by rw[E2.out],HR1,HS,HB1⟩
     case measure=>exact Zj
    ·have e1:((x:Int)+cr) % 1000000000=((x+cr) % 1000000000:Nat):=Za
     have e2:((x:Int)+cr)/1000000000=((x+cr)/1000000000:Nat):=Za
     have E1:=ZqH e1
     have E2:=ZqH e2
     clear e1 e2
     have HS:Hid (PlusInv 1000000000 xs ys (k+1) (out++[(x+cr) % 1000000000]) ((x+cr)/1000000000)):=
      HI.out.step Za HX.out HY.out (by rw[Hx.out];simp[List.getD,hlt2])
     have hown:=HR.out.own HI.out.len
     go_wp2_with (at_builtin;refine wpList_append_fits _ rfl (.tmp 40) (.tmp 43) 105 rfl w.heap.size 146 i0 1 Tryz.underlying105 hi hz1 w.heap.size k (xs.length+1) _ rfl (hown.alloc _) ⟨wr.heap.size,0,none⟩ 1 1 [.int .u64 (((x:Int)+cr) % 1000000000)] rfl rfl (cell_one_new _ _ _) (by simp[Value.oneCell']) Za ?_;intro w1 hown1 hgrow1)
     have HR1:=ZqH (Row.snoc HI.out.len.symm E1.out hown1)
     have HB1:=ZqH ((HB.out.alloc HB.out.size _).grown hgrow1 (by have:=HB.out.size;simp;omega) (fun k h=>by cases h;exact Nat.le_refl _))
     clear hown1 hgrow1
     go_roundw
     case rel=>exact⟨k+1,_,_,Za,by go_num,rfl,by rw[E2.out],HR1,HS,HB1⟩
     case measure=>exact Zj
   ·obtain rfl:k=xs.length:=Za
    have hown:=HR.out.own HI.out.len
    have HV:=ZqH (HI.out.done hle)
    have HL:Hid (∀ z ∈ out++[cr],z<1000000000):=Zdc HI.out.lt Za
    have HN:=ZqH HI.out.len
    go_wp2_with (at_builtin;refine wpList_append_fits _ rfl (.tmp 48) (.tmp 50) 105 rfl w.heap.size 146 i0 1 Tryz.underlying105 hi hz1 w.heap.size xs.length (xs.length+1) _ rfl (hown.alloc _) ⟨wr.heap.size,0,none⟩ 1 1 [.int .u64 cr] rfl rfl (cell_one_new _ _ _) (by simp[Value.oneCell']) Za ?_;intro w1 hown1 hgrow1)
    have hr1:=Row.snoc HN.out.symm rfl hown1
    have HB1:=ZqH ((HB.out.alloc HB.out.size _).grown hgrow1 (by have:=HB.out.size;simp;omega) (fun k h=>by cases h;exact Nat.le_refl _))
    clear hown1 hgrow1
    refine(Zdb hr1 HL.out _ (by simp[HN.out]) _ HV.out).mono ?_
    rintro e w' ⟨rfl,rfl,hr2⟩
    have HR2:=ZqH hr2
    clear hr1 hr2
    go_wp2
    go_ret
    exact⟨_,rfl,⟨_,_,rfl,HR2.out⟩,HB1.out⟩
theorem Zn3 {v1 v2:Value} {n m:Nat} {w:World} (h1:Num w v1 n) (h2:Num w v2 m) (hl1:(Zp 1000000000 n).length<=1000000) (hl2:(Zp 1000000000 m).length<=1000000) :
  Calls Tryz.prog 66 #[v1,v2] w fun e w'=>∃ v,e=.returned v/\Zdl w.heap.size w' v (n+m)/\Below w.heap.size w w':=by
 obtain⟨p1,c1,rfl,_,_,hp1⟩:=h1
 obtain⟨p2,c2,rfl,_,_,hp2⟩:=h2
 have e1:=ZO (B:=1000000000) Za n
 have e2:=ZO (B:=1000000000) Za m
 rcases Zp1 (Zp 1000000000 n).length (Zp 1000000000 m).length with h | h
 ·have:=ZiL p2 p1 p1 p2 c2 c1 c1 c2 _ _ _ _ w (.inr ⟨rfl,rfl,h,rfl,rfl,rfl,rfl⟩) (Zqr h) (ZR Za m) (ZR Za n) hl2 hp2 hp1
  rw[e1,e2,Nat.add_comm m n] at this
  exact this
 ·have:=ZiL p1 p2 p1 p2 c1 c2 c1 c2 _ _ _ _ w (.inl ⟨rfl,rfl,rfl,rfl,rfl,rfl⟩) h (ZR Za n) (ZR Za m) hl1 hp1 hp2
  rw[e1,e2] at this
  exact this
end Go.Proofs.YtjmckebecpjjfaaGreatDoor
namespace Go.Proofs.YtjmckebecpjjfaaGreatDoor
open Go.RowKit Go.Shelf
attribute [local go_sem] Oper.semAt_some
def bk (n k:Nat):Nat:=n-1-k
theorem At.keeps {k:IntKind} {S:Nat->Prop} {w w':World} {b off:Nat} {xs:List Nat} (h:At k w b off xs) (hb:Keeps S w w') (hs:S b):At k w' b off xs:=
 fun j hj=>hb.cellAt (p:=⟨b,off+j,none⟩) (h j hj) hs
theorem Zfp (Bs:Nat) (S:Nat->Prop) (p:Option Addr) (cap:Nat) (xs:List Nat) (hl:xs.length<=1000000) (w0:World) (hS:S Bs)
  (hBs:w0.cell? ⟨Bs,0,none⟩=some (.slice p xs.length cap)) (hp:xs≠[]->∃ b off,p=some ⟨b,off,none⟩/\S b/\At .u64 w0 b off xs) :
  Iter Tryz.prog 143 #[.pointer (some ⟨Bs,0,none⟩)] (fun k=>#[.int .i64 (bk xs.length k:Nat),.int .u64 (lim xs (bk xs.length k):Nat)]) xs.length S (fun _=>True) w0:=by
 intro n l J Jx W hK hJ hJx hY h0
 have HP:Hid (xs≠[]->∃ b off,p=some ⟨b,off,none⟩/\S b/\At .u64 W b off xs):=fun hne=>by
  obtain⟨b,off,h1,h2,h3⟩:=hp hne
  exact⟨b,off,h1,h2,h3.keeps hK h2⟩
 have hB1:W.cell? ⟨Bs,0,none⟩=some (.slice p xs.length cap):=hK.cellAt hBs hS
 have HY:=ZqH hY
 clear hp hY hBs
 refine callsIn_of_wp Tryz.func143 rfl trivial ?_ rfl
 simp only[Tryz.ntmps143,Nat.reduceAdd,Nat.reduceSub,ZqG]
 gi_wp2
 gi_loopw [3] (fun iv wr=>∃ (i:Int) (k:Nat),iv=.int .i64 i/\Hid (i+k+1=xs.length)/\-1<=i/\i<xs.length/\J k wr/\Hid (Keeps S W wr))
  (fun iv _=>(intOf iv+1).toNat)
 case atStart=>exact⟨_,0,rfl,by show _=_;omega,Za,Za,h0,Keeps.refl _ _⟩
 case round=>
  obtain⟨i,k,rfl,HK,hi1,hi2,hJs,HN⟩:=hrel
  have hbs':wr.cell? ⟨Bs,0,none⟩=some (.slice p xs.length cap):=HN.out.cellAt hB1 hS
  clear hB1
  by_cases hge:0<=i
  ·obtain⟨j,rfl⟩:∃ j:Nat,i=(j:Int):=⟨i.toNat,Za⟩
   have hjl:j<xs.length:=Za
   obtain⟨b,off,rfl,hb,ha⟩:=HP.out (Zp3 Za)
   obtain⟨x,hx⟩:=ZqJ (lim xs j)
   have hcx:wr.cell? ⟨b,off+j,none⟩=some (.int .u64 (x:Nat)):=HN.out.cellAt (ha.getD hjl hx) hb
   have hjk:bk xs.length k=j:=by have:=HK.out;unfold bk;omega
   have hkl:k<xs.length:=by have:=HK.out;omega
   obtain⟨fn,tmps,assign,body,hy,hR⟩:=HY.out k wr hkl hJs
   rw[hjk,hx] at hy
   clear ha hx hjk hJs
   gi_wp2
   refine⟨(fun h=>by cases h),hR.mono ?_⟩
   rintro e W3 (⟨rfl,hJ3,hk3⟩ | ⟨rfl,hJx3⟩)
   ·have HN3:=ZqH (HN.out.trans hk3)
    clear hk3
    gi_wp2
    go_roundw
    case rel=>exact⟨_,k+1,rfl,by show _=_;have:=HK.out;omega,Za,Za,hJ3,HN3⟩
    case measure=>simp[intOf]
   ·gi_wp2
    refine ZpW (results_none rfl _ _ _) rfl ?_
    exact⟨⟨_,rfl⟩,.inr ⟨k,hkl,hJx3⟩⟩
  ·obtain rfl:i = -1:=Za
   have hkl:k=xs.length:=by have:=HK.out;omega
   have HKL:=ZqH hkl
   clear hkl
   gi_wp2
   go_end0
   exact⟨⟨_,rfl⟩,.inl (by rw[<- HKL.out];exact hJs)⟩
theorem Zij (F:Fence) (n:Nat) (hf:F.fn 103) (hro:F.round=none) (p:Option Addr) (len cap:Nat) (w:World) :
  CallsIn F n Tryz.prog 103 #[.slice p len cap] w fun e w'=>e=.returned (.func (.func 143) #[] #[.pointer (some ⟨w.heap.size,0,none⟩)])/\w'=w.alloc (.cells #[.slice p len cap] 105):=by
 refine callsIn_of_wp Tryz.func103 rfl hf ?_ hro
 simp only[Tryz.ntmps103,Nat.reduceAdd,Nat.reduceSub,ZqG]
 gi_wp2
 go_ret
 exact⟨rfl,rfl⟩
end Go.Proofs.YtjmckebecpjjfaaGreatDoor
namespace Go.Proofs.YtjmckebecpjjfaaGreatDoor
open Go.RowKit Go.Shelf
theorem bX:Builder.Extra Tryz.prog Tryz.lays169_ren:=Tryz.Builder_Extra_169
theorem Zif (b:Nat) (w:World) (h0:w.cell? ⟨b,0,none⟩=some (.pointer (some ⟨b,0,none⟩))) :
  Calls Tryz.prog 185 #[.pointer (some ⟨b,0,none⟩)] w fun e w'=>e=.returned (.tuple #[])/\w'=w:=by
 obtain⟨j,hj,_⟩:=Option.map_eq_some_iff.1 bX.sizeBuilder
 go_enter Tryz.func185,Tryz.ntmps185
 go_wp2
 rw[Lib.run_neq_ptr_same w _ Tryz.underlying218 hj]
 go_wp2
 go_end0
 exact⟨rfl,rfl⟩
theorem ZhC (b:Nat) (w:World) (h0:w.cell? ⟨b,0,none⟩=some (.pointer none)) (hsh:w.shape? b=some (221,2)) (hfz:w.frozen? ⟨b,0,none⟩=false) :
  Calls Tryz.prog 185 #[.pointer (some ⟨b,0,none⟩)] w fun e w'=>e=.returned (.tuple #[])/\w'=w.setCell ⟨b,0,none⟩ (.pointer (some ⟨b,0,none⟩)):=by
 obtain⟨j,hj,hjs⟩:=Option.map_eq_some_iff.1 bX.sizeBuilder
 go_enter Tryz.func185,Tryz.ntmps185
 go_wp2
 rw[Lib.run_to_unsafe w ⟨b,0,none⟩ Tryz.underlying218 Tryz.underlying286 hj (by rw[hjs];decide) hsh (Nat.zero_lt_succ 1)]
 simp only[Result.andThen]
 rw[Oper.upon_value]
 go_wp2
 rw[run_callFunc_extern Tryz.func205 Zb Zb Zb (e:=Extern.AbiNoEscape.same) Zb]
 rw[Lib.run_noEscape]
 simp only[Result.andThen]
 rw[Oper.upon_value]
 go_wp2
 rw[Lib.run_from_unsafe w ⟨b,0,none⟩ Tryz.underlying286 Tryz.underlying218 hj hsh bX.liesBuilder]
 simp only[Result.andThen]
 rw[Oper.upon_value]
 go_wp2
 go_end0
 exact⟨rfl,rfl⟩
def Bld (B b:Nat) (l:List UInt8) (w:World):Prop:=Lib.IsBuilderF 221 5 B b (Lib.byteCells l) w
theorem ZiV (B b:Nat) (bs:List Value) (w:World) (h:Lib.IsBuilderF 221 5 B b bs w) :
  Calls Tryz.prog 185 #[.pointer (some ⟨b,0,none⟩)] w fun e w'=>e=.returned (.tuple #[])/\
   (Lib.BuilderAtF 221 5 B b (.pointer (some ⟨b,0,none⟩)) bs w'/\Below B w w'/\Lib.OthersKept 5 (some b) w w'):=by
 rcases h with h | h
 ·refine(ZhC b w h.cell0 h.shape h.frozen0).mono ?_
  rintro e w' ⟨rfl,rfl⟩
  exact⟨rfl,h.used _,(ZpV B w).setCell (p:=⟨b,0,none⟩) h.1 _,(Lib.OthersKept.refl _ _ w).setCell ⟨b,0,none⟩ rfl _⟩
 ·refine(Zif b w h.cell0).mono ?_
  rintro e w' ⟨rfl,rfl⟩
  exact⟨rfl,h,ZpV B _,Lib.OthersKept.refl _ _ _⟩
theorem Zf1 (B b:Nat) (bs:List Value) (s:ByteArray) (w:World) (h:Lib.IsBuilderF 221 5 B b bs w) (hlen:bs.length+s.size<=140737488355328) (hBw:B<=w.heap.size) :
  Calls Tryz.prog 149 #[.pointer (some ⟨b,0,none⟩),.string s] w fun e w'=>e=.returned (.tuple #[.int .i64 s.size,.nilIface])/\
   (Lib.BuilderAtF 221 5 B b (.pointer (some ⟨b,0,none⟩)) (bs++Lib.strCells s) w'/\Below B w w'/\Lib.OthersKept 5 (some b) w w'):=by
 obtain⟨i0,hi,hz0,hz1,hz2⟩:=info_parts bX.infoByte
 go_enter Tryz.func149,Tryz.ntmps149
 go_wp2_with (go_at_call 185;refine(ZiV B b bs _ h).mono ?_)
 rintro e w1 ⟨rfl,h1,hb1,hk1⟩
 obtain⟨hB,v,hbk,hown,hne⟩:=h1
 have c0:w1.cell? ⟨b,0,none⟩=some (.pointer (some ⟨b,0,none⟩)):=by rw[Lib.cell_of_heap hbk];rfl
 have c1:w1.cell? ⟨b,1,none⟩=some v:=by rw[Lib.cell_of_heap hbk];rfl
 go_wp2_with (at_builtin;refine Lib.wpList_append_own_stringF _ rfl _ _ 219 9 rfl B 5 i0 Tryz.underlying219 Tryz.underlying9 hi hz0 hz1 hz2 _ _ _ rfl hown s rfl ?c3 ?c4 ?c5 ?_)
 case c3=>unfold maxLen;omega
 case c4=>omega
 case c5=>have:=hb1.size;omega
 intro v' w2 hown' hgrow _
 have hlt:b<w1.heap.size:=(ZqC hbk)
 have hb2:w2.heap[b]?=some (.cells #[.pointer (some ⟨b,0,none⟩),v] 221 (0,0)):=by
  rw[hgrow.block b hlt (fun e=>hne e.symm)]
  exact hbk
 have d0:w2.cell? ⟨b,0,none⟩=some (.pointer (some ⟨b,0,none⟩)):=by rw[Lib.cell_of_heap hb2];rfl
 have d1:w2.cell? ⟨b,1,none⟩=some v:=by rw[Lib.cell_of_heap hb2];rfl
 have f1:w2.frozen? ⟨b,1,none⟩=false:=Lib.frozen_of_heap hb2 1
 obtain⟨ao,n',cap,rfl⟩:∃ ao n' cap,v'=.slice ao n' cap:=by
  rcases hown'.2 with ⟨hv,_⟩ | ⟨g,cap,cur,fz,hv,_⟩
  ·exact⟨_,_,_,hv⟩
  ·exact⟨_,_,_,hv⟩
 go_wp2
 go_ret2
 refine⟨rfl,?_,?_,(hk1.grown hgrow (Lib.ownsRowF_kind hown)).setCell ⟨b,1,none⟩ rfl _⟩
 ·exact Lib.BuilderAtF.put (T:=221) (e:=5) hB hb2 (bs':=bs++Lib.strCells s) (by simpa[Lib.strCells_length] using hown') bX.neB5
 ·exact(hb1.grown hgrow (by have:=hb1.size;omega) (fun k hk=>(hown.lt k hk).1)).setCell (p:=⟨b,1,none⟩) hB _
end Go.Proofs.YtjmckebecpjjfaaGreatDoor
namespace Go.Proofs.YtjmckebecpjjfaaGreatDoor
open Go.RowKit Go.Shelf Go.Sort Go.Lib
theorem ZgY (i:Nat) (hi:i<100) (w:World) :
  Calls Tryz.prog 186 #[.int .u64 i,.int .i64 10] w fun e w'=>e=.returned (.string ⟨(Lib.decDigits i).toArray⟩)/\Below w.heap.size w w':=by
 go_enter Tryz.func186,Tryz.ntmps186
 go_wp2_with (go_at_call 206;refine(Tryz.internal_strconv_small i hi _).mono ?_;rintro e w' ⟨rfl,rfl⟩)
 go_ret
 exact⟨rfl,ZpV _ _⟩
theorem ZgZ (u:Nat) (hu:100<=u) (hu64:u<18446744073709551616) (w:World) (htab:Lib.TabIs Tryz.prog w "internal/strconv.uint64pow10" .u64 Lib.pow10Tab) :
  Calls Tryz.prog 186 #[.int .u64 u,.int .i64 10] w fun e w'=>e=.returned (.string ⟨(Lib.decDigits u).toArray⟩)/\Below w.heap.size w w':=by
 have hu1:1<=u:=Za
 have hnd20:Lib.nDigits u<=20:=by have:=Lib.numDigits_eq u hu1 hu64;split at this<;>omega
 have hal:Tryz.prog.arrayLen 288=24:=Zb
 have hel:Tryz.prog.elem 288=5:=Zb
 have hsl1:∀ W,(Instr.sliceAt 288 (.pointer (some ⟨w.heap.size,0,none⟩)) none (some (.int .i64 (Lib.nDigits u:Int))) none).run Tryz.prog W=.ok (.slice (some ⟨w.heap.size,0,none⟩) (Lib.nDigits u) 24) W:=fun W=>by
  rw[run_sliceAt_array_h W 288 ⟨w.heap.size,0,none⟩ (by simp[hal,hel]) .i64 (Lib.nDigits u:Int) Za (by rw[hal];omega)]
  go_simp
 have hH0:=Lib.holds_zero0 w 288 (Lib.nDigits u) Za
 have hfmt:=Tryz.internal_strconv_formatBase10 w.heap.size 0 24 u (Array.replicate (Lib.nDigits u) 0) (w.alloc (.cells Lib.zeros24 288)) hH0 (by rw[Array.size_replicate];exact Lib.lt_pow_nDigits u) hu64 (by rw[Array.size_replicate];omega)
 rw[Array.size_replicate] at hfmt
 have HH0:=ZqH hH0
 clear hH0 hal hel
 have hul:¬ (u:Int)<100:=Za
 go_enter Tryz.func186,Tryz.ntmps186
 go_wp2_with (first
  | (go_at_call 207;refine(Tryz.internal_strconv_numDigits u hu1 hu64 _ (Lib.tabIs_alloc htab _)).mono ?_;rintro e w' ⟨rfl,rfl⟩))
 refine hfmt.mono ?_
 rintro e w' ⟨rfl,k,v',dk,rfl,hF⟩
 have hcv:(convert 219 9 (.slice (some ⟨w.heap.size,0,none⟩) (Lib.nDigits u) 24)).run Tryz.prog ((putRow (fun(b:UInt8)=>Value.int .u8 (b.toNat:Int)) (w.alloc (.cells Lib.zeros24 288)) w.heap.size 0 dk).drewN k)=.ok (.string ⟨(Lib.decDigits u).toArray⟩) ((putRow (fun(b:UInt8)=>Value.int .u8 (b.toNat:Int)) (w.alloc (.cells Lib.zeros24 288)) w.heap.size 0 dk).drewN k):=by
  have h:=run_convert_bytes_back (P:=Tryz.prog) ((putRow (fun(b:UInt8)=>Value.int .u8 (b.toNat:Int)) (w.alloc (.cells Lib.zeros24 288)) w.heap.size 0 dk).drewN k) 219 9 5 ⟨w.heap.size,0,none⟩ 24 (Lib.decDigits u) Tryz.underlying219 Tryz.underlying5 Tryz.underlying9 (fun j hj=>by
   rw[Lib.row_is_numeral hF j hj,Lib.add_plain,World.cell?_drewN]
   exact cell?_putRow (fun(b:UInt8)=>Value.int .u8 (b.toNat:Int)) _ w.heap.size 0 _ dk HH0.out (by rw[hF.size,Array.size_replicate]) j (by rw[hF.size];rw[Lib.decDigits_length] at hj;exact hj))
  rw[Lib.decDigits_length] at h
  exact h
 go_wp2
 go_ret
 refine⟨rfl,?_⟩
 obtain⟨os,eo⟩:=Lib.fin_at w (.cells Lib.zeros24 288) dk k 0
 rw[eo]
 exact Lib.below_grow _ _ ZqI _ _
theorem Zei (u:Nat) (hu64:u<18446744073709551616) (w:World) (htab:Lib.TabIs Tryz.prog w "internal/strconv.uint64pow10" .u64 Lib.pow10Tab) :
  Calls Tryz.prog 150 #[.int .u64 u,.int .i64 10] w fun e w'=>e=.returned (.string ⟨(Lib.decDigits u).toArray⟩)/\Below w.heap.size w w':=by
 have h:Calls Tryz.prog 186 #[.int .u64 u,.int .i64 10] w fun e w'=>e=.returned (.string ⟨(Lib.decDigits u).toArray⟩)/\Below w.heap.size w w':=by
  rcases Zp1 u 100 with hu | hu
  ·exact ZgY u hu w
  ·exact ZgZ u hu hu64 w htab
 go_enter Tryz.func150,Tryz.ntmps150
 go_wp2_with (go_at_call 186;refine h.mono ?_;rintro e w' ⟨rfl,hb⟩)
 have HB:=ZqH hb
 clear hb h
 go_wp2
 go_ret
 exact⟨rfl,HB.out⟩
end Go.Proofs.YtjmckebecpjjfaaGreatDoor
namespace Go.Proofs.YtjmckebecpjjfaaGreatDoor
open Go.Lib
def dg1 (c:UInt8):Nat:=c.toNat-48
def ZT (c:UInt8):Bool:=decide (48<=c.toNat/\c.toNat<=57)
def Zr (s:List UInt8):Nat:=s.foldl (fun a c=>a*10+dg1 c) 0
theorem Zkm (s:List UInt8):∀ a,s.foldl (fun a c=>a*10+dg1 c) a=a*10 ^ s.length+Zr s:=by
 unfold Zr
 induction s with
 | nil=>intro a;simp
 | cons c s ih=>
  intro a
  rw[List.foldl_cons,ih,List.foldl_cons,ih (0*10+dg1 c),Zqv,Zqs]
  grind
theorem ZeT:Zr []=0:=rfl
theorem Zdn (s t:List UInt8):Zr (s++t)=Zr s*10 ^ t.length+Zr t:=by
 show List.foldl _ 0 (s++t)=_
 rw[List.foldl_append,Zkm]
 rfl
theorem ZeA (c:UInt8):Zr [c]=dg1 c:=by simp[Zr]
theorem Zf6 (s:List UInt8) (c:UInt8):Zr (s++[c])=Zr s*10+dg1 c:=by rw[Zdn,ZeA];simp
theorem Zea (c:UInt8) (s:List UInt8):Zr (c::s)=dg1 c*10 ^ s.length+Zr s:=by
 have:=Zdn [c] s
 rwa [ZeA] at this
theorem Znx {c:UInt8} (h:ZT c=true):dg1 c<10:=by
 unfold ZT at h;unfold dg1
 have:=of_decide_eq_true h
 omega
theorem ZdU {d:Nat} (h:d<10):dg1 (UInt8.ofNat (48+d))=d/\ZT (UInt8.ofNat (48+d))=true:=by
 have:(UInt8.ofNat (48+d)).toNat=48+d:=by rw[UInt8.toNat_ofNat'];omega
 unfold dg1 ZT
 rw[this]
 exact⟨Za,by simp;omega⟩
theorem Zfl {c:UInt8} (h:ZT c=true):UInt8.ofNat (48+dg1 c)=c:=by
 have h1:=of_decide_eq_true h
 apply UInt8.toNat_inj.1
 rw[UInt8.toNat_ofNat']
 unfold dg1
 have:=c.toNat_lt
 omega
theorem ZdR {s:List UInt8} (h:∀ c ∈ s,ZT c=true):Zr s<10 ^ s.length:=by
 induction s with
 | nil=>simp[Zr]
 | cons c s ih=>
  rw[Zea,Zqv,Zqs]
  have h1:=Znx (h c Zc)
  have h2:=ih fun x hx=>h x (by simp[hx])
  have h3:dg1 c*10 ^ s.length<=9*10 ^ s.length:=Zqn _ Za
  omega
theorem Zah {n:Nat} (h:n<10):decDigits n=[UInt8.ofNat (48+n)]:=by rw[decDigits,dif_pos h]
theorem ZaO {n:Nat} (h:10<=n):decDigits n=decDigits (n/10)++[UInt8.ofNat (48+n % 10)]:=by rw[decDigits,dif_neg Za]
theorem ZaC (n:Nat):Zr (decDigits n)=n:=by
 induction n using Nat.strongRecOn with
 | _ n ih=>
  rcases Zp1 n 10 with h | h
  ·rw[Zah h,ZeA];exact(ZdU h).1
  ·rw[ZaO h,Zf6,ih (n/10) Za,(ZdU (Nat.mod_lt n Za)).1];omega
theorem ZdI (n:Nat):∀ c ∈ decDigits n,ZT c=true:=by
 induction n using Nat.strongRecOn with
 | _ n ih=>
  intro c hc
  rcases Zp1 n 10 with h | h
  ·rw[Zah h] at hc;have hc:=List.mem_singleton.1 hc;subst hc;exact(ZdU h).2
  ·rw[ZaO h] at hc
   rcases List.mem_append.1 hc with hc | hc
   ·exact ih (n/10) Za c hc
   ·have hc:=List.mem_singleton.1 hc;subst hc;exact(ZdU (Nat.mod_lt n Za)).2
theorem ZdP (n:Nat):decDigits n≠[]:=by
 rcases Zp1 n 10 with h | h
 ·rw[Zah h];simp
 ·rw[ZaO h];simp
theorem Ze4 {n m:Nat} (h:decDigits n=decDigits m):n=m:=by
 have:=congrArg Zr h
 rwa [ZaC,ZaC] at this
theorem Zcm:decDigits 0=[48]:=by rw[Zah Za];rfl
theorem Zep:decDigits 1=[49]:=by rw[Zah Za];rfl
theorem ZgH {α:Type} {s t:List α} (h:s≠[]):(s++t).head?=s.head?:=by
 cases s with
 | nil=>exact Zqx rfl h
 | cons c s=>rfl
theorem ZhZ (n:Nat) (h:0<n):(decDigits n).head?≠some 48:=by
 induction n using Nat.strongRecOn with
 | _ n ih=>
  rcases Zp1 n 10 with h1 | h1
  ·rw[Zah h1]
   intro hc
   have hc:=ZpZ hc
   have:=congrArg UInt8.toNat hc
   rw[UInt8.toNat_ofNat'] at this
   have h48:(48:UInt8).toNat=48:=rfl
   omega
  ·rw[ZaO h1]
   have:=ih (n/10) Za Za
   rwa [ZgH (ZdP _)]
structure Canon (s:List UInt8):Prop where
 dig:∀ c ∈ s,ZT c=true
 ne:s≠[]
 head:1<s.length->s.head?≠some 48
theorem ZcN (n:Nat):Canon (decDigits n):=by
 refine⟨ZdI n,ZdP n,fun h=>?_⟩
 rcases Zqa n with h0 | h0
 ·subst h0;rw[Zcm] at h;simp at h
 ·exact ZhZ n h0
theorem Zl4 {s:List UInt8} (hd:∀ c ∈ s,ZT c=true) (hn:s≠[]) (hh:s.head?≠some 48):0<Zr s:=by
 rcases s with _ | ⟨c,s⟩
 ·exact Zqx rfl hn
 ·rw[Zea]
  have h1:ZT c=true:=hd c Zc
  have h2:dg1 c≠0:=by
   intro h0
   apply hh
   have:=Zfl h1
   rw[h0] at this
   rw[List.head?_cons,<- this]
   rfl
  have:0<dg1 c*10 ^ s.length:=Nat.mul_pos Za (Nat.pow_pos Za)
  omega
theorem Zmm {α:Type} (s:List α) (h:s≠[]):∃ t c,s=t++[c]:=⟨s.dropLast,s.getLast h,(List.dropLast_concat_getLast h).symm⟩
theorem ZgS {s:List UInt8} (hd:∀ c ∈ s,ZT c=true) (hn:s≠[]) (hh:1<s.length->s.head?≠some 48):decDigits (Zr s)=s:=by
 induction hlen:s.length generalizing s with
 | zero=>exact Zqx (Zp7 hlen) hn
 | succ k ih=>
  obtain⟨t,c,rfl⟩:=Zmm s hn
  have hc:ZT c=true:=hd c Zc
  have ht:∀ x ∈ t,ZT x=true:=fun x hx=>hd x (by simp[hx])
  have hcl:=Znx hc
  rw[Zf6]
  by_cases h0:t=[]
  ·subst h0
   rw[ZeT,Zah Za]
   simp only[Nat.zero_mul,Nat.zero_add,ZqA]
   rw[Zfl hc]
  ·have hlen2:1<(t++[c]).length:=by
    have:t.length≠0:=fun h=>h0 (Zp7 h)
    rw[Zqc,List.length_singleton];omega
   have hh2:t.head?≠some 48:=by
    have:=hh hlen2
    rwa [ZgH h0] at this
   have hp:=Zl4 ht h0 hh2
   rw[ZaO Za,show (Zr t*10+dg1 c)/10=Zr t by omega,show (Zr t*10+dg1 c) % 10=dg1 c by omega,
    ih ht h0 (fun _=>hh2) (by simpa using hlen),Zfl hc]
theorem Canon.text {s:List UInt8} (h:Canon s):decDigits (Zr s)=s:=ZgS h.dig h.ne h.head
theorem Canon.eq {s t:List UInt8} (hs:Canon s) (ht:Canon t) (h:Zr s=Zr t):s=t:=by
 rw[<- hs.text,<- ht.text,h]
theorem Zau {n k:Nat} (hk:0<k) (h:n<10 ^ k):(decDigits n).length<=k:=by
 induction k generalizing n with
 | zero=>omega
 | succ k ih=>
  rcases Zp1 n 10 with h1 | h1
  ·rw[Zah h1];simp
  ·rw[ZaO h1,Zqc,List.length_singleton]
   have hk0:0<k:=by
    rcases Zqa k with h0 | h0
    ·subst h0;simp at h;omega
    ·exact h0
   have:=ih (n:=n/10) hk0 (by rw[Nat.div_lt_iff_lt_mul Za];rwa [Zqs] at h)
   omega
theorem Ze8 (n:Nat):n<10 ^ (decDigits n).length:=by
 have:=ZdR (ZdI n)
 rwa [ZaC] at this
def fix:Nat->Nat->List UInt8
 | 0,_=>[]
 | k+1,n=>fix k (n/10)++[UInt8.ofNat (48+n % 10)]
theorem ZhQ (h k l:Nat) (hh:0<h) (hl:l<10 ^ k):decDigits (h*10 ^ k+l)=decDigits h++fix k l:=by
 induction k generalizing l with
 | zero=>
  have:l=0:=by simpa using hl
  subst this
  simp[fix]
 | succ k ih=>
  have hp:0<10 ^ k:=Nat.pow_pos Za
  have h1:h*10 ^ (k+1)=h*10 ^ k*10:=by rw[Zqs];grind
  have h2:1<=h*10 ^ k:=Nat.mul_pos hh hp
  rw[ZaO Za,fix,show (h*10 ^ (k+1)+l)/10=h*10 ^ k+l/10 by omega,show (h*10 ^ (k+1)+l) % 10=l % 10 by omega,
   ih (l/10) (by rw[Nat.div_lt_iff_lt_mul Za];rwa [Zqs] at hl),List.append_assoc]
theorem Zof (k:Nat):fix k 0=List.replicate k 48:=by
 induction k with
 | zero=>rfl
 | succ k ih=>rw[fix,Nat.zero_div,ih,List.replicate_succ'];rfl
theorem ZoT (k l:Nat) (hk:0<k) (hl:l<10 ^ k):fix k l=List.replicate (k-(decDigits l).length) 48++decDigits l:=by
 induction k generalizing l with
 | zero=>omega
 | succ k ih=>
  rw[fix]
  rcases Zp1 l 10 with h1 | h1
  ·rw[Nat.div_eq_of_lt h1,Nat.mod_eq_of_lt h1,Zof,Zah h1];simp
  ·have hk0:0<k:=by
    rcases Zqa k with h0 | h0
    ·subst h0;simp at hl;omega
    ·exact h0
   rw[ih (l/10) hk0 (by rw[Nat.div_lt_iff_lt_mul Za];rwa [Zqs] at hl),ZaO h1,Zqc,List.append_assoc]
   simp only[List.length_singleton]
   congr 2
   omega
theorem Zdq (M:Nat) (hM:M<=18446744073709551615):∀ (s:List UInt8) (a:Nat),(∀ c ∈ s,ZT c=true)->a*10 ^ s.length+Zr s<=M->parseUintM M a s=.ok (a*10 ^ s.length+Zr s)
 | [],a,_,_=>by simp[parseUintM,Zr]
 | c::r,a,hd,hle=>by
  have hc:ZT c=true:=hd c Zc
  have hc1:=of_decide_eq_true hc
  have hp:0<10 ^ r.length:=Nat.pow_pos Za
  have he:a*10 ^ (c::r).length+Zr (c::r)=(a*10+dg1 c)*10 ^ r.length+Zr r:=by
   rw[Zea,Zqv,Zqs];grind
  rw[he] at hle ⊢
  have h1:(a*10+dg1 c)*1<=(a*10+dg1 c)*10 ^ r.length:=Nat.mul_le_mul_left _ hp
  have h2:a*10+dg1 c<=M:=Za
  have h3:dg1 c=c.toNat-48:=rfl
  rw[parseUintM,if_pos hc1,if_neg Za,if_neg Za]
  exact Zdq M hM r _ (fun x hx=>hd x (by simp[hx])) hle
theorem ZfC {s:List UInt8} (hd:∀ c ∈ s,ZT c=true) (hn:s≠[]) (hl:s.length<=19):parseUintB 64 s=.ok (Zr s):=by
 rw[parseUintB,if_neg hn]
 have h1:=ZdR hd
 have h2:10 ^ s.length<=10 ^ 19:=Zp6 Za hl
 have:=Zdq (2 ^ 64-1) Za s 0 hd Za
 simpa using this
end Go.Proofs.YtjmckebecpjjfaaGreatDoor
namespace Go.Proofs.YtjmckebecpjjfaaGreatDoor
open Go.Lib
theorem ZJ (s:ByteArray):s.data.toList.length=s.size:=rfl
def ZfP (l:List UInt8):Bool:=decide (l≠[]) && l.all ZT
def Zen (l:List UInt8):Bool:=ZfP l && decide (1<l.length->l.head?≠some 48)
def Z7 (l:List UInt8):Bool:=Zen l && decide (l.length<=600)
theorem Zie {l:List UInt8} (h:Zen l=true):Canon l:=by
 unfold Zen ZfP at h
 simp only[Zqt,Zqu,Zqw] at h
 exact⟨h.1.2,h.1.1,h.2⟩
theorem Zaj {l:List UInt8} (h:Z7 l=true):Canon l/\l.length<=600:=by
 unfold Z7 at h
 simp only[Zqt,Zqu] at h
 exact⟨Zie h.1,h.2⟩
theorem Zda {l:List UInt8} (h:Canon l) (hl:l.length<=600):Z7 l=true:=by
 unfold Z7 Zen ZfP
 simp only[Zqt,Zqu,Zqw]
 exact⟨⟨⟨h.ne,h.dig⟩,h.head⟩,hl⟩
end Go.Proofs.YtjmckebecpjjfaaGreatDoor
namespace Go.Proofs.YtjmckebecpjjfaaGreatDoor
open Go.RowKit Go.Shelf
attribute [local go_sem] Oper.semAt_some
theorem Zjs (t:ByteArray) (a:Nat):(t.extract a t.size).data.toList=t.data.toList.drop a:=by
 rw[ByteArray.data_extract,Array.toList_extract,List.extract_eq_take_drop]
 exact Zp5 (by rw[List.length_drop,ZJ];exact Nat.le_refl _)
theorem Zjp (t:ByteArray) (a:Nat):(t.extract 0 a).data.toList=t.data.toList.take a:=by
 rw[ByteArray.data_extract,Array.toList_extract,List.extract_eq_take_drop]
 simp
theorem _root_.Go.RowKit.Below.keepsAll {w w':World} (h:Below w.heap.size w w') (S:Nat->Prop):Keeps S w w':=⟨h.os,h.tape,h.output,h.size,fun k hk _=>h.block k hk⟩
def ZaP (l:List UInt8) (k:Nat):List UInt8:=l.take (l.length-9*k)
def gval (l:List UInt8) (k:Nat):Nat:=Zr ((ZaP l k).drop (l.length-9*k-9))
def Zbh (l:List UInt8):Nat:=(l.length+8)/9
theorem Zbj (l:List UInt8) (k:Nat):(ZaP l k).length=l.length-9*k:=by unfold ZaP;rw[Zqz];omega
theorem Zht (l:List UInt8):ZaP l 0=l:=by unfold ZaP;exact Zp5 Za
theorem Zg4 (l:List UInt8) (k:Nat):ZaP l (k+1)=(ZaP l k).take (l.length-9*k-9):=by
 unfold ZaP
 rw[List.take_take]
 congr 1
 omega
theorem Zo3 {l:List UInt8} (h:∀ c ∈ l,ZT c=true) (k:Nat):gval l k<1000000000:=by
 have h1:=ZdR (s:=(ZaP l k).drop (l.length-9*k-9)) fun c hc=>h c (List.mem_of_mem_take (List.mem_of_mem_drop hc))
 have h2:((ZaP l k).drop (l.length-9*k-9)).length<=9:=by rw[List.length_drop,Zbj];omega
 have h3:10 ^ ((ZaP l k).drop (l.length-9*k-9)).length<=10 ^ 9:=Zp6 Za h2
 unfold gval
 omega
theorem Zm0 (l:List UInt8) (k:Nat):Zr (ZaP l k)=gval l k+1000000000*Zr (ZaP l (k+1)):=by
 have h1:=Zdn ((ZaP l k).take (l.length-9*k-9)) ((ZaP l k).drop (l.length-9*k-9))
 rw[List.take_append_drop,<- Zg4] at h1
 rw[h1]
 unfold gval
 rcases Zp1 (l.length-9*k) 9 with h2 | h2
 ·have h3:ZaP l (k+1)=[]:=Zp7 (by rw[Zbj];omega)
  rw[h3,ZeT];omega
 ·have h3:((ZaP l k).drop (l.length-9*k-9)).length=9:=by rw[List.length_drop,Zbj];omega
  rw[h3];omega
theorem ZlQ (l:List UInt8) (k:Nat):val 1000000000 ((List.range k).map (gval l))+1000000000 ^ k*Zr (ZaP l k)=Zr l:=by
 induction k with
 | zero=>simp[val,Zht]
 | succ k ih=>
  rw[List.range_succ,List.map_append,List.map_cons,List.map_nil,Zc5,Zqs]
  simp only[List.length_map,List.length_range]
  rw[Zm0] at ih
  grind
theorem Zic (l:List UInt8):val 1000000000 ((List.range (Zbh l)).map (gval l))=Zr l:=by
 have h:=ZlQ l (Zbh l)
 have h2:ZaP l (Zbh l)=[]:=Zp7 (by rw[Zbj];unfold Zbh;omega)
 rw[h2,ZeT] at h
 simpa using h
theorem ZkC (Bs:Nat) (S:Nat->Prop) (s:ByteArray) (hl:s.size<=1000000) (hd:∀ c ∈ s.data.toList,ZT c=true) (w0:World) (hS:S Bs)
  (hBs:w0.cell? ⟨Bs,0,none⟩=some (.string s)) (hF:w0.frozen? ⟨Bs,0,none⟩=false) :
  Iter Tryz.prog 179 #[.pointer (some ⟨Bs,0,none⟩)] (fun k=>#[.int .u64 (gval s.data.toList k:Nat)]) (Zbh s.data.toList) S (fun b=>b≠Bs) w0:=by
 intro n l J Jx W hK hJ hJx hY h0
 have hB1:W.cell? ⟨Bs,0,none⟩=some (.string s):=hK.cellAt hBs hS
 have hF1:W.frozen? ⟨Bs,0,none⟩=false:=by rw[hK.frozen (Zqf _ _ hBs) hS];exact hF
 have HY:=ZqH hY
 have HJ:=ZqH hJ
 clear hY hBs hF hJ
 refine callsIn_of_wp Tryz.func179 rfl trivial ?_ rfl
 simp only[Tryz.ntmps179,Nat.reduceAdd,Nat.reduceSub,ZqG]
 gi_wp2
 gi_loopw [] (fun wr=>∃ (k:Nat) (t:ByteArray),k<=Zbh s.data.toList/\wr.cell? ⟨Bs,0,none⟩=some (.string t)/\wr.frozen? ⟨Bs,0,none⟩=false/\Hid (t.data.toList=ZaP s.data.toList k)/\J k wr)
  (fun wr=>match wr.cell? ⟨Bs,0,none⟩ with | some (.string t)=>t.size | _=>0)
 case atStart=>exact⟨0,s,Zp8 _,hB1,hF1,(Zht _).symm,h0⟩
 case round=>
  obtain⟨k,t,hk,hc,hf,HT,hJk⟩:=hrel
  obtain⟨r,hr⟩:=ZqJ t.size
  have HTS:Hid (r=s.size-9*k):=by show _=_;rw[<- hr,<- ZJ,HT.out,Zbj,ZJ]
  by_cases h0:r=0
  ·have hb:¬ (0:Int)<t.size:=Za
   have hkN:k=Zbh s.data.toList:=by have:=HTS.out;unfold Zbh at *;rw[ZJ] at *;omega
   clear h0
   gi_wp2
   go_end0
   exact⟨⟨_,rfl⟩,.inl (by rw[<- hkN];exact hJk)⟩
  ·have hkN:k<Zbh s.data.toList:=by have:=HTS.out;unfold Zbh at *;rw[ZJ] at *;omega
   have hrl:r<=1000000:=by have:=HTS.out;omega
   obtain⟨a,ha⟩:=ZqJ (r-9)
   have hm:max 0 ((r:Int)-9)=(a:Nat):=Za
   have har:a<=r:=Za
   have HA:Hid (a=s.size-9*k-9):=by have:=HTS.out;show _=_;omega
   have HA9:Hid (r-a<=9/\0<r-a):=by refine⟨?_,?_⟩<;>omega
   have hG:(t.extract a r).data.toList=(ZaP s.data.toList k).drop (s.size-9*k-9):=by
    rw[<- HA.out,<- HT.out,<- hr]
    exact Zjs t a
   have hL:(t.extract a r).size=r-a:=by
    rw[<- ZJ,hG,List.length_drop,Zbj,ZJ]
    have:=HTS.out;have:=HA.out;omega
   have hP:Lib.parseUintB 64 (t.extract a r).data.toList=.ok (gval s.data.toList k):=by
    rw[ZfC]
    ·rw[hG];rfl
    ·intro c hc;rw[hG] at hc;exact hd c (List.mem_of_mem_take (List.mem_of_mem_drop hc))
    ·intro hc
     have h1:=congrArg List.length hc
     rw[ZJ,hL] at h1
     have:=HA9.out.2
     simp at h1;omega
    ·rw[ZJ,hL];have:=HA9.out.1;omega
   have hu:=Tryz.strconv_ParseUint_10_at64_ok (t.extract a r) (by rw[hL];omega) _ hP wr
   have HG2:Hid ((t.extract 0 a).data.toList=ZaP s.data.toList (k+1)):=by
    show _=_
    rw[Zg4,ZJ,<- HA.out,<- HT.out]
    exact Zjp t a
   clear hP hG ha
   gi_wp2
   refine⟨trivial,(fun h=>by cases h),Zqp.2 (hu.mono ?_)⟩
   rintro e w2 ⟨rfl,hw2⟩
   have hk2:∀ S':Nat->Prop,Keeps S' wr w2:=fun S'=>by
    rcases hw2 with rfl | rfl
    ·exact Keeps.refl _ _
    ·exact(Joins.below_bytesWorld wr.heap.size wr 5 (t.extract a r) ZqI).keepsAll S'
   have hJ2:J k w2:=HJ.out _ _ _ hJk (hk2 _)
   have hc2:w2.cell? ⟨Bs,0,none⟩=some (.string t):=(hk2 (fun _=>True)).cellAt hc trivial
   have hf2:w2.frozen? ⟨Bs,0,none⟩=false:=by rw[(hk2 (fun _=>True)).frozen (Zqf _ _ hc) trivial];exact hf
   obtain⟨fn,tmps,assign,body,hy,hR⟩:=HY.out k w2 hkN hJ2
   obtain⟨g,hg⟩:=ZqJ (gval s.data.toList k)
   rw[hg] at hy ⊢
   have HC:=ZqH hc
   clear hu hw2 hk2 hJ2 hJk hc hf hg
   gi_wp2
   refine⟨(fun h=>by cases h),hR.mono ?_⟩
   rintro e W3 (⟨rfl,hJ3,hk3⟩ | ⟨rfl,hJx3⟩)
   ·have hc3:W3.cell? ⟨Bs,0,none⟩=some (.string t):=hk3.cellAt hc2 hS
    have hf3:W3.frozen? ⟨Bs,0,none⟩=false:=by rw[hk3.frozen (Zqf _ _ hc2) hS];exact hf2
    clear hc2 hf2 hk3 hy hR
    gi_wp2
    go_roundw
    case rel=>
     refine⟨k+1,t.extract 0 a,hkN,?_,?_,HG2,?_⟩
     ·exact World.cell?_setCell_same' _ _ _ (by rw[hc3];rfl)
     ·rw[World.frozen?_setCell];exact hf3
     ·exact HJ.out _ _ _ hJ3 ((Keeps.refl _ _).setCell (p:=⟨Bs,0,none⟩) (fun h=>h rfl) _)
    case measure=>
     rw[World.cell?_setCell_same' _ _ _ (by rw[hc3];rfl),HC.out]
     show (t.extract 0 a).size<t.size
     rw[<- ZJ,HG2.out,Zbj,ZJ,hr]
     have:=HTS.out
     omega
   ·gi_wp2
    refine ZpW (results_none rfl _ _ _) rfl ?_
    exact⟨⟨_,rfl⟩,.inr ⟨k,hkN,hJx3⟩⟩
end Go.Proofs.YtjmckebecpjjfaaGreatDoor
namespace Go.Proofs.YtjmckebecpjjfaaGreatDoor
open Go.RowKit
theorem ZoN {F:Fence} {n:Nat} {P:Program} (w:World) {ops:Array Oper} {rest:List Oper} {o:Oper} {a:Act} {Q:Exit->Act->World->Prop}
  (hg:o.guard=none) (l c:Operand) (t:TypeId) (hop:o.op=Op.makeSlice t l c)
  (base:Nat) (e:TypeId) (i:TypeInfo) (z:Value) (size:Nat) (h1:P.underlying t=some (.slice e)) (h2:P.info? e=some i) (h3:i.zero=some z) (h4:i.size=size)
  (kl kc:IntKind) (L C:Int) (m:Nat) (hl:a.eval l=.int kl L) (hc:a.eval c=.int kc C) (hL:L=(m:Int)) (hC:C=(m:Int)) (b2:i.bytes*m<=281474976710656) (b3:m<=maxLen) (b4:base<=w.heap.size)
  (hK:∀ w',Hid (w'.heap.size=w.heap.size+1)->w'.ownsRow base e size (.slice (some ⟨w.heap.size,0,none⟩) m m) m (madeCells z.cells (m*size)).toList->w.grownBy w' none->
   wpListIn F n P ops Q rest (a.put o.dst (.slice (some ⟨w.heap.size,0,none⟩) m m)) w') :
  wpListIn F n P ops Q (o::rest) a w:=by
 refine wpListIn_plain hg fun K hK'=>?_
 subst h4
 have hm63:(m:Int)<=9223372036854775807:=by simp[maxLen] at b3;omega
 have hb':(i.bytes:Int)*(m:Int)<=281474976710656:=by
  have h:((i.bytes*m:Nat):Int)<=281474976710656:=Za
  rwa [Int.natCast_mul] at h
 have hrun:=run_make (P:=P) w t e i z h1 h2 h3 kl kc m m Za (Int.le_refl _) hb' hm63
 simp only[Int.toNat_natCast] at hrun
 subst hL
 subst hC
 unfold Oper.wpIn
 refine⟨by simp[Oper.about,hop],?_⟩
 rw[Oper.semAt_plain F _ _ (by rw[hop];intro c hc';cases hc')]
 simp[execOp,hop,hl,hc,hrun,Result.andThen]
 exact hK' _ _ (hK _ (by show _=_;simp) (World.ownsRow_lit w _ m b4 b3 (size_madeCells _ _)) (World.grownBy_alloc w _ none))
theorem Zkh {P:Program} {row:String} {args:Array Value} {w:World} {R:Value->World->Prop} {n l:Nat} (h:Rows P row args w R):RowsIn (Fence.wide.inRound l) n P row args w R:=
 fun c cs _=>let ⟨v,w',r,s⟩:=h c cs;⟨v,w',r,stepsIn_wide.2 s⟩
theorem Zma {P:Program} {n l:Nat} {o:Oper} {a:Act} {w:World} {K:Act->World->Prop} {Q:Exit->Act->World->Prop} (hd:∀ c,o.op≠.defer c) (h:o.wp P a w K Q) :
  o.wpIn (Fence.wide.inRound l) n P a w K Q:=by
 refine⟨fun _ _=>trivial,?_⟩
 rw[Oper.semAt_eq _ _ _ hd]
 unfold Oper.wp at h
 generalize (execOp a.eval o).run P w=r at *
 cases r with
 | ok x w'=>
  cases x with
  | enter f args=>exact⟨(fun h=>by cases h),(Zqp.2 h).inRound l⟩
  | row row args=>exact⟨(fun h=>by cases h),Zkh h⟩
  | value v=>exact h
  | skip=>exact h
  | defer d=>exact h
  | _=>exact h.elim
 | halt x w'=>
  cases x with
  | panic v=>exact h
  | _=>exact h.elim
def ZdB (ops:Array Oper):Bool:=ops.all fun o=>match o.op with | .defer _=>false | _=>true
theorem Zjk {ops:Array Oper} (h:ZdB ops=true) {i:Nat} {o:Oper} (ho:ops[i]?=some o):∀ c,o.op≠.defer c:=by
 intro c hc
 unfold ZdB at h
 rw[Array.all_eq_true] at h
 obtain⟨hi,he⟩:=ZpU.1 ho
 have:=h i hi
 rw[he,hc] at this
 cases this
theorem ZbM {P:Program} {n l:Nat} {md:Region.Mode} {ops:Array Oper} {Q:Exit->Act->World->Prop} (hd:ZdB ops=true) (hout:∀ a w,¬ Q .outgrown a w) :
  ∀ (fuel:Nat) (listed:Array Bool) (a:Act) (w:World),wpAny P md ops Q fuel listed a w->wpAnyIn (Fence.wide.inRound l) n P md ops Q fuel listed a w
 | 0,_,_,_,h=>h
 | fuel+1,listed,a,w,h=>by
  refine⟨h.1,fun i hi=>?_⟩
  have h1:=h.2 i hi
  unfold wpOp at h1
  unfold wpOpIn
  cases ho:ops[i]? with
  | none=>simp only[ho] at h1 ⊢;exact ZbM hd hout fuel _ _ _ h1
  | some o=>
   simp only[ho] at h1 ⊢
   split
   ·rename_i hw
    rw[if_pos hw] at h1
    rcases h1 with h1 | ⟨_,a',w',hq⟩
    ·exact Oper.wpIn_mono (fun a' w' h2=>ZbM hd hout fuel _ _ _ h2) (Zma (Zjk hd ho) h1)
    ·exact Zqx hq (hout a' w')
   ·rename_i hw
    rw[if_neg hw] at h1
    exact⟨fun _ _=>trivial,ZbM hd hout fuel _ _ _ h1⟩
end Go.Proofs.YtjmckebecpjjfaaGreatDoor
