/- The parts Times, Compare, Greater, Knuth, Take. -/
import Derived.Test.YtmpaflidennnoaaGreatDoorH02
import Derived.Test.YtmpaflidennnoaaGreatDoorH00
import Derived.Laws.Externs
set_option maxRecDepth 100000
set_option maxHeartbeats 4000000
set_option linter.unusedVariables false
set_option linter.unusedSimpArgs false
namespace Go.Proofs.YtmpaflidennnoaaGreatDoor
open Go.RowKit
theorem ZeW {v1 v2:Value} {n m:Nat} {w:World} (h1:Num w v1 n) (h2:Num w v2 m) (hl1:(Zp 1000000000 n).length<=1000000) (hl2:(Zp 1000000000 m).length<=1000000) :
  Calls Tryz.prog 68 #[v1,v2] w fun e w'=>∃ v,e=.returned v/\Zc4 w.heap.size w' v (n*m)/\Below w.heap.size w w':=by
 obtain⟨p1,c1,rfl,_,_,hp1⟩:=h1
 obtain⟨p2,c2,rfl,_,_,hp2⟩:=h2
 obtain⟨xs,hxs⟩:=Zpg (Zp 1000000000 n)
 obtain⟨ys,hys⟩:=Zpg (Zp 1000000000 m)
 rw[hxs] at hl1 hp1 ⊢
 rw[hys] at hl2 hp2 ⊢
 have HX:Hid (∀ x ∈ xs,x<1000000000):=by rw[<- hxs];exact ZI Za n
 have HY:Hid (∀ x ∈ ys,x<1000000000):=by rw[<- hys];exact ZI Za m
 have HV:Hid (val 1000000000 xs=n/\val 1000000000 ys=m):=by rw[<- hxs,<- hys];exact⟨ZA Za n,ZA Za m⟩
 have HP1:=Zpe hp1
 have HP2:=Zpe hp2
 clear hxs hys hp1 hp2
 obtain⟨i0,hi,hz0,hz1,hz2⟩:=info_parts Zco
 go_enter Tryz.func68,Tryz.ntmps68
 go_wp2_with (at_make;refine wpList_make_full _ rfl _ _ 110 rfl w.heap.size 158 i0 (.int .u64 0) 1 Tryz.underlying110 hi hz0 hz1 _ _ _ _ (xs.length+ys.length) rfl rfl Za Za ?b2 ?b3 Zpf ?_)
 case b2=>rw[hz2];omega
 case b3=>unfold maxLen;omega
 intro w0 hown0 hgrow0
 have HB0:=Zpe ((Zoq w.heap.size w).grown hgrow0 Zpf (fun k h=>by cases h))
 have HR0:=Zpe (Row.full (k:=.u64) hown0)
 clear hgrow0 hown0
 go_wp2
 go_loopw [19] (fun i wr=>∃ (k:Nat) (o:List Nat),k<=xs.length/\i=.int .i64 k/\Hid (Row .u64 158 wr w.heap.size w.heap.size (xs.length+ys.length) o)/\
   Hid (RowsInv 1000000000 (xs.length+ys.length) xs ys k o)/\Zo8 w wr) (fun i _=>xs.length-(intOf i).toNat)
 case atStart=>exact⟨0,_,ZoD _,rfl,HR0,RowsInv.start Za _ _ _,HB0⟩
 case round=>
  obtain⟨i,o,hk,rfl,HR,HI,HB⟩:=hrel
  by_cases hlt:i<xs.length
  ·obtain⟨b1,off1,rfl,hb1,ha1⟩:=HP1.out (Zoy Za)
   obtain⟨x,hx⟩:=Zpg (xs.getD i 0)
   have hxl:x<1000000000:=by rw[<- hx];exact ZM Za HX.out i
   have cx:wr.cell? ⟨b1,off1+i,none⟩=some (.int .u64 (x:Nat)):=(HB.out.cell (p:=⟨b1,off1+i,none⟩) hb1).trans (ha1.getD hlt hx)
   have Hx:=Zpe hx
   have HT:=Zpe (HI.out.inner Za x)
   clear hx ha1 HI
   go_wp2
   obtain⟨wo,hwo⟩:∃ wo:World,wo=wr:=⟨_,rfl⟩
   go_loopw [8,26] (fun c kk wr=>∃ (k:Nat) (o:List Nat) (cr:Nat),k<=ys.length/\kk=.int .i64 k/\c=.int .u64 cr/\Hid (Row .u64 158 wr w.heap.size w.heap.size (xs.length+ys.length) o)/\
     Hid (TimesInv 1000000000 (xs.length+ys.length) i (val 1000000000 (xs.take i)*val 1000000000 ys) x ys k o cr)/\Zo8 w wr) (fun _ kk _=>ys.length-(intOf kk).toNat)
   case atStart=>exact⟨0,_,0,ZoD _,rfl,rfl,HR,HT,HB⟩
   case round=>
    clear HT HR HB cx hwo
    obtain⟨k,o,cr,hk2,rfl,rfl,HR,HT,HB⟩:=hrel
    have hcr:=HT.out.carry
    by_cases hlt2:k<ys.length
    ·obtain⟨b2,off2,rfl,hb2,ha2⟩:=HP2.out (Zoy Za)
     obtain⟨y,hy⟩:=Zpg (ys.getD k 0)
     have hyl:y<1000000000:=by rw[<- hy];exact ZM Za HY.out k
     have cy:wr.cell? ⟨b2,off2+k,none⟩=some (.int .u64 (y:Nat)):=(HB.out.cell (p:=⟨b2,off2+k,none⟩) hb2).trans (ha2.getD hlt2 hy)
     obtain⟨z,hz⟩:=Zpg (o.getD (i+k) 0)
     have hzl:z<1000000000:=by rw[<- hz];exact ZM Za HT.out.lt _
     have hlen:=HT.out.len
     have cz:wr.cell? ⟨w.heap.size,i+k,none⟩=some (.int .u64 (z:Nat)):=HR.out.cell Za hz
     have fz:wr.frozen? ⟨w.heap.size,i+k,none⟩=false:=HR.out.frozen _
     have Hlen:=Zpe hlen
     have Hy:=Zpe hy
     have Hz:=Zpe hz
     have hmul:x*y<=999999999*999999999:=Nat.mul_le_mul Za Za
     have hmul':((x*y:Nat):Int)=(x:Int)*y:=Zc
     have hm0:0<=(x:Int)*y:=Za
     have hm1:(x:Int)*y<=999999998000000001:=Za
     have e3:((cr+z+x*y:Nat):Int)=(cr:Int)+(z+x*y):=by simp;omega
     have E1:Hid (((cr:Int)+(z+x*y)) % 1000000000=((cr+z+x*y) % 1000000000:Nat)):=by show _=_;omega
     have E2:Hid (((cr:Int)+(z+x*y))/1000000000=((cr+z+x*y)/1000000000:Nat)):=by show _=_;omega
     have HS:=Zpe (HT.out.step Za HY.out hxl hlt2 Za (show cr+z+x*y=cr+o.getD (i+k) 0+x*ys.getD k 0 by rw[Hy.out,Hz.out]))
     clear hy hz hlen ha2 hmul hmul' e3
     go_wp2
     go_roundw
     case rel=>exact⟨k+1,_,_,Za,by go_num,by rw[E2.out],by rw[E1.out];exact HR.out.set _ _,HS,HB.out.setCell Zpf _⟩
     case measure=>exact Zj
    ·obtain rfl:k=ys.length:=Za
     have hlen:=HT.out.len
     have hz:o.getD (i+ys.length) 0=0:=HT.out.zero _ Zpf
     have cz:wr.cell? ⟨w.heap.size,i+ys.length,none⟩=some (.int .u64 (0:Nat)):=HR.out.cell Za hz
     have fz:wr.frozen? ⟨w.heap.size,i+ys.length,none⟩=false:=HR.out.frozen _
     have HS:=Zpe (HT.out |> RowsInv.step (x:=x) (n:=xs) Za Hx.out.symm)
     have Hlen:=Zpe hlen
     clear hz hlen
     go_wp2
     go_roundw
     case rel=>exact⟨i+1,_,Za,by go_num,HR.out.set _ _,HS,HB.out.setCell Zpf _⟩
     case measure=>exact Zj
  ·obtain rfl:i=xs.length:=Za
   have HL:Hid (∀ z ∈ o,z<1000000000):=HI.out.lt
   have HD:Hid (val 1000000000 o=n*m):=by show _=_;rw[HI.out.done,HV.out.1,HV.out.2]
   go_wp2_with fail
   refine(Zcr HR.out HL.out _ HI.out.len.symm _ HD.out).mono ?_
   rintro e w' ⟨rfl,rfl,hr2⟩
   have HR2:=Zpe hr2
   clear hr2
   go_wp2
   go_ret
   exact⟨_,rfl,⟨_,_,rfl,HR2.out⟩,HB.out⟩
end Go.Proofs.YtmpaflidennnoaaGreatDoor
namespace Go.Proofs.YtmpaflidennnoaaGreatDoor
open Go.RowKit Go.Shelf
attribute [local go_sem] Oper.semAt_some
def Sign (n m:Nat) (r:Int):Prop:=(r<0<->n<m)/\(r=0<->n=m)/\-1000000<=r/\r<=1000000
def ZjZ (w:World) (n m:Nat) (e:Ending) (w':World):Prop:=∃ r:Int,e=.returned (.int .i64 r)/\Sign n m r/\Below w.heap.size w w'
def Zfv (xs ys:List Nat) (k:Nat):Prop:=∀ j,xs.length-k<=j->j<xs.length->lim xs j=lim ys j
theorem Zdv {xs:List Nat} {i:Nat} (h:i<xs.length):lim xs i=xs[i]:=by simp[lim,List.getD,h]
theorem ZjA {xs ys:List Nat} (hlen:ys.length=xs.length) (h:Zfv xs ys xs.length):xs=ys:=by
 refine List.ext_getElem hlen.symm fun j h1 h2=>?_
 have:=h j Za h1
 rwa [Zdv h1,Zdv h2] at this
theorem Zjv {xs ys:List Nat} (hlen:ys.length=xs.length) (hx:∀ x ∈ xs,x<1000000000) (hy:∀ x ∈ ys,x<1000000000) {k:Nat} (hk:k<xs.length) (h:Zfv xs ys k)
  {r:Int} (hs:Sign (lim xs (bk xs.length k)) (lim ys (bk xs.length k)) r) (hr:r≠0):Sign (val 1000000000 xs) (val 1000000000 ys) r:=by
 obtain⟨i,hi⟩:=Zpg (bk xs.length k)
 have hil:i<xs.length:=by unfold bk at hi;omega
 have hdrop:xs.drop (i+1)=ys.drop (i+1):=by
  refine List.ext_getElem (by simp[hlen]) fun j h1 h2=>?_
  have h3:i+1+j<xs.length:=by simp at h1;omega
  have:=h (i+1+j) (by unfold bk at hi;omega) h3
  rw[Zdv h3,Zdv Za] at this
  simpa using this
 rw[hi,Zdv hil,Zdv Za] at hs
 obtain⟨s1,s2,s3,s4⟩:=hs
 have hne:xs[i]≠ys[i]'Za:=fun e=>hr (s2.2 e)
 rcases Nat.lt_or_gt_of_ne hne with h1 | h1
 ·have:=Zcl (B:=1000000000) hx hil hlen.symm hdrop h1
  have h2:=s1.2 h1
  exact⟨⟨fun _=>this,fun _=>h2⟩,⟨fun e=>Za,fun e=>Za⟩,s3,s4⟩
 ·have:=Zcl (B:=1000000000) hy Za hlen hdrop.symm h1
  have h2:¬ r<0:=fun h=>by have:=s1.1 h;omega
  exact⟨⟨fun e=>Zo4 e h2,fun e=>Za⟩,⟨fun e=>Zo4 e hr,fun e=>Za⟩,s3,s4⟩
theorem Zji (p1 p2:Option Addr) (c1 c2:Nat) (l1 l2:Nat) (h1:l1<=1000000) (h2:l2<=1000000) (hne:l1≠l2) (w:World) :
  Calls Tryz.prog 69 #[.slice p1 l1 c1,.slice p2 l2 c2] w fun e w'=>e=.returned (.int .i64 ((l1:Int)-l2))/\Below w.heap.size w w':=by
 have hb:((l1:Int) !=l2)=true:=by rw[bne_iff_ne];omega
 clear hne
 go_enter Tryz.func69,Tryz.ntmps69
 go_wp2
 refine Zor (v:=.int .i64 ((l1:Int)-l2)) ?_ rfl ⟨rfl,?_⟩
 ·simp[results,Tryz.f69,go_sem]
 exact((Zoq _ _).alloc Zpf _).alloc Zc _
theorem Zi7 (p1 p2:Option Addr) (c1 c2:Nat) (xs ys:List Nat) (hl:xs.length<=1000000) (hlen:ys.length=xs.length) (w:World)
  (hp1:xs≠[]->∃ b off,p1=some ⟨b,off,none⟩/\b<w.heap.size/\At .u64 w b off xs) (hp2:ys≠[]->∃ b off,p2=some ⟨b,off,none⟩/\b<w.heap.size/\At .u64 w b off ys)
  (hx:∀ x ∈ xs,x<1000000000) (hy:∀ x ∈ ys,x<1000000000) :
  Calls Tryz.prog 69 #[.slice p1 xs.length c1,.slice p2 xs.length c2] w (ZjZ w (val 1000000000 xs) (val 1000000000 ys)):=by
 have HL:=Zpe hlen
 have HP1:=Zpe hp1
 have HP2:=Zpe hp2
 have HX:=Zpe hx
 have HY:=Zpe hy
 clear hlen hp1 hp2 hx hy
 have hfn:∀ k,Fence.wide.fn k:=fun _=>trivial
 refine(ZoU (n:=9)).1 ?_
 refine callsIn_of_wp_marks Tryz.func69 rfl trivial ?_ rfl
 simp only[Tryz.ntmps69,Nat.reduceAdd,Nat.reduceSub,Zpd]
 gi_wp2_with (gi_at_call 127;refine(ZgY Fence.wide _ trivial rfl _ _ _ _).mono ?_;rintro e w' ⟨rfl,rfl⟩)
 obtain⟨w3,hw3⟩:=Zpg (((w.alloc (.cells #[.slice p2 xs.length c2] 110)).alloc (.cells #[.int .i64 0] 3)).alloc (.cells #[.slice p1 xs.length c1] 110))
 rw[hw3]
 have hD:w3.heap.size=w.heap.size+3:=by rw[<- hw3];simp
 have HB3:Zo8 w w3:=by rw[<- hw3];exact(((Zoq _ w).alloc Zpf _).alloc Zc _).alloc (by simp;omega) _
 refine Zgc (w.heap.size+3) hD (gf:=176) (lb:=#[.pointer (some ⟨w.heap.size+2,0,none⟩)])
  (f:=fun k=>#[.int .i64 (bk xs.length k:Nat),.int .u64 (lim xs (bk xs.length k):Nat)]) (N:=xs.length) (S:=fun b=>b<w.heap.size+3/\b≠w.heap.size+1) (T:=fun _=>True)
  rfl (enters_of Tryz.func176 Zb rfl) (fun _=>rfl) ?iter (fun b h=>h.1) ⟨trivial,trivial⟩
  (fun k W=>Zfv xs ys k/\Keeps (fun b=>b<w.heap.size+3) w3 W)
  (fun c k W=>c=.ret/\Zfv xs ys k/\(∃ r:Int,W.cell? ⟨w.heap.size+1,0,none⟩=some (.int .i64 r)/\Hid (Sign (lim xs (bk xs.length k)) (lim ys (bk xs.length k)) r/\r≠0))/\Keeps (fun b=>b<w.heap.size+3/\b≠w.heap.size+1) w3 W)
  (fun k W1 W2 h hk=>⟨h.1,h.2.trans (hk.mono fun b hb1 hb2=>⟨trivial,Za,Za⟩)⟩)
  (fun c k W1 W2 h hk=>?ix) ⟨fun j h1 h2=>Za,Keeps.refl _ _⟩ ?a1 ?assign ?body ?done ?stop
 case ix=>
  obtain⟨h1,h2,⟨r,h3,h4⟩,h5⟩:=h
  exact⟨h1,h2,⟨r,hk.cellAt h3 ⟨trivial,Zc,Zc⟩,h4⟩,h5.trans (hk.mono fun b hb1 hb2=>⟨trivial,Za,Za⟩)⟩
 case iter=>
  refine ZeU (w.heap.size+2) _ p1 c1 xs hl w3 ⟨Za,Za⟩ ?_ ?_
  ·rw[<- hw3];exact ZK _ _ _ _ Zc
  ·intro hne
   obtain⟨b,off,h1,h2,h3⟩:=HP1.out hne
   refine⟨b,off,h1,⟨Za,Za⟩,?_⟩
   exact h3.below HB3.out h2
 case assign=>
  intro l k W K hK
  gi_wp2
  exact hK
 case body=>
  rintro l k W hk ⟨HE,HK⟩ hW
  have cm:W.cell? ⟨w.heap.size,0,none⟩=some (.slice p2 xs.length c2):=HK.cellAt (by rw[<- hw3,Zaj _ _ _ (by simp;omega),Zaj _ _ _ Zc];exact ZK _ _ _ _ rfl) Zc
  have cr:W.cell? ⟨w.heap.size+1,0,none⟩=some (.int .i64 0):=HK.cellAt (by rw[<- hw3,Zaj _ _ _ Zc];exact ZK _ _ _ _ Zc) Zc
  have fr:W.frozen? ⟨w.heap.size+1,0,none⟩=false:=by rw[HK.frozen (by rw[hD];simp) Zc,<- hw3,Zdt _ _ _ Zc];exact ZcI _ _ _ _ Zc
  have HKh:=Zpe HK
  obtain⟨i,hi⟩:=Zpg (bk xs.length k)
  have hil:i<xs.length:=by unfold bk at hi;omega
  have hik:Hid (xs.length-k=i+1/\xs.length-(k+1)=i):=by unfold bk at hi;exact⟨Za,Za⟩
  obtain⟨b,off,rfl,hb,ha⟩:=HP2.out (Zoy (by rw[HL.out];omega))
  obtain⟨y,hy⟩:=Zpg (lim ys i)
  obtain⟨x,hx⟩:=Zpg (lim xs i)
  have ha3:=ha.below HB3.out hb
  have cy:W.cell? ⟨b,off+i,none⟩=some (.int .u64 (y:Nat)):=HK.cellAt (ha3.getD (by rw[HL.out];exact hil) hy) (by simp;omega)
  rw[hi,hx]
  clear HK ha ha3
  have Hi:=Zpe hi
  have Hx:=Zpe hx
  have Hy:=Zpe hy
  clear hi hx hy
  by_cases hxy:x=y
  ·have hb0:((x:Int) !=y)=false:=by subst hxy;simp
   have HXY:=Zpe hxy
   clear hxy
   gi_wp2
   refine⟨Keeps.refl _ _,fun j h1 h2=>?_,HKh.out⟩
   have hik1:=hik.out
   rcases Zow i j with h3 | h3
   ·exact HE j Za h2
   ·obtain rfl:j=i:=Za
    rw[Hx.out,Hy.out,HXY.out]
  ·have hb0:((x:Int) !=y)=true:=by rw[bne_iff_ne];omega
   have HS1:Hid (x<y->Sign (lim xs (bk xs.length k)) (lim ys (bk xs.length k)) (-1)/\(-1:Int)≠0):=fun h=>by
    rw[Hi.out,Hx.out,Hy.out];exact⟨⟨Za,Za,Za,Za⟩,Za⟩
   have HS2:Hid (¬ x<y->Sign (lim xs (bk xs.length k)) (lim ys (bk xs.length k)) 1/\(1:Int)≠0):=fun h=>by
    rw[Hi.out,Hx.out,Hy.out];exact⟨⟨Za,Za,Za,Za⟩,Za⟩
   have hS3:¬ (fun b=>(b<w.heap.size+3/\b≠w.heap.size+1)\/b=w.heap.size+3\/b=w.heap.size+3+1) (w.heap.size+1):=Zc
   have HS3:=Zpe hS3
   clear hxy hS3
   by_cases hlt:x<y
   ·gi_wp2
    exact⟨(Keeps.refl _ _).setCell (p:=⟨w.heap.size+1,0,none⟩) HS3.out _,rfl,HE,⟨-1,World.cell?_setCell_same' _ _ _ (by rw[cr];rfl),HS1.out hlt⟩,(HKh.out.mono (fun b _ hb=>hb.1)).setCell (p:=⟨w.heap.size+1,0,none⟩) Zc _⟩
   ·gi_wp2
    exact⟨(Keeps.refl _ _).setCell (p:=⟨w.heap.size+1,0,none⟩) HS3.out _,rfl,HE,⟨1,World.cell?_setCell_same' _ _ _ (by rw[cr];rfl),HS2.out hlt⟩,(HKh.out.mono (fun b _ hb=>hb.1)).setCell (p:=⟨w.heap.size+1,0,none⟩) Zc _⟩
 case done=>
  rintro W ⟨HE,HK⟩ hdef
  have cr:W.cell? ⟨w.heap.size+1,0,none⟩=some (.int .i64 0):=HK.cellAt (by rw[<- hw3,Zaj _ _ _ Zc];exact ZK _ _ _ _ Zc) Zc
  have fr:W.frozen? ⟨w.heap.size+1,0,none⟩=false:=by rw[HK.frozen (by rw[hD];simp) Zc,<- hw3,Zdt _ _ _ Zc];exact ZcI _ _ _ _ Zc
  have HKh:=Zpe HK
  clear HK
  gi_wp2
  have hdef':(W.setCell ⟨w.heap.size+1,0,none⟩ (.int .i64 0)).heap[w.heap.size+3]?=some (.deferred (some [])):=(Zos _ _ _ _ Zc).trans hdef
  have hc5:((W.setCell ⟨w.heap.size+1,0,none⟩ (.int .i64 0)).putObj (w.heap.size+3) (.deferred none)).cell? ⟨w.heap.size+1,0,none⟩=some (.int .i64 0):=
   (ZoI (ZoJ Zc)).trans (World.cell?_setCell_same' _ _ _ (by rw[cr];rfl))
  refine⟨Zc,.inl ⟨_,_,rfl,run_takeDeferred hdef',?_⟩⟩
  refine⟨.int .i64 0,by simp[results,Tryz.f69,go_sem,hc5],0,rfl,?_,?_⟩
  ·rw[ZjA HL.out HE]
   exact⟨Zc,Zc,Za,Za⟩
  ·refine HB3.out.trans ?_
   have h1:=((HKh.out.mono (S':=fun b=>b<w.heap.size) (fun b _ hb=>Za)).setCell (p:=⟨w.heap.size+1,0,none⟩) Zc (.int .i64 0)).putObj (r:=w.heap.size+3) Zc (.deferred none)
   exact⟨h1.os,h1.tape,h1.output,h1.size,fun k hk=>h1.block k Za hk⟩
 case stop=>
  rintro c k W hk ⟨rfl,HE,⟨r,cr,HS⟩,HK⟩ hdef
  have HKh:=Zpe HK
  clear HK
  gi_wp2
  have hc5:(W.putObj (w.heap.size+3) (.deferred none)).cell? ⟨w.heap.size+1,0,none⟩=some (.int .i64 r):=(ZoI (ZoJ Zc)).trans cr
  refine⟨Zc,.inl ⟨_,_,rfl,run_takeDeferred hdef,?_⟩⟩
  refine⟨.int .i64 r,by simp[results,Tryz.f69,go_sem,hc5],r,rfl,Zjv HL.out HX.out HY.out hk HE HS.out.1 HS.out.2,?_⟩
  refine HB3.out.trans ?_
  have h1:=(HKh.out.mono (S':=fun b=>b<w.heap.size) (fun b _ hb=>Za)).putObj (r:=w.heap.size+3) Zc (.deferred none)
  exact⟨h1.os,h1.tape,h1.output,h1.size,fun k hk=>h1.block k Za hk⟩
theorem ZbN {v1 v2:Value} {n m:Nat} {w:World} (h1:Num w v1 n) (h2:Num w v2 m) (hl1:(Zp 1000000000 n).length<=1000000) (hl2:(Zp 1000000000 m).length<=1000000) :
  Calls Tryz.prog 69 #[v1,v2] w (ZjZ w n m):=by
 obtain⟨p1,c1,rfl,_,_,hp1⟩:=h1
 obtain⟨p2,c2,rfl,_,_,hp2⟩:=h2
 by_cases hlen:(Zp 1000000000 n).length=(Zp 1000000000 m).length
 ·rw[<- hlen]
  have:=Zi7 p1 p2 c1 c2 _ _ hl1 hlen.symm w hp1 hp2 (ZI Za n) (ZI Za m)
  rwa [ZA Za,ZA Za] at this
 ·refine(Zji p1 p2 c1 c2 _ _ hl1 hl2 hlen w).mono ?_
  rintro e w' ⟨rfl,hb⟩
  refine⟨_,rfl,?_,hb⟩
  rcases Nat.lt_or_gt_of_ne hlen with h | h
  ·have:=ZbO (B:=1000000000) Za h
   exact⟨⟨fun _=>this,fun _=>Za⟩,⟨fun e=>Za,fun e=>Za⟩,Za,Za⟩
  ·have:=ZbO (B:=1000000000) Za h
   exact⟨⟨fun e=>Za,fun e=>Za⟩,⟨fun e=>Za,fun e=>Za⟩,Za,Za⟩
end Go.Proofs.YtmpaflidennnoaaGreatDoor
namespace Go.Proofs.YtmpaflidennnoaaGreatDoor
open Go.RowKit
theorem ZfI (x y p:Nat) (hp:x*y=p) (hx:x<18446744073709551616) (hy:y<18446744073709551616) (h:p<18446744073709551616) (w:World) :
  Calls Tryz.prog 218 #[.int .u64 x,.int .u64 y] w fun e w'=>w=w'/\e=.returned (.tuple #[.int .u64 0,.int .u64 (p:Nat)]):=by
 refine(Tryz.bits_Mul64 x y hx hy w).mono ?_
 rintro e w' ⟨rfl,rfl⟩
 refine⟨rfl,?_⟩
 rw[hp,Nat.div_eq_of_lt h,Nat.mod_eq_of_lt h]
 rfl
theorem ZkS (x p:Nat) (hp:x*1000000000=p) (hx:x<18446744073709551616) (h:p<18446744073709551616) (w:World) :
  Calls Tryz.prog 218 #[.int .u64 x,.int .u64 1000000000] w fun e w'=>w=w'/\e=.returned (.tuple #[.int .u64 0,.int .u64 (p:Nat)]):=
 ZfI x 1000000000 p hp hx Za h w
theorem Zlm (x y s:Nat) (hs:x+y=s) (h:s<18446744073709551616) (w:World) :
  (callFunc 219 #[.int .u64 x,.int .u64 y,.int .u64 0]).run Tryz.prog w=.ok (.value (.tuple #[.int .u64 (s:Nat),.int .u64 0])) w:=by
 have:=run_callFunc_extern (P:=Tryz.prog) Tryz.func219 Zb Zb Zb (e:=add64Entry) Zb (args:=#[.int .u64 x,.int .u64 y,.int .u64 0]) (w:=w)
 rw[this]
 rw[run_add64 x y 0 Za Za Za Za (P:=Tryz.prog) (w:=w)]
 subst hs
 simp only[Result.andThen]
 have h1:((x:Int)+y+0) % 18446744073709551616=((x+y:Nat):Int):=Za
 have h2:((x:Int)+y+0)/18446744073709551616=0:=Za
 rw[h1,h2]
theorem ZfO (g s l n:Nat) (hg:g<=1000000001) (hs:s<1000000000) (hl:l<1000000000) (hn:n<1000000000) (w:World) :
  Calls Tryz.prog 194 #[.int .u64 g,.int .u64 s,.int .u64 l,.int .u64 n] w fun e w'=>w=w'/\e=.returned (.bool (decide (l*1000000000+n<g*s))):=by
 obtain⟨p,hp⟩:=Zpg (g*s)
 have hpl:p<2000000000000000000:=by
  have:g*s<=1000000001*999999999:=Nat.mul_le_mul hg Za
  omega
 have HP:=Zpe hp
 clear hp
 obtain⟨q,hq⟩:=Zpg (l*1000000000)
 obtain⟨r,hr⟩:=Zpg (q+n)
 have hql:q<1000000000000000000:=Za
 have hrl:r<2000000000000000000:=Za
 have HQ:=Zpe hq
 have HRR:=Zpe hr
 clear hq hr
 go_enter Tryz.func194,Tryz.ntmps194
 go_wp2_with fail
 refine(ZfI g s p HP.out Za Za Za _).mono ?_
 rintro e w' ⟨rfl,rfl⟩
 go_wp2_with fail
 refine(ZkS l q HQ.out Za Za _).mono ?_
 rintro e w' ⟨rfl,rfl⟩
 have ha:=fun w=>Zlm q n r HRR.out Za w
 have E2:Hid (decide (l*1000000000+n<g*s)=decide (r<p)):=by
  show _=_
  rw[HP.out,HQ.out,HRR.out]
 go_wp2_with (simp only[ha])
 go_ret
 exact⟨rfl,by rw[E2.out];rfl⟩
structure GuessInv (B top head:Nat) (q g left:Nat):Prop where
 eq:g*top+left=head
 ge:q<=g
 le:g<=B+1
 left_lt:left<B
theorem Zjc {B M u v q head top second ulow vlow:Nat} (hM:0<M) (hul:ulow<B*M) (hu:u=head*(B*M)+ulow)
  (hv:v=top*(B*M)+(second*M+vlow)) (hq:q*v<=u) (hB:0<B) (htop:0<top):q<=head/top:=by
 rw[Nat.le_div_iff_mul_le htop]
 have hBM:0<B*M:=Nat.mul_pos hB hM
 have h1:q*top*(B*M)<=q*v:=by rw[hv];grind
 have h2:q*top*(B*M)<(head+1)*(B*M):=by
  have:(head+1)*(B*M)=head*(B*M)+B*M:=Zk
  omega
 have:=Nat.lt_of_mul_lt_mul_right h2
 omega
theorem ZhT {B top head:Nat} (htop:B<=2*top) (htB:top<B) (hh:head<(top+1)*B):head/top<=B+1:=by
 have h0:0<top:=Za
 have h1:head/top<B+2:=by
  rw[Nat.div_lt_iff_lt_mul h0]
  have h2:(top+1)*B=top*B+B:=Zk
  have h3:(B+2)*top=top*B+2*top:=Zk
  omega
 omega
theorem Zkz {B M u v q head top second next ulow vlow:Nat} (hul:ulow<M)
  (hu:u=(head*B+next)*M+ulow) (hv:v=(top*B+second)*M+vlow) (hq:q*v<=u):q*(top*B+second)<=head*B+next:=by
 have h1:q*(top*B+second)*M<=q*v:=by rw[hv];grind
 have h2:q*(top*B+second)*M<(head*B+next+1)*M:=by
  have:(head*B+next+1)*M=(head*B+next)*M+M:=Zk
  omega
 have:=Nat.lt_of_mul_lt_mul_right h2
 omega
theorem Zii {B head top second next g left:Nat} (h:g*top+left=head):g*second > left*B+next<->g*(top*B+second) > head*B+next:=by
 have:g*(top*B+second)=g*top*B+g*second:=Zk
 have:head*B=g*top*B+left*B:=by rw[<- h];grind
 omega
theorem ZfG {B M u v g head top second next ulow vlow:Nat} (hgB:g<=B) (hu:u=(head*B+next)*M+ulow) (hv:v=(top*B+second)*M+vlow) (hvl:vlow<M)
  (htop:1<=top) (hg:g*(top*B+second)<=head*B+next):(g-1)*v<=u:=by
 rcases ZoF g with h0 | h0
 ·subst h0;simp
 ·obtain⟨d,rfl⟩:∃ d,g=d+1:=⟨g-1,Za⟩
  have h1:(d+1)*(top*B+second)*M<=(head*B+next)*M:=ZoS _ hg
  have h2:(d+1)*v=(d+1)*(top*B+second)*M+(d+1)*vlow:=by rw[hv];grind
  have h3:(d+1)*vlow<=B*M:=Nat.mul_le_mul hgB (ZoW hvl)
  have h4:B*M<=v:=by
   rw[hv]
   have:1*B<=top*B:=ZoS _ htop
   have:B*M<=(top*B+second)*M:=ZoS _ Za
   omega
  have h5:(d+1)*v=d*v+v:=Zk
  simp only[ZoT]
  omega
theorem Zjq {B head top second next g left:Nat} (h:g*top+left=head) (hl:B<=left) (hg:g<=B) (hs:second<B):g*(top*B+second)<=head*B+next:=by
 have h1:g*(top*B+second)=g*top*B+g*second:=Zk
 have h2:head*B=g*top*B+left*B:=by rw[<- h];grind
 have h3:g*second<=B*B:=Nat.mul_le_mul hg (ZoW hs)
 have h4:B*B<=left*B:=ZoS _ hl
 omega
theorem GuessInv.less {B top head q g left:Nat} (h:GuessInv B top head q g left) (hq:q<g) (hl:left+top<B):GuessInv B top head q (g-1) (left+top):=by
 have h1:=h.eq
 have h2:=h.le
 obtain⟨d,rfl⟩:∃ d,g=d+1:=⟨g-1,Za⟩
 refine⟨?_,Za,Za,hl⟩
 simp only[ZoT]
 grind
theorem ZhX {B top head q g left:Nat} (h:GuessInv B top head q g left) (hq:q<g):(g-1)*top+(left+top)=head:=by
 have h1:=h.eq
 obtain⟨d,rfl⟩:∃ d,g=d+1:=⟨g-1,Za⟩
 simp only[ZoT]
 grind
structure TakeInv (B:Nat) (p b:List Nat) (t:Nat) (k:Nat) (o:List Nat) (c w:Nat):Prop where
 len:o.length=k
 lt:∀ x ∈ o,x<B
 borrow:w<=1
 carry:c<B
 eq:val B o+val B (b.take k)*t=val B (p.take k)+B ^ k*(c+w)
theorem TakeInv.start {B:Nat} (hB:0<B) (p b:List Nat) (t:Nat):TakeInv B p b t 0 [] 0 0:=⟨rfl,Zc,Za,hB,by simp[val]⟩
theorem TakeInv.step {B:Nat} (hB:1<B) {p b:List Nat} (hp:∀ x ∈ p,x<B) (hb:∀ x ∈ b,x<B) {t:Nat} (ht:t<B) {k:Nat} {o:List Nat} {c w:Nat}
  (h:TakeInv B p b t k o c w) {s:Nat} (hs:s=c+w+b.getD k 0*t) {x w':Nat}
  (hx:(p.getD k 0<s % B/\x=p.getD k 0+B-s % B/\w'=1)\/(s % B<=p.getD k 0/\x=p.getD k 0-s % B/\w'=0)) :
  TakeInv B p b t (k+1) (o++[x]) (s/B) w':=by
 have h1:=ZM Za hp k
 have h2:=ZM Za hb k
 have h3:=h.borrow
 have h4:=h.carry
 have h5:=Nat.mod_lt s (show 0<B by omega)
 have hmul:b.getD k 0*t<=(B-1)*(B-1):=Nat.mul_le_mul Za Za
 have hBB:(B-1)*(B-1)+2*(B-1)+1=B*B:=by
  obtain⟨d,rfl⟩:∃ d,B=d+1:=⟨B-1,Za⟩
  simp only[ZoT];grind
 have hx2:x<B/\w'<=1/\x+s % B=p.getD k 0+B*w':=by
  rcases hx with ⟨ha,rfl,rfl⟩ | ⟨ha,rfl,rfl⟩
  ·exact⟨Za,Za,Za⟩
  ·exact⟨Za,Za,Za⟩
 obtain⟨hx3,hw',hxe⟩:=hx2
 refine⟨by simp[h.len],ZbL h.lt hx3,hw',Nat.div_lt_of_lt_mul Za,?_⟩
 rw[ZbA,h.len,ZT,ZT,ZoX]
 have h6:=h.eq
 have h7:=Nat.mod_add_div s B
 generalize s % B=r at *
 generalize s/B=q at *
 generalize B ^ k=K at *
 generalize b.getD k 0=y at *
 generalize p.getD k 0=z at *
 have h8:K*x+K*r=K*z+K*(B*w'):=by rw[<- Nat.mul_add,hxe,Nat.mul_add]
 have h9:K*r+K*(B*q)=K*(c+w)+K*(y*t):=by rw[<- Nat.mul_add,h7,hs,Nat.mul_add]
 have h10:(val B (b.take k)+K*y)*t=val B (b.take k)*t+K*(y*t):=Zk
 have h11:K*B*(q+w')=K*(B*q)+K*(B*w'):=Zk
 rw[h10,h11]
 omega
theorem Zfc {B:Nat} {p b:List Nat} {t:Nat} {o:List Nat} {c w:Nat} (h:TakeInv B p b t p.length o c w) (hl:b.length<=p.length) (hle:val B b*t<=val B p) :
  c=0/\w=0/\val B o=val B p-val B b*t:=by
 have h1:=h.eq
 rw[ZoA Zpf,ZoA hl] at h1
 have h2:=Z6 h.lt
 rw[h.len] at h2
 rcases ZoF (c+w) with h0 | h0
 ·rw[h0] at h1
  exact⟨Za,Za,Za⟩
 ·have:B ^ p.length*1<=B ^ p.length*(c+w):=Nat.mul_le_mul_left _ h0
  omega
theorem Zdf {B:Nat} {p b:List Nat} {t:Nat} {o:List Nat} {c w:Nat} (h:TakeInv B p b t p.length o c w) (hl:b.length<=p.length) (hgt:val B p<val B b*t)
  (hle:val B b*(t-1)<=val B p) (hb:val B b<B ^ p.length):(c+w=1)/\val B o+val B b*t=val B p+B ^ p.length:=by
 have h1:=h.eq
 rw[ZoA Zpf,ZoA hl] at h1
 have h2:=Z6 h.lt
 rw[h.len] at h2
 have h3:val B b*t<=val B p+val B b:=by
  rcases ZoF t with h0 | h0
  ·subst h0;simp
  ·obtain⟨d,rfl⟩:∃ d,t=d+1:=⟨t-1,Za⟩
   simp only[ZoT] at hle
   have:val B b*(d+1)=val B b*d+val B b:=Zk
   omega
 have h4:c+w=1:=by
  rcases Nat.lt_trichotomy (c+w) 1 with h5 | h5 | h5
  ·have:c+w=0:=Za
   rw[this] at h1
   omega
  ·exact h5
  ·have:B ^ p.length*2<=B ^ p.length*(c+w):=Nat.mul_le_mul_left _ h5
   omega
 refine⟨h4,?_⟩
 rw[h4] at h1
 omega
structure GiveInv (B:Nat) (p b:List Nat) (k:Nat) (o:List Nat) (c:Nat):Prop where
 len:o.length=k
 lt:∀ x ∈ o,x<B
 carry:c<=1
 eq:val B o+B ^ k*c=val B (p.take k)+val B (b.take k)
theorem GiveInv.start (B:Nat) (p b:List Nat):GiveInv B p b 0 [] 0:=⟨rfl,Zc,Za,by simp[val]⟩
theorem GiveInv.step {B:Nat} (hB:1<B) {p b:List Nat} (hp:∀ x ∈ p,x<B) (hb:∀ x ∈ b,x<B) {k:Nat} {o:List Nat} {c:Nat}
  (h:GiveInv B p b k o c) {s:Nat} (hs:s=c+p.getD k 0+b.getD k 0):GiveInv B p b (k+1) (o++[s % B]) (s/B):=by
 have h':PlusInv B p b k o c:=⟨h.len,h.lt,h.carry,h.eq⟩
 have:=h'.step hB hp hb (x:=s) Za
 exact⟨this.len,this.lt,this.carry,this.eq⟩
theorem Zfl {B:Nat} {p b p0:List Nat} {t:Nat} {o:List Nat} {c:Nat} (h:GiveInv B p b p.length o c) (hl:b.length<=p.length) (hp:val B p+val B b*t=val B p0+B ^ p.length) (ht:1<=t)
  (hle:val B b*(t-1)<=val B p0) (hlt:val B p0-val B b*(t-1)<B ^ p.length):val B o=val B p0-val B b*(t-1):=by
 have h1:=h.eq
 rw[ZoA Zpf,ZoA hl] at h1
 have h2:=Z6 h.lt
 rw[h.len] at h2
 obtain⟨d,rfl⟩:∃ d,t=d+1:=⟨t-1,Za⟩
 simp only[ZoT] at hle hlt ⊢
 have h3:val B b*(d+1)=val B b*d+val B b:=Zk
 have h4:=h.carry
 rcases ZoF c with h5 | h5
 ·subst h5;simp only[Nat.mul_zero,Nat.add_zero] at h1;omega
 ·have:c=1:=Za
  subst this
  omega
theorem Zmo {B v:Nat} (hv:0<v) (hvB:v<B):B/(v+1)*v<B/\B<=2*(B/(v+1)*v)+1/\1<=B/(v+1):=by
 have h1:1<=B/(v+1):=by rw[Nat.le_div_iff_mul_le Za];omega
 have h2:B/(v+1)*(v+1)<=B:=Nat.div_mul_le_self _ _
 have h3:B<(B/(v+1)+1)*(v+1):=by
  have h:=Nat.mod_add_div B (v+1)
  have h':=Nat.mod_lt B (show 0<v+1 by omega)
  have h'':(B/(v+1)+1)*(v+1)=(v+1)*(B/(v+1))+(v+1):=Zk
  omega
 generalize B/(v+1)=s at *
 have h4:s*(v+1)=s*v+s:=Zk
 have h5:(s+1)*(v+1)=s*v+s+v+1:=Zk
 have h6:s+v<=s*v+1:=by
  obtain⟨a,rfl⟩:∃ a,s=a+1:=⟨s-1,Za⟩
  obtain⟨c,rfl⟩:∃ c,v=c+1:=⟨v-1,Za⟩
  have:(a+1)*(c+1)=a*c+a+c+1:=Zk
  omega
 exact⟨Za,Za,h1⟩
theorem ZkJ {n m s q r:Nat} (hs:0<s) (h:n*s=q*(m*s)+r) (hr:r<m*s):q=n/m/\r/s=n % m/\r % s=0:=by
 have hm:0<m:=by
  rcases ZoF m with h0 | h0
  ·subst h0;simp at hr
  ·exact h0
 have h1:r=(n-q*m)*s:=by
  rw[Nat.sub_mul,Nat.mul_assoc];omega
 have h2:q*m<=n:=by
  rcases Zow n (q*m) with h' | h'
  ·have:=Nat.mul_lt_mul_of_pos_right h' hs
   have h3:q*m*s=q*(m*s):=Nat.mul_assoc _ _ _
   omega
  ·exact h'
 have h3:n-q*m<m:=by
  rw[h1] at hr
  exact Nat.lt_of_mul_lt_mul_right hr
 have h4:n=m*q+(n-q*m):=by have:m*q=q*m:=ZoM _ _;omega
 refine⟨?_,?_,?_⟩
 ·rw[h4,Nat.mul_add_div hm,Nat.div_eq_of_lt h3];rfl
 ·rw[h1,Nat.mul_div_cancel _ hs]
  conv=>rhs;rw[h4]
  rw[Nat.mul_add_mod,Nat.mod_eq_of_lt h3]
 ·rw[h1,Nat.mul_mod_left]
theorem Zf2 (lo os rest hi:List Nat) (p i:Nat) (h:i=lo.length+os.length):(lo++(os++p::rest)++hi).getD i 0=p:=by
 subst h
 simp only[List.getD,List.append_assoc,List.getElem?_append]
 rw[if_neg Za,if_neg Za,Nat.add_sub_cancel_left,Nat.sub_self]
 simp
theorem ZnO (lo os rest hi:List Nat) (p v i:Nat) (h:i=lo.length+os.length):(lo++(os++p::rest)++hi).set i v=lo++(os++[v]++rest)++hi:=by
 subst h
 have e:lo++(os++p::rest)++hi=(lo++os)++p::(rest++hi):=Zc
 rw[e,List.set_append_right _ _ Zc,ZoH,Nat.sub_self]
 simp
theorem Zhd (lo os rest hi:List Nat) (p:Nat):lo.length+os.length<(lo++(os++p::rest)++hi).length:=Zc
theorem ZbR {E:TypeId} {B g cap0:Nat} {lo os rest hi:List Nat} {p x i:Nat} {v:Int} {w:World} (h:Row .u64 E w B g cap0 (lo++(os++p::rest)++hi)) (hi0:i=lo.length+os.length) (hv:v=(x:Nat)) :
  Row .u64 E (w.setCell ⟨g,i,none⟩ (.int .u64 v)) B g cap0 (lo++(os++[x]++rest)++hi):=by
 subst hv
 have:=h.set i x
 rwa [ZnO lo os rest hi p x i hi0] at this
theorem Zet {E:TypeId} {B g cap0:Nat} {lo os rest hi:List Nat} {p x n i:Nat} {u v:Int} {w:World} (h:Row .u64 E w B g cap0 (lo++(os++p::rest)++hi)) (hi0:i=lo.length+os.length) (hu:u=(n:Nat)) (hv:v=(x:Nat)) :
  Row .u64 E ((w.setCell ⟨g,i,none⟩ (.int .u64 u)).setCell ⟨g,i,none⟩ (.int .u64 v)) B g cap0 (lo++(os++[x]++rest)++hi):=by
 have h1:=ZbR h hi0 hu
 have e:lo++(os++[n]++rest)++hi=lo++(os++n::rest)++hi:=Zc
 rw[e] at h1
 exact ZbR h1 hi0 hv
theorem Zbv {w w':World} {g:Nat} (h:w.grownBy w' (some g)) (o:Nat) (v:Value):w.grownBy (w'.setCell ⟨g,o,none⟩ v) (some g):=
 ⟨h.os,h.tape,h.output,by simp[World.setCell];exact h.size,fun k hk hne=>(Zos w' _ v k (fun e=>hne (by rw[e]))).trans (h.block k hk hne)⟩
theorem ZfY (E:TypeId) (g cap0 cap i:Nat) (lo ps hi:List Nat) (q:Option Addr) (c2:Nat) (bs:List Nat) (t:Nat) (w:World)
  (hr:Row .u64 E w 0 g cap0 (lo++ps++hi)) (hi0:i=lo.length) (hps:∀ x ∈ ps,x<1000000000) (hbs:∀ x ∈ bs,x<1000000000) (ht:t<1000000000) (hl:(lo++ps++hi).length<=1000000)
  (hq:bs≠[]->∃ b off,q=some ⟨b,off,none⟩/\b≠g/\b<w.heap.size/\At .u64 w b off bs) (hbl:bs.length<=1000000) (hcap:ps.length<=cap/\cap<=maxLen) :
  Calls Tryz.prog 195 #[.slice (some ⟨g,i,none⟩) ps.length cap,.slice q bs.length c2,.int .u64 t] w fun e w'=>
   ∃ os c wb,e=.returned (.bool (decide (c+wb=0)))/\TakeInv 1000000000 ps bs t ps.length os c wb/\Row .u64 E w' 0 g cap0 (lo++os++hi)/\w.grownBy w' (some g):=by
 subst hi0
 have HP:=Zpe hps
 have HBS:=Zpe hbs
 have HQ:=Zpe hq
 have hcap1:=hcap.1
 have hcap2:=hcap.2
 unfold maxLen at hcap2
 have hll:lo.length+(ps.length+hi.length)<=1000000:=by simpa using hl
 have HR0:=Zpe hr
 clear hps hbs hq hcap hr hl
 go_enter Tryz.func195,Tryz.ntmps195
 go_wp2
 go_loopw [7,8,13] (fun c b i wr=>∃ (k:Nat) (os:List Nat) (cr wb:Nat),k<=ps.length/\i=.int .i64 k/\c=.int .u64 cr/\b=.int .u64 wb/\
   Hid (TakeInv 1000000000 ps bs t k os cr wb)/\Hid (Row .u64 E wr 0 g cap0 (lo++(os++ps.drop k)++hi))/\Hid (w.grownBy wr (some g))) (fun _ _ i _=>ps.length-(intOf i).toNat)
 case atStart=>exact⟨0,[],0,0,ZoD _,rfl,rfl,rfl,TakeInv.start Za _ _ _,HR0,World.grownBy.refl _ _⟩
 case round=>
  obtain⟨k,os,cr,wb,hk,rfl,rfl,rfl,HI,HR,HG⟩:=hrel
  have hcr:=HI.out.carry
  have hwb:=HI.out.borrow
  by_cases hlt:k<ps.length
  ·obtain⟨p,hp⟩:=Zpg (ps.getD k 0)
   have hpl:p<1000000000:=by rw[<- hp];exact ZM Za HP.out k
   have hd:ps.drop k=p::ps.drop (k+1):=by rw[List.drop_eq_getElem_cons hlt];subst hp;simp[List.getD,hlt]
   have HR1:Hid (Row .u64 E wr 0 g cap0 (lo++(os++p::ps.drop (k+1))++hi)):=by have:=HR.out;rw[hd] at this;exact this
   have hidx:lo.length+k=lo.length+os.length:=by rw[HI.out.len]
   have cp:wr.cell? ⟨g,lo.length+k,none⟩=some (.int .u64 (p:Nat)):=HR1.out.cell (by rw[hidx];exact Zhd _ _ _ _ _) (Zf2 _ _ _ _ _ _ hidx)
   have fp:wr.frozen? ⟨g,lo.length+k,none⟩=false:=HR1.out.frozen _
   have HIX:=Zpe hidx
   have Hp:=Zpe hp
   clear hp hd hidx HR
   by_cases hlt2:k<bs.length
   ·obtain⟨b2,off2,rfl,hne,hb2,ha2⟩:=HQ.out (Zoy Za)
    obtain⟨y,hy⟩:=Zpg (bs.getD k 0)
    have hyl:y<1000000000:=by rw[<- hy];exact ZM Za HBS.out k
    have cy:wr.cell? ⟨b2,off2+k,none⟩=some (.int .u64 (y:Nat)):=(ZoI (w:=w) (a:=⟨b2,off2+k,none⟩) (HG.out.block b2 hb2 (by simpa using hne))).trans (ha2.getD hlt2 hy)
    have Hy:=Zpe hy
    have hmul:y*t<=999999999*999999999:=Nat.mul_le_mul Za Za
    have hmul':((y*t:Nat):Int)=(y:Int)*t:=Zc
    have hm0:0<=(y:Int)*t:=Za
    have hm1:(y:Int)*t<=999999998000000001:=Za
    clear hy ha2 hmul hmul'
    by_cases hlt3:p<(cr+wb+y*t) % 1000000000
    ·have hlt3':(p:Int)<((cr:Int)+wb+(y:Int)*t) % 1000000000:=by have e:((cr+wb+y*t:Nat):Int)=(cr:Int)+wb+y*t:=Zc;omega
     have E1:Hid ((p:Int)+1000000000-((cr:Int)+wb+(y:Int)*t) % 1000000000=(p+1000000000-(cr+wb+y*t) % 1000000000:Nat)):=by show _=_;have e:((cr+wb+y*t:Nat):Int)=(cr:Int)+wb+y*t:=Zc;omega
     have E2:Hid (((cr:Int)+wb+(y:Int)*t)/1000000000=((cr+wb+y*t)/1000000000:Nat)):=by show _=_;have e:((cr+wb+y*t:Nat):Int)=(cr:Int)+wb+y*t:=Zc;omega
     have HS:Hid (TakeInv 1000000000 ps bs t (k+1) (os++[p+1000000000-(cr+wb+y*t) % 1000000000]) ((cr+wb+y*t)/1000000000) 1):=
      HI.out.step Za HP.out HBS.out ht rfl (.inl (by rw[Hp.out,Hy.out];exact⟨hlt3,rfl,rfl⟩)) |> fun h=>by rw[Hy.out] at h;exact h
     clear hlt3
     go_wp2
     go_roundw
     case rel=>exact⟨k+1,_,_,1,Za,by go_num,by rw[E2.out],rfl,HS,Zet HR1.out HIX.out (n:=p+1000000000) Za E1.out,Zbv (Zbv HG.out _ _) _ _⟩
     case measure=>exact Zj
    ·have hlt3':¬ (p:Int)<((cr:Int)+wb+(y:Int)*t) % 1000000000:=by have e:((cr+wb+y*t:Nat):Int)=(cr:Int)+wb+y*t:=Zc;omega
     have E1:Hid ((p:Int)-((cr:Int)+wb+(y:Int)*t) % 1000000000=(p-(cr+wb+y*t) % 1000000000:Nat)):=by show _=_;have e:((cr+wb+y*t:Nat):Int)=(cr:Int)+wb+y*t:=Zc;omega
     have E2:Hid (((cr:Int)+wb+(y:Int)*t)/1000000000=((cr+wb+y*t)/1000000000:Nat)):=by show _=_;have e:((cr+wb+y*t:Nat):Int)=(cr:Int)+wb+y*t:=Zc;omega
     have HS:Hid (TakeInv 1000000000 ps bs t (k+1) (os++[p-(cr+wb+y*t) % 1000000000]) ((cr+wb+y*t)/1000000000) 0):=
      HI.out.step Za HP.out HBS.out ht rfl (.inr (by rw[Hp.out,Hy.out];exact⟨Za,rfl,rfl⟩)) |> fun h=>by rw[Hy.out] at h;exact h
     clear hlt3
     go_wp2
     go_roundw
     case rel=>exact⟨k+1,_,_,0,Za,by go_num,by rw[E2.out],rfl,HS,ZbR HR1.out HIX.out E1.out,Zbv HG.out _ _⟩
     case measure=>exact Zj
   ·have Hy:Hid (bs.getD k 0=0):=by show _=_;simp[List.getD,hlt2]
    by_cases hlt3:p<(cr+wb+0*t) % 1000000000
    ·have hlt3':(p:Int)<((cr:Int)+wb) % 1000000000:=by have e:((cr+wb+0*t:Nat):Int)=(cr:Int)+wb:=Zc;omega
     have E1:Hid ((p:Int)+1000000000-((cr:Int)+wb) % 1000000000=(p+1000000000-(cr+wb+0*t) % 1000000000:Nat)):=by show _=_;have e:((cr+wb+0*t:Nat):Int)=(cr:Int)+wb:=Zc;omega
     have E2:Hid (((cr:Int)+wb)/1000000000=((cr+wb+0*t)/1000000000:Nat)):=by show _=_;have e:((cr+wb+0*t:Nat):Int)=(cr:Int)+wb:=Zc;omega
     have HS:Hid (TakeInv 1000000000 ps bs t (k+1) (os++[p+1000000000-(cr+wb+0*t) % 1000000000]) ((cr+wb+0*t)/1000000000) 1):=
      HI.out.step Za HP.out HBS.out ht rfl (.inl (by rw[Hp.out,Hy.out];exact⟨hlt3,rfl,rfl⟩)) |> fun h=>by rw[Hy.out] at h;exact h
     clear hlt3
     go_wp2
     go_roundw
     case rel=>exact⟨k+1,_,_,1,Za,by go_num,by rw[E2.out],rfl,HS,Zet HR1.out HIX.out (n:=p+1000000000) Za E1.out,Zbv (Zbv HG.out _ _) _ _⟩
     case measure=>exact Zj
    ·have hlt3':¬ (p:Int)<((cr:Int)+wb) % 1000000000:=by have e:((cr+wb+0*t:Nat):Int)=(cr:Int)+wb:=Zc;omega
     have E1:Hid ((p:Int)-((cr:Int)+wb) % 1000000000=(p-(cr+wb+0*t) % 1000000000:Nat)):=by show _=_;have e:((cr+wb+0*t:Nat):Int)=(cr:Int)+wb:=Zc;omega
     have E2:Hid (((cr:Int)+wb)/1000000000=((cr+wb+0*t)/1000000000:Nat)):=by show _=_;have e:((cr+wb+0*t:Nat):Int)=(cr:Int)+wb:=Zc;omega
     have HS:Hid (TakeInv 1000000000 ps bs t (k+1) (os++[p-(cr+wb+0*t) % 1000000000]) ((cr+wb+0*t)/1000000000) 0):=
      HI.out.step Za HP.out HBS.out ht rfl (.inr (by rw[Hp.out,Hy.out];exact⟨Za,rfl,rfl⟩)) |> fun h=>by rw[Hy.out] at h;exact h
     clear hlt3
     go_wp2
     go_roundw
     case rel=>exact⟨k+1,_,_,0,Za,by go_num,by rw[E2.out],rfl,HS,ZbR HR1.out HIX.out E1.out,Zbv HG.out _ _⟩
     case measure=>exact Zj
  ·obtain rfl:k=ps.length:=Za
   have HR2:Hid (Row .u64 E wr 0 g cap0 (lo++os++hi)):=by have:=HR.out;show Row _ _ _ _ _ _ _;simpa using this
   clear HR
   by_cases hb0:wb=0
   ·have hb1:((wb:Int)==0)=true:=by simpa using hb0
    by_cases hc0:cr=0
    ·have hc1:((cr:Int)==0)=true:=by simpa using hc0
     have hfin:Hid (decide (cr+wb=0)=true):=by show _=_;simp[hb0,hc0]
     clear hb0 hc0
     go_wp2
     go_ret
     exact⟨os,cr,wb,by rw[hfin.out];rfl,HI.out,HR2.out,HG.out⟩
    ·have hc1:((cr:Int)==0)=false:=by simpa using hc0
     have hfin:Hid (decide (cr+wb=0)=false):=by show _=_;simp[hb0,hc0]
     clear hb0 hc0
     go_wp2
     go_ret
     exact⟨os,cr,wb,by rw[hfin.out];rfl,HI.out,HR2.out,HG.out⟩
   ·have hb1:((wb:Int)==0)=false:=by simpa using hb0
    have hfin:Hid (decide (cr+wb=0)=false):=by show _=_;simp[hb0]
    clear hb0
    go_wp2
    go_ret
    exact⟨os,cr,wb,by rw[hfin.out];rfl,HI.out,HR2.out,HG.out⟩
theorem Zf7 (E:TypeId) (g cap0 cap i:Nat) (lo ps hi:List Nat) (q:Option Addr) (c2:Nat) (bs:List Nat) (w:World)
  (hr:Row .u64 E w 0 g cap0 (lo++ps++hi)) (hi0:i=lo.length) (hps:∀ x ∈ ps,x<1000000000) (hbs:∀ x ∈ bs,x<1000000000) (hl:(lo++ps++hi).length<=1000000)
  (hq:bs≠[]->∃ b off,q=some ⟨b,off,none⟩/\b≠g/\b<w.heap.size/\At .u64 w b off bs) (hbl:bs.length<=1000000) (hcap:ps.length<=cap/\cap<=maxLen) :
  Calls Tryz.prog 196 #[.slice (some ⟨g,i,none⟩) ps.length cap,.slice q bs.length c2] w fun e w'=>
   e=.returned (.tuple #[])/\∃ os c,GiveInv 1000000000 ps bs ps.length os c/\Row .u64 E w' 0 g cap0 (lo++os++hi)/\w.grownBy w' (some g):=by
 subst hi0
 have HP:=Zpe hps
 have HBS:=Zpe hbs
 have HQ:=Zpe hq
 have hcap1:=hcap.1
 have hcap2:=hcap.2
 unfold maxLen at hcap2
 have hll:lo.length+(ps.length+hi.length)<=1000000:=by simpa using hl
 have HR0:=Zpe hr
 clear hps hbs hq hcap hr hl
 go_enter Tryz.func196,Tryz.ntmps196
 go_wp2
 go_loopw [4,8] (fun c i wr=>∃ (k:Nat) (os:List Nat) (cr:Nat),k<=ps.length/\i=.int .i64 k/\c=.int .u64 cr/\
   Hid (GiveInv 1000000000 ps bs k os cr)/\Hid (Row .u64 E wr 0 g cap0 (lo++(os++ps.drop k)++hi))/\Hid (w.grownBy wr (some g))) (fun _ i _=>ps.length-(intOf i).toNat)
 case atStart=>exact⟨0,[],0,ZoD _,rfl,rfl,GiveInv.start _ _ _,HR0,World.grownBy.refl _ _⟩
 case round=>
  obtain⟨k,os,cr,hk,rfl,rfl,HI,HR,HG⟩:=hrel
  have hcr:=HI.out.carry
  by_cases hlt:k<ps.length
  ·obtain⟨p,hp⟩:=Zpg (ps.getD k 0)
   have hpl:p<1000000000:=by rw[<- hp];exact ZM Za HP.out k
   have hd:ps.drop k=p::ps.drop (k+1):=by rw[List.drop_eq_getElem_cons hlt];subst hp;simp[List.getD,hlt]
   have HR1:Hid (Row .u64 E wr 0 g cap0 (lo++(os++p::ps.drop (k+1))++hi)):=by have:=HR.out;rw[hd] at this;exact this
   have hidx:lo.length+k=lo.length+os.length:=by rw[HI.out.len]
   have cp:wr.cell? ⟨g,lo.length+k,none⟩=some (.int .u64 (p:Nat)):=HR1.out.cell (by rw[hidx];exact Zhd _ _ _ _ _) (Zf2 _ _ _ _ _ _ hidx)
   have fp:wr.frozen? ⟨g,lo.length+k,none⟩=false:=HR1.out.frozen _
   have HIX:=Zpe hidx
   have Hp:=Zpe hp
   clear hp hd hidx HR
   by_cases hlt2:k<bs.length
   ·obtain⟨b2,off2,rfl,hne,hb2,ha2⟩:=HQ.out (Zoy Za)
    obtain⟨y,hy⟩:=Zpg (bs.getD k 0)
    have hyl:y<1000000000:=by rw[<- hy];exact ZM Za HBS.out k
    have cy:wr.cell? ⟨b2,off2+k,none⟩=some (.int .u64 (y:Nat)):=(ZoI (w:=w) (a:=⟨b2,off2+k,none⟩) (HG.out.block b2 hb2 (by simpa using hne))).trans (ha2.getD hlt2 hy)
    have Hy:=Zpe hy
    clear hy ha2
    have E1:Hid (((cr:Int)+p+y) % 1000000000=((cr+p+y) % 1000000000:Nat)):=by show _=_;omega
    have E2:Hid (((cr:Int)+p+y)/1000000000=((cr+p+y)/1000000000:Nat)):=by show _=_;omega
    have HS:Hid (GiveInv 1000000000 ps bs (k+1) (os++[(cr+p+y) % 1000000000]) ((cr+p+y)/1000000000)):=HI.out.step Za HP.out HBS.out (by rw[Hp.out,Hy.out])
    go_wp2
    go_roundw
    case rel=>exact⟨k+1,_,_,Za,by go_num,by rw[E2.out],HS,ZbR HR1.out HIX.out E1.out,Zbv HG.out _ _⟩
    case measure=>exact Zj
   ·have Hy:Hid (bs.getD k 0=0):=by show _=_;simp[List.getD,hlt2]
    have E1:Hid (((cr:Int)+p) % 1000000000=((cr+p+0) % 1000000000:Nat)):=by show _=_;omega
    have E2:Hid (((cr:Int)+p)/1000000000=((cr+p+0)/1000000000:Nat)):=by show _=_;omega
    have HS:Hid (GiveInv 1000000000 ps bs (k+1) (os++[(cr+p+0) % 1000000000]) ((cr+p+0)/1000000000)):=HI.out.step Za HP.out HBS.out (by rw[Hp.out,Hy.out])
    go_wp2
    go_roundw
    case rel=>exact⟨k+1,_,_,Za,by go_num,by rw[E2.out],HS,ZbR HR1.out HIX.out E1.out,Zbv HG.out _ _⟩
    case measure=>exact Zj
  ·obtain rfl:k=ps.length:=Za
   have HR2:Hid (Row .u64 E wr 0 g cap0 (lo++os++hi)):=by have:=HR.out;show Row _ _ _ _ _ _ _;simpa using this
   clear HR
   go_wp2
   go_end0
   exact⟨rfl,os,cr,HI.out,HR2.out,HG.out⟩
end Go.Proofs.YtmpaflidennnoaaGreatDoor
