/- The parts Check, Clone, Minus, Does, Does2 of a proof, put together by program (merge7.py). -/
import Derived.Test.YtmpaflidennnoaaGreatDoorH07
import Derived.Test.YtmpaflidennnoaaGreatDoorH02
import Derived.Deep.AppendLies
import Derived.Test.YtmpaflidennnoaaGreatDoorH04
import Derived.Deep.RegionHeld3
import Derived.Deep.DrawnRows
set_option maxRecDepth 100000
set_option maxHeartbeats 4000000
set_option linter.unusedVariables false
set_option linter.unusedSimpArgs false
namespace Go.Proofs.YtmpaflidennnoaaGreatDoor
open Go.RowKit Go.Shelf
theorem ZlI {s t:ByteArray} (h:ZY s.data.toList=false):okP s t=false:=by unfold okP;rw[h];rfl
theorem ZkO {s t:ByteArray} (h:ZY t.data.toList=false):okP s t=false:=by unfold okP;rw[h,Bool.and_false];rfl
theorem ZlN {s t:ByteArray} (h:Zg t.data.toList=0):okP s t=false:=by unfold okP;rw[h];simp
theorem ZjG {s t:ByteArray} (h:Nat.gcd (Zg s.data.toList) (Zg t.data.toList)≠1):okP s t=false:=by unfold okP;simp[h]
theorem Zml {s t:ByteArray} (h1:ZY s.data.toList=true) (h2:ZY t.data.toList=true) (h3:Zg t.data.toList≠0) (h4:Nat.gcd (Zg s.data.toList) (Zg t.data.toList)=1):okP s t=true:=
 Zfb.2 ⟨h1,h2,by omega,h4⟩
def okE (s t:ByteArray):Int:=if okP s t then 0 else 2
theorem Zbv {s t:ByteArray} (h:okP s t=false):okE s t=2:=by unfold okE;rw[h];rfl
theorem Zb8 {s t:ByteArray} (h:okP s t=true):okE s t=0:=by unfold okE;rw[h];rfl
theorem Zid {t:ByteArray} (h:ZY t.data.toList=true):t=⟨#[48]⟩↔Zg t.data.toList=0:=by
 constructor
 ·rintro rfl;rfl
 ·intro h0
  have h1:=(Z6 h).1.text
  rw[h0,ZbS] at h1
  have h2:=Zbi t
  rw[← h1] at h2
  exact h2.symm
theorem Zay (s t:ByteArray) (w:World) (hs:s.size≤1000000) (ht:t.size≤1000000) :
  Calls Tryz.prog 66 #[.agg #[.string s,.string t]] w (ZjK w (okE s t)):=by
 cases h1:ZY s.data.toList
 ·have HQ:=Lib.hid (ZlI (t:=t) h1)
  have H1:=Lib.hid h1
  clear h1
  go_enter Tryz.func66,Tryz.ntmps66
  go_wp2_with fail
  refine(Zao s _ hs).mono ?_
  rintro e w2 ⟨rfl,hb2⟩
  rw[H1.out]
  have HB2:=Lib.hid (((Below.refl _ w).alloc (Nat.le_refl _) (.cells #[.string s,.string t] 41)).trans (hb2.mono (by simp)))
  clear hb2
  go_wp2
  go_ret
  exact⟨by rw[Zbv HQ.out];rfl,HB2.out⟩
 ·have H1:=Lib.hid h1
  clear h1
  cases h2:ZY t.data.toList
  ·have HQ:=Lib.hid (ZkO (s:=s) h2)
   have H2:=Lib.hid h2
   clear h2
   go_enter Tryz.func66,Tryz.ntmps66
   go_wp2_with fail
   refine(Zao s _ hs).mono ?_
   rintro e w2 ⟨rfl,hb2⟩
   rw[H1.out]
   have HX2:=Lib.hid ((Zk.one w _).below hb2 (by simp))
   have HB2:=Lib.hid (((Below.refl _ w).alloc (Nat.le_refl _) (.cells #[.string s,.string t] 41)).trans (hb2.mono (by simp)))
   clear hb2
   have c1:=HX2.out.cell 0 1 (b:=w.heap.size) rfl rfl rfl
   go_wp2_with fail
   refine(Zao t _ ht).mono ?_
   rintro e w3 ⟨rfl,hb3⟩
   rw[H2.out]
   have HB3:=Lib.hid (HB2.out.trans (hb3.mono HB2.out.size))
   clear hb3 c1
   go_wp2
   go_ret
   exact⟨by rw[Zbv HQ.out];rfl,HB3.out⟩
  ·have HZ:=Lib.hid (Zid h2)
   have H2:=Lib.hid h2
   clear h2
   go_enter Tryz.func66,Tryz.ntmps66
   go_wp2_with fail
   refine(Zao s _ hs).mono ?_
   rintro e w2 ⟨rfl,hb2⟩
   rw[H1.out]
   have HX2:=Lib.hid ((Zk.one w _).below hb2 (by simp))
   have HB2:=Lib.hid (((Below.refl _ w).alloc (Nat.le_refl _) (.cells #[.string s,.string t] 41)).trans (hb2.mono (by simp)))
   clear hb2
   have c1:=HX2.out.cell 0 1 (b:=w.heap.size) rfl rfl rfl
   go_wp2_with fail
   refine(Zao t _ ht).mono ?_
   rintro e w3 ⟨rfl,hb3⟩
   rw[H2.out]
   have HX3:=Lib.hid (HX2.out.below hb3 HX2.out.lt)
   have HB3:=Lib.hid (HB2.out.trans (hb3.mono HB2.out.size))
   clear hb3 c1
   have d0:=HX3.out.cell 0 0 (b:=w.heap.size) rfl rfl rfl
   have d1:=HX3.out.cell 0 1 (b:=w.heap.size) rfl rfl rfl
   have dl:t.toList=t.data.toList:=ByteArray.toList_eq ..
   by_cases h0:Zg t.data.toList=0
   ·have hz:(t.toList==[48])=true:=by
     rw[dl,HZ.out.2 h0];rfl
    have HQ:=Lib.hid (ZlN (s:=s) h0)
    clear h0 dl
    go_wp2
    go_ret
    exact⟨by rw[Zbv HQ.out];rfl,HB3.out⟩
   ·have hz:(t.toList==[48])=false:=by
     rw[beq_eq_false_iff_ne,dl]
     intro hc
     refine h0 (HZ.out.1 ?_)
     rw[← Zbi t,hc];rfl
    have H0:=Lib.hid h0
    clear h0 dl
    obtain⟨cs1,cs2⟩:=Z6 H1.out
    obtain⟨ct1,ct2⟩:=Z6 H2.out
    have hls:=ZbG cs1.dig (j:=70) (by rw[← Zs];omega)
    have hlt:=ZbG ct1.dig (j:=70) (by rw[← Zs];omega)
    have HDS:=Lib.hid cs1.dig
    have HDT:=Lib.hid ct1.dig
    clear cs1 cs2 ct1 ct2
    go_wp2_with fail
    refine(ZcR s t hs ht HDS.out HDT.out _).mono ?_
    rintro e w4 ⟨vn,vd,rfl,hN,hD,hb4⟩
    obtain⟨pn,ln,cn,rfl⟩:=hN.form'
    obtain⟨pd,ld,cd,rfl⟩:=hD.form'
    have HN:=Lib.hid hN
    have HD:=Lib.hid hD
    have HB4:=Lib.hid (HB3.out.trans (hb4.mono HB3.out.size))
    clear hN hD hb4 d0 d1
    go_wp2_with fail
    obtain⟨g,hg⟩:∃ g,Nat.gcd (Zg s.data.toList) (Zg t.data.toList)=g:=⟨_,rfl⟩
    have hal:=(Below.refl w4.heap.size w4).alloc (Nat.le_refl _) (.cells #[.slice pn ln cn,.slice pd ld cd] 112)
    have hgc:=Zjv (HN.out.after hal (Nat.le_refl _)) (HD.out.after hal (Nat.le_refl _)) (by omega) (by omega)
    rw[hg] at hgc
    have HG:=Lib.hid hg
    refine hgc.mono ?_
    rintro e w5 ⟨vg,rfl,hG,hb5⟩
    obtain⟨pg,cg,hv,_,_,hp⟩:=id hG
    have HB5:=Lib.hid (HB4.out.trans ((hal.trans (hb5.mono (by simp))).mono HB4.out.size))
    obtain⟨lg,hlg⟩:∃ l,(Zd 1000000000 g).length=l:=⟨_,rfl⟩
    rw[hlg] at hv
    subst hv
    have HP:=Lib.hid hp
    have HLG:=Lib.hid hlg
    clear hgc hG hb5 hal hp hlg hg
    by_cases h1:lg=1
    ·have hb1:((lg:Int) !=1)=false:=by rw[bne_eq_false_iff_eq];omega
     have hx:∃ b off x,pg=some ⟨b,off,none⟩∧w5.cell? ⟨b,off,none⟩=some (.int .u64 (x:Nat))∧Zd 1000000000 g=[x]:=by
      have h2:=HLG.out
      rw[h1] at h2
      obtain⟨x,hx⟩:=List.length_eq_one_iff.1 h2
      obtain⟨b,off,rfl,_,ha⟩:=HP.out (by rw[hx];simp)
      have h3:=ha.getD (j:=0) (x:=x) (by rw[hx];simp) (by rw[hx];rfl)
      exact⟨b,off,x,rfl,h3,hx⟩
     obtain⟨b,off,x,rfl,hc,hx⟩:=hx
     have HXL:=Lib.hid hx
     have HV:Hid (x=g):=by
      show _=_
      have:=Zr (B:=1000000000) (by omega) g
      rw[hx] at this
      simpa[val] using this
     subst h1
     clear hx
     by_cases h2:x=1
     ·have hb2:((x:Int) !=1)=false:=by rw[bne_eq_false_iff_eq];omega
      have HQ:Hid (okE s t=0):=Zb8 (Zml H1.out H2.out H0.out (by rw[HG.out,← HV.out];exact h2))
      clear h2
      go_wp2
      go_ret
      exact⟨by rw[HQ.out];rfl,HB5.out⟩
     ·have hb2:((x:Int) !=1)=true:=by rw[bne_iff_ne];omega
      have HQ:Hid (okE s t=2):=Zbv (ZjG (by rw[HG.out,← HV.out];exact h2))
      clear h2
      go_wp2
      go_ret
      exact⟨by rw[HQ.out];rfl,HB5.out⟩
    ·have hb1:((lg:Int) !=1)=true:=by rw[bne_iff_ne];omega
     have HQ:Hid (okE s t=2):=by
      refine Zbv (ZjG ?_)
      rw[HG.out]
      intro hc
      refine h1 ?_
      rw[← HLG.out,hc,Za7 (by omega) (by omega),ZF];rfl
     clear h1
     go_wp2
     go_ret
     exact⟨by rw[HQ.out];rfl,HB5.out⟩
end Go.Proofs.YtmpaflidennnoaaGreatDoor
namespace Go.Proofs.YtmpaflidennnoaaGreatDoor
open Go.RowKit
theorem ZlD {k:IntKind} {w:World} {b off:Nat} {xs:List Nat} (h:At k w b off xs):∀ j u,(xs.map fun x:Nat=>Value.int k (x:Nat))[j]?=some u→w.cell? ((⟨b,off,none⟩:Addr).add j)=some u:=by
 intro j u hu
 have hj:j<xs.length:=by
  have:=(List.getElem?_eq_some_iff.1 hu).1
  simpa using this
 rw[Addr.add_lit,h j hj,← hu]
 simp[hj]
theorem Zh3 (k:IntKind) (xs:List Nat):∀ u ∈ xs.map (fun x:Nat=>Value.int k (x:Nat)),u.oneCell'=true:=by
 intro u hu
 obtain⟨x,_,rfl⟩:=List.mem_map.1 hu
 rfl
theorem Zkd (b off cap:Nat) (xs:List Nat) (w:World) (hne:0<xs.length) (hl:xs.length≤1000000) (hb:b<w.heap.size) (hc:At .u64 w b off xs) :
  Calls Tryz.prog 201 #[.slice (some ⟨b,off,none⟩) xs.length cap] w fun e w'=>
   ∃ g cap',e=.returned (.slice (some ⟨g,0,none⟩) xs.length cap')∧Row .u64 158 w' w.heap.size g cap' xs∧Below w.heap.size w w':=by
 obtain⟨i0,hi,hz0,hz1,hz2⟩:=info_parts Zb2
 have heq:=fun(w:World)=>Lib.run_eql_slice_nil (P:=Tryz.prog) w 110 158 (some ⟨b,off,none⟩) xs.length cap 0 0 Tryz.underlying110
 have HC:=Lib.hid hc
 clear hc
 go_enter Tryz.func201,Tryz.ntmps201
 go_wp2_with (at_builtin;refine wpList_append_lies _ rfl (.tmp 5) (.tmp 6) 110 rfl w.heap.size 158 i0 (.int .u64 0) 1 8 Tryz.underlying110 hi hz0 hz1 hz2 rfl (by decide) _ 0 [] rfl (World.ownsRow_lit w #[] 0 (Nat.le_refl _) (by simp[maxLen]) rfl) ⟨b,off,none⟩ xs.length cap _ rfl (by simp) (ZlD (HC.out.below ((Below.refl w.heap.size w).alloc (Nat.le_refl _) _) hb)) (Zh3 _ _) hne (by unfold maxLen;omega) (by omega) (by simp) (w.heap.size+1) (by simp) ?_;intro g cap' w1 hown1 hgrow1 hat1 hlt1)
 have h0:0+xs.length=xs.length:=by omega
 rw[h0] at hown1
 have HR:=Lib.hid hown1
 have HB:=Lib.hid (((Below.refl w.heap.size w).alloc (Nat.le_refl _) (.cells #[] 158)).grown hgrow1 (by simp) (fun k h=>by cases h;exact Nat.le_refl _))
 clear hown1 hgrow1 hat1
 go_wp2
 go_ret
 exact⟨g,cap',rfl,by have:=HR.out;simpa[Row] using this,HB.out⟩
theorem Zjd (p:Option Addr) (cap:Nat) (w:World) :
  Calls Tryz.prog 201 #[.slice p 0 cap] w fun e w'=>
   ∃ q,e=.returned (.slice q 0 0)∧Below w.heap.size w w':=by
 obtain⟨i0,hi,hz0,hz1,hz2⟩:=info_parts Zb2
 rcases p with _ | ad
 ·have heq:=fun(w:World)=>Lib.run_eql_slice_nil (P:=Tryz.prog) w 110 158 none 0 cap 0 0 Tryz.underlying110
  go_enter Tryz.func201,Tryz.ntmps201
  go_wp2
  go_ret
  exact⟨_,rfl,Below.refl _ _⟩
 ·have heq:=fun(w:World)=>Lib.run_eql_slice_nil (P:=Tryz.prog) w 110 158 (some ad) 0 cap 0 0 Tryz.underlying110
  go_enter Tryz.func201,Tryz.ntmps201
  go_wp2_with (at_builtin;refine wpList_append_fits _ rfl (.tmp 5) (.tmp 6) 110 rfl w.heap.size 158 i0 1 Tryz.underlying110 hi hz1 w.heap.size 0 0 [] rfl (World.ownsRow_lit w #[] 0 (Nat.le_refl _) (by simp[maxLen]) rfl) ad 0 cap [] rfl (by simp) (by simp) (by simp) (by omega) ?_;intro w1 hown1 hgrow1)
  have HB:=Lib.hid (((Below.refl w.heap.size w).alloc (Nat.le_refl _) (.cells #[] 158)).grown hgrow1 (by simp) (fun k h=>by cases h;exact Nat.le_refl _))
  clear hown1 hgrow1
  go_wp2
  go_ret
  exact⟨_,rfl,HB.out⟩
theorem Zlc {v1 v2:Value} {n m:Nat} {w:World} (h1:Num w v1 n) (h2:Num w v2 m) (hmn:m≤n) (hl1:(Zd 1000000000 n).length≤1000000) :
  Calls Tryz.prog 155 #[v1,v2] w fun e w'=>∃ v,e=.returned v∧Num w' v (n-m)∧Below w.heap.size w w':=by
 have hlm:=ZU (B:=1000000000) (by omega) hmn
 obtain⟨p1,c1,rfl,hc1,hc1m,hp1⟩:=h1
 obtain⟨p2,c2,rfl,_,_,hp2⟩:=h2
 obtain⟨xs,hxs⟩:∃ xs,Zd 1000000000 n=xs:=⟨_,rfl⟩
 obtain⟨ys,hys⟩:∃ ys,Zd 1000000000 m=ys:=⟨_,rfl⟩
 rw[hxs] at hl1 hp1 hc1 hlm ⊢
 rw[hys] at hp2 hlm ⊢
 have HX:Hid (∀ x ∈ xs,x<1000000000):=by rw[← hxs];exact Zz (by omega) n
 have HY:Hid (∀ x ∈ ys,x<1000000000):=by rw[← hys];exact Zz (by omega) m
 have HV:Hid (val 1000000000 xs=n∧val 1000000000 ys=m):=by rw[← hxs,← hys];exact⟨Zr (by omega) n,Zr (by omega) m⟩
 have HP2:=Lib.hid hp2
 clear hxs hys hp2
 rcases Nat.eq_zero_or_pos xs.length with h0 | h0
 ·have hn:n=0:=by rw[← HV.out.1,List.eq_nil_of_length_eq_zero h0];rfl
  have hy0:ys.length=0:=by omega
  rw[h0] at hc1 ⊢
  go_enter Tryz.func155,Tryz.ntmps155
  go_wp2_with fail
  refine(Zjd p1 c1 w).mono ?_
  rintro e w0 ⟨q,rfl,HB0⟩
  have HB0:=Lib.hid HB0
  go_wp2_with fail
  go_loopw [6,13] (fun bb i wr=>i=.int .i64 0∧Hid (Below w.heap.size w wr)) (fun _ i _=>(intOf i).toNat)
  case atStart=>exact⟨rfl,HB0⟩
  case round=>
   obtain⟨rfl,HB⟩:=hrel
   go_wp2_with fail
   refine(Zc5 q 0 [] _ (by simp) (by simp[maxLen]) (by simp) (by simp)).mono ?_
   rintro e w' ⟨rfl,rfl⟩
   go_wp2
   go_ret
   refine⟨_,rfl,?_,HB.out⟩
   subst hn
   have e0:Zd 1000000000 (0-m)=[]:=by rw[Nat.zero_sub,ZF]
   unfold Num
   rw[e0]
   exact⟨q,0,by simp[val,ZF],by simp,by simp[maxLen],by simp⟩
 ·obtain⟨b1,off1,rfl,hb1,ha1⟩:=hp1 (List.ne_nil_of_length_pos h0)
  go_enter Tryz.func155,Tryz.ntmps155
  go_wp2_with fail
  refine(Zkd b1 off1 c1 xs w h0 hl1 hb1 ha1).mono ?_
  rintro e w0 ⟨g,cap,rfl,HR0,HB0⟩
  have HG:Hid (w.heap.size≤g):=HR0.lt.1
  have HR0:=Lib.hid HR0
  have HB0:=Lib.hid HB0
  go_wp2
  go_loopw [6,13] (fun bb i wr=>∃ (k:Nat) (os:List Nat) (b:Nat),k≤xs.length∧i=.int .i64 k∧bb=.int .u64 b∧
    Hid (MinusInv 1000000000 xs ys k os b)∧Hid (Row .u64 158 wr w.heap.size g cap (([]:List Nat)++(os++xs.drop k)++[]))∧Hid (Below w.heap.size w wr)) (fun _ i _=>xs.length-(intOf i).toNat)
  case atStart=>exact⟨0,[],0,Nat.zero_le _,rfl,rfl,MinusInv.start _ _ _,by simpa using HR0,HB0⟩
  case round=>
   obtain⟨k,os,bw,hk,rfl,rfl,HI,HR,HB⟩:=hrel
   have hbw:=HI.out.borrow
   by_cases hlt:k<xs.length
   ·obtain⟨p,hp⟩:∃ p,xs.getD k 0=p:=⟨_,rfl⟩
    have hpl:p<1000000000:=by rw[← hp];exact ZE (by omega) HX.out k
    have hd:xs.drop k=p::xs.drop (k+1):=by rw[List.drop_eq_getElem_cons hlt];subst hp;simp[List.getD,hlt]
    have HR1:Hid (Row .u64 158 wr w.heap.size g cap (([]:List Nat)++(os++p::xs.drop (k+1))++[])):=by have:=HR.out;rw[hd] at this;exact this
    have hidx:k=([]:List Nat).length+os.length:=by rw[HI.out.len];simp
    have cp:wr.cell? ⟨g,k,none⟩=some (.int .u64 (p:Nat)):=HR1.out.cell (by rw[hidx];exact ZgX _ _ _ _ _) (ZfF _ _ _ _ _ _ hidx)
    have fp:wr.frozen? ⟨g,k,none⟩=false:=HR1.out.frozen _
    have HIX:=Lib.hid hidx
    have Hp:=Lib.hid hp
    clear hp hd hidx HR
    by_cases hlt2:k<ys.length
    ·obtain⟨b2,off2,rfl,hb2,ha2⟩:=HP2.out (List.ne_nil_of_length_pos (by omega))
     obtain⟨y,hy⟩:∃ y,ys.getD k 0=y:=⟨_,rfl⟩
     have hyl:y<1000000000:=by rw[← hy];exact ZE (by omega) HY.out k
     have cy:wr.cell? ⟨b2,off2+k,none⟩=some (.int .u64 (y:Nat)):=(HB.out.cell (p:=⟨b2,off2+k,none⟩) hb2).trans (ha2.getD hlt2 hy)
     have Hy:=Lib.hid hy
     clear hy ha2
     by_cases hlt3:p<bw+y
     ·have hlt3':(p:Int)<(bw:Int)+y:=by omega
      have E1:Hid ((p:Int)+1000000000-((bw:Int)+y)=(p+1000000000-(bw+y):Nat)):=by show _=_;omega
      have HS:=HI.out.step_borrow (by omega) HY.out (less:=bw+y) (by have h:=Hy.out;omega) (by rw[Hp.out];exact hlt3)
      rw[Hp.out] at HS
      have HS:=Lib.hid HS
      clear hlt3
      go_wp2
      go_roundw
      case rel=>exact⟨k+1,_,1,by omega,by go_num,rfl,HS,Zei HR1.out HIX.out (n:=p+1000000000) (by omega) E1.out,(HB.out.setCell HG.out _).setCell HG.out _⟩
      case measure=>simp[intOf];omega
     ·have hlt3':¬ (p:Int)<(bw:Int)+y:=by omega
      have E1:Hid ((p:Int)-((bw:Int)+y)=(p-(bw+y):Nat)):=by show _=_;omega
      have HS:=HI.out.step_plain HX.out (by omega) (less:=bw+y) (by have h:=Hy.out;omega) (by rw[Hp.out];omega)
      rw[Hp.out] at HS
      have HS:=Lib.hid HS
      clear hlt3
      go_wp2
      go_roundw
      case rel=>exact⟨k+1,_,0,by omega,by go_num,rfl,HS,ZbB HR1.out HIX.out E1.out,HB.out.setCell HG.out _⟩
      case measure=>simp[intOf];omega
    ·have Hy:Hid (ys.getD k 0=0):=by show _=_;simp[List.getD,hlt2]
     by_cases hlt3:p<bw
     ·have hlt3':(p:Int)<(bw:Int):=by omega
      have E1:Hid ((p:Int)+1000000000-((bw:Int))=(p+1000000000-(bw):Nat)):=by show _=_;omega
      have HS:=HI.out.step_borrow (by omega) HY.out (less:=bw) (by have h:=Hy.out;omega) (by rw[Hp.out];exact hlt3)
      rw[Hp.out] at HS
      have HS:=Lib.hid HS
      clear hlt3
      go_wp2
      go_roundw
      case rel=>exact⟨k+1,_,1,by omega,by go_num,rfl,HS,Zei HR1.out HIX.out (n:=p+1000000000) (by omega) E1.out,(HB.out.setCell HG.out _).setCell HG.out _⟩
      case measure=>simp[intOf];omega
     ·have hlt3':¬ (p:Int)<(bw:Int):=by omega
      have E1:Hid ((p:Int)-((bw:Int))=(p-(bw):Nat)):=by show _=_;omega
      have HS:=HI.out.step_plain HX.out (by omega) (less:=bw) (by have h:=Hy.out;omega) (by rw[Hp.out];omega)
      rw[Hp.out] at HS
      have HS:=Lib.hid HS
      clear hlt3
      go_wp2
      go_roundw
      case rel=>exact⟨k+1,_,0,by omega,by go_num,rfl,HS,ZbB HR1.out HIX.out E1.out,HB.out.setCell HG.out _⟩
      case measure=>simp[intOf];omega
   ·obtain rfl:k=xs.length:=by omega
    have HR2:Hid (Row .u64 158 wr w.heap.size g cap os):=by have:=HR.out;show Row _ _ _ _ _ _ _;simpa using this
    have HL:Hid (∀ z ∈ os,z<1000000000):=HI.out.lt
    have HD:Hid (val 1000000000 os=n-m):=by show _=_;rw[HI.out.done hlm (by rw[HV.out.1,HV.out.2];exact hmn),HV.out.1,HV.out.2]
    go_wp2_with fail
    refine(Zb1 HR2.out HL.out _ HI.out.len.symm _ HD.out).mono ?_
    rintro e w' ⟨rfl,rfl,hr2⟩
    have HR3:=Lib.hid hr2
    clear hr2
    go_wp2
    go_ret
    exact⟨_,rfl,HR3.out.nums,HB.out⟩
end Go.Proofs.YtmpaflidennnoaaGreatDoor
namespace Go.Proofs.YtmpaflidennnoaaGreatDoor
open Go.RowKit Go.Shelf
attribute [local go_sem ↓] Go.wp_at_zero Go.wp_at_succ
theorem Z9 {v1 v2:Value} {n m:Nat} {w:World} (h1:Num w v1 n) (h2:Num w v2 m) (l1:(Zd 1000000000 n).length≤1000) (l2:(Zd 1000000000 m).length≤1000) :
  Calls Tryz.prog 68 #[v1,v2] w (ZdM w (n*m)):=by
 refine(Zey h1 h2 (by omega) (by omega)).mono ?_
 rintro e w' ⟨v,rfl,h,hb⟩
 exact⟨v,rfl,h.num,hb⟩
theorem ZlR {v1 v2:Value} {n m:Nat} {w:World} (h1:Num w v1 n) (h2:Num w v2 m) (l1:(Zd 1000000000 n).length≤100000) (l2:(Zd 1000000000 m).length≤100000) :
  Calls Tryz.prog 100 #[v1,v2] w (ZdM w (n+m)):=by
 refine(ZlL h1 h2 (by omega) (by omega)).mono ?_
 rintro e w' ⟨v,rfl,h,hb⟩
 exact⟨v,rfl,h.num,hb⟩
theorem ZkI {v1 v2:Value} {n m:Nat} {w:World} (h1:Num w v1 n) (h2:Num w v2 m) (hmn:m≤n) (l1:(Zd 1000000000 n).length≤100000) :
  Calls Tryz.prog 155 #[v1,v2] w (ZdM w (n-m)):=Zlc h1 h2 hmn (by omega)
theorem ZfK {n m k l:Nat} (h1:(Zd 1000000000 n).length≤k) (h2:(Zd 1000000000 m).length≤l):(Zd 1000000000 (n*m)).length≤k+l:=by
 refine Zah (by omega) ?_
 have a1:=ZS (Zz (B:=1000000000) (by omega) n)
 have a2:=ZS (Zz (B:=1000000000) (by omega) m)
 rw[Zr (by omega)] at a1 a2
 rw[Nat.pow_add]
 refine Nat.mul_lt_mul'' (Nat.lt_of_lt_of_le a1 (Nat.pow_le_pow_right (by omega) h1)) (Nat.lt_of_lt_of_le a2 (Nat.pow_le_pow_right (by omega) h2))
theorem Zbu {n m:Nat} (h1:(Zd 1000000000 n).length≤1000) (h2:(Zd 1000000000 m).length≤1000):(Zd 1000000000 (n*m)).length≤100000:=Nat.le_trans (ZfK h1 h2) (by omega)
theorem Zl6 {v1 v2 v3 v4:Value} {n1 d1 n2 d2:Nat} {w:World} (h1:Num w v1 n1) (h2:Num w v2 d1) (h3:Num w v3 n2) (h4:Num w v4 d2)
  (l1:(Zd 1000000000 n1).length≤1000) (l2:(Zd 1000000000 d1).length≤1000) (l3:(Zd 1000000000 n2).length≤1000) (l4:(Zd 1000000000 d2).length≤1000) (hd1:0<d1) (hd2:0<d2) (hT:Tabs w) :
  Calls Tryz.prog 167 #[.agg #[v1,v2],.agg #[v3,v4]] w (Zx (Ans (mkRat ((n1*n2:Nat):Int) (d1*d2))) w):=by
 obtain⟨p1,m1,c1,rfl⟩:=h1.form'
 obtain⟨p2,m2,c2,rfl⟩:=h2.form'
 obtain⟨p3,m3,c3,rfl⟩:=h3.form'
 obtain⟨p4,m4,c4,rfl⟩:=h4.form'
 have H1:=Lib.hid h1
 have H2:=Lib.hid h2
 have H3:=Lib.hid h3
 have H4:=Lib.hid h4
 have HT:=Lib.hid hT
 clear h1 h2 h3 h4 hT
 have HL1:Hid ((Zd 1000000000 (n1*n2)).length≤100000):=Zbu l1 l3
 have HL2:Hid ((Zd 1000000000 (d1*d2)).length≤100000):=Zbu l2 l4
 have HD:Hid (0<d1*d2):=Nat.mul_pos hd1 hd2
 go_enter Tryz.func167,Tryz.ntmps167
 go_wp2_with fail
 obtain⟨w1,hw1⟩:∃ w1,((w.alloc (.cells #[.slice p1 m1 c1,.slice p2 m2 c2] 112)).alloc (.cells #[.slice p3 m3 c3,.slice p4 m4 c4] 112)).alloc (.cells #[.string ⟨#[]⟩,.string ⟨#[]⟩] 41)=w1:=⟨_,rfl⟩
 rw[hw1]
 have HX1:Hid (Zk w.heap.size [.cells #[.slice p1 m1 c1,.slice p2 m2 c2] 112,.cells #[.slice p3 m3 c3,.slice p4 m4 c4] 112,.cells #[.string ⟨#[]⟩,.string ⟨#[]⟩] 41] w1):=by rw[← hw1];exact Zk.three w _ _ _
 have HB1:Hid (Below w.heap.size w w1):=by rw[← hw1];exact(((Below.refl _ w).alloc (Nat.le_refl _) _).alloc (by simp) _).alloc (by simp<;>omega) _
 clear hw1
 have ka1:=HX1.out.cell 0 0 (b:=w.heap.size) rfl rfl rfl
 have kb1:=HX1.out.cell 0 1 (b:=w.heap.size) rfl rfl rfl
 have kc1:=HX1.out.cell 1 0 (b:=w.heap.size+1) rfl rfl rfl
 have kd1:=HX1.out.cell 1 1 (b:=w.heap.size+1) rfl rfl rfl
 go_region_held3
  (fun w'=>w'.cell? ⟨w.heap.size,0,none⟩=some (.slice p1 m1 c1)∧w'.cell? ⟨w.heap.size,1,none⟩=some (.slice p2 m2 c2)∧w'.cell? ⟨w.heap.size+1,0,none⟩=some (.slice p3 m3 c3)∧w'.cell? ⟨w.heap.size+1,1,none⟩=some (.slice p4 m4 c4))
  (first | exact⟨ka1,kb1,kc1,kd1⟩ | exact⟨ka2,kb2,kc2,kd2⟩ | exact⟨ka3,kb3,kc3,kd3⟩ | exact⟨ka4,kb4,kc4,kd4⟩ | exact⟨ka5,kb5,kc5,kd5⟩ | exact⟨ka6,kb6,kc6,kd6⟩ | exact⟨(Zy _ _ _ (by omega) _).trans ka9,(Zy _ _ _ (by omega) _).trans kb9,(Zy _ _ _ (by omega) _).trans kc9,(Zy _ _ _ (by omega) _).trans kd9⟩ | exact⟨ka9,kb9,kc9,kd9⟩)
  (first
   | (go_at_call_of 68 (Value.slice p1 m1 c1);refine(Z9 (H1.out.after HB1.out.drew (Nat.le_refl _)) (H3.out.after HB1.out.drew (Nat.le_refl _)) l1 l3).mono ?_;rintro e w4 ⟨va,rfl,hv,hb⟩;obtain⟨pa,ma,ca,rfl⟩:=hv.form';have HA:=Lib.hid hv;have HX4:=Lib.hid (HX1.out.drew.below hb HX1.out.lt);have HB4:Hid (Below w.heap.size w w4):=HB1.out.drew.trans (hb.mono HB1.out.drew.size);have ka4:=HX4.out.cell 0 0 (b:=w.heap.size) rfl rfl rfl;have kb4:=HX4.out.cell 0 1 (b:=w.heap.size) rfl rfl rfl;have kc4:=HX4.out.cell 1 0 (b:=w.heap.size+1) rfl rfl rfl;have kd4:=HX4.out.cell 1 1 (b:=w.heap.size+1) rfl rfl rfl;clear hv hb)
   | (go_at_call_of 68 (Value.slice p2 m2 c2);refine(Z9 (H2.out.after HB4.out (Nat.le_refl _)) (H4.out.after HB4.out (Nat.le_refl _)) l2 l4).mono ?_;rintro e w5 ⟨vb,rfl,hv,hb⟩;obtain⟨pb,mb,cb,rfl⟩:=hv.form';have HC:=Lib.hid hv;have HA5:=Lib.hid (HA.out.after hb (Nat.le_refl _));have HX5:=Lib.hid (HX4.out.below hb HX4.out.lt);have HB5:Hid (Below w.heap.size w w5):=HB4.out.trans (hb.mono HB4.out.size);have ka5:=HX5.out.cell 0 0 (b:=w.heap.size) rfl rfl rfl;have kb5:=HX5.out.cell 0 1 (b:=w.heap.size) rfl rfl rfl;have kc5:=HX5.out.cell 1 0 (b:=w.heap.size+1) rfl rfl rfl;have kd5:=HX5.out.cell 1 1 (b:=w.heap.size+1) rfl rfl rfl;clear hv hb)
   | (go_at_call 101;refine(Zdp HA5.out HC.out HL1.out HL2.out HD.out (HT.out.below HB5.out (Nat.le_refl _))).mono ?_;rintro e w9 ⟨x,y,n,rfl,hR,hb9⟩;have HR:=Lib.hid hR;have HX9:=Lib.hid (HX5.out.below hb9 HX5.out.lt);have HB9:Hid (Below w.heap.size w w9):=HB5.out.trans (hb9.mono HB5.out.size);have ka9:=HX9.out.cell 0 0 (b:=w.heap.size) rfl rfl rfl;have kb9:=HX9.out.cell 0 1 (b:=w.heap.size) rfl rfl rfl;have kc9:=HX9.out.cell 1 0 (b:=w.heap.size+1) rfl rfl rfl;have kd9:=HX9.out.cell 1 1 (b:=w.heap.size+1) rfl rfl rfl;have r0:=HX9.out.cell 2 0 (b:=w.heap.size+1+1) rfl rfl rfl;have r1:=HX9.out.cell 2 1 (b:=w.heap.size+1+1) rfl rfl rfl;have f0:=HX9.out.free 2 0 (b:=w.heap.size+1+1) rfl rfl;have f1:=HX9.out.free 2 1 (b:=w.heap.size+1+1) rfl rfl;clear hR hb9)
  )
 all_goals
  have q:=Zh (HX9.out.block 2 (b:=w.heap.size+1+1) rfl rfl) (.string x) (.string y)
  have HBQ:=Lib.hid (Zf HB9.out (b:=w.heap.size+1+1) (by omega) (.string x) (.string y))
  obtain⟨wz,hwz⟩:∃ wz,(w9.setCell ⟨w.heap.size+1+1,0,none⟩ (.string x)).setCell ⟨w.heap.size+1+1,1,none⟩ (.string y)=wz:=⟨_,rfl⟩
  rw[hwz] at q HBQ
  obtain⟨q0,q1⟩:=q
  rw[hwz]
  clear r0 r1 f0 f1 hwz
  go_wp2
  refine bodyPost_ret (v:=.tuple #[.agg #[.string x,.string y],.int .i64 n]) (by simp[results,Tryz.f167,go_sem,q0,q1]) rfl ⟨_,_,_,rfl,HR.out,HBQ.out⟩
theorem Zlm {v1 v2 v3 v4:Value} {n1 d1 n2 d2:Nat} {w:World} (h1:Num w v1 n1) (h2:Num w v2 d1) (h3:Num w v3 n2) (h4:Num w v4 d2)
  (l1:(Zd 1000000000 n1).length≤1000) (l2:(Zd 1000000000 d1).length≤1000) (l3:(Zd 1000000000 n2).length≤1000) (l4:(Zd 1000000000 d2).length≤1000) (hd1:0<d1) (hd2:0<d2) (hT:Tabs w) (h0:n2=0) :
  Calls Tryz.prog 205 #[.agg #[v1,v2],.agg #[v3,v4]] w (Zx (fun s t e=>s=str []∧t=str []∧e=10) w):=by
 subst h0
 obtain⟨p3,c3,rfl,_,_,_⟩:=h3
 obtain⟨p1,m1,c1,rfl⟩:=h1.form'
 obtain⟨p2,m2,c2,rfl⟩:=h2.form'
 obtain⟨p4,m4,c4,rfl⟩:=h4.form'
 rw[ZF,List.length_nil]
 obtain⟨m3,hm3⟩:∃ m,0=m:=⟨_,rfl⟩
 have hm:((m3:Nat):Int)==0:=by simp;omega
 clear h1 h2 h4
 rw[hm3]
 have HM3:=Lib.hid hm3
 clear hm3
 go_enter Tryz.func205,Tryz.ntmps205
 go_wp2_with fail
 obtain⟨w1,hw1⟩:∃ w1,((w.alloc (.cells #[.slice p1 m1 c1,.slice p2 m2 c2] 112)).alloc (.cells #[.slice p3 m3 c3,.slice p4 m4 c4] 112)).alloc (.cells #[.string ⟨#[]⟩,.string ⟨#[]⟩] 41)=w1:=⟨_,rfl⟩
 rw[hw1]
 have HX1:Hid (Zk w.heap.size [.cells #[.slice p1 m1 c1,.slice p2 m2 c2] 112,.cells #[.slice p3 m3 c3,.slice p4 m4 c4] 112,.cells #[.string ⟨#[]⟩,.string ⟨#[]⟩] 41] w1):=by rw[← hw1];exact Zk.three w _ _ _
 have HB1:Hid (Below w.heap.size w w1):=by rw[← hw1];exact(((Below.refl _ w).alloc (Nat.le_refl _) _).alloc (by simp) _).alloc (by simp<;>omega) _
 clear hw1
 have r0:=HX1.out.cell 2 0 (b:=w.heap.size+1+1) rfl rfl rfl
 have r1:=HX1.out.cell 2 1 (b:=w.heap.size+1+1) rfl rfl rfl
 refine bodyPost_ret (v:=.tuple #[.agg #[.string ⟨#[]⟩,.string ⟨#[]⟩],.int .i64 10]) (by simp[results,Tryz.f205,go_sem,r0,r1]) rfl ⟨_,_,_,rfl,?_,HB1.out⟩
 exact⟨rfl,rfl,rfl⟩
theorem ZlJ {v1 v2 v3 v4:Value} {n1 d1 n2 d2:Nat} {w:World} (h1:Num w v1 n1) (h2:Num w v2 d1) (h3:Num w v3 n2) (h4:Num w v4 d2)
  (l1:(Zd 1000000000 n1).length≤1000) (l2:(Zd 1000000000 d1).length≤1000) (l3:(Zd 1000000000 n2).length≤1000) (l4:(Zd 1000000000 d2).length≤1000) (hd1:0<d1) (hd2:0<d2) (hT:Tabs w) (h0:0<n2) :
  Calls Tryz.prog 205 #[.agg #[v1,v2],.agg #[v3,v4]] w (Zx (Ans (mkRat ((n1*d2:Nat):Int) (d1*n2))) w):=by
 obtain⟨m0,hm0⟩:∃ m,(Zd 1000000000 n2).length=m:=⟨_,rfl⟩
 have hmp:=(ZaK (B:=1000000000) (by omega)).2 h0
 obtain⟨p3,c3,rfl⟩:=h3.form
 rw[hm0] at h3 hmp l3 ⊢
 obtain⟨m3,rfl⟩:∃ m,m0=m:=⟨_,rfl⟩
 have hz:(((m0:Nat):Int)==0)=false:=by rw[beq_eq_false_iff_ne];omega
 have L3:Hid ((Zd 1000000000 n2).length≤1000):=by show _≤_;rw[hm0];exact l3
 clear hm0
 obtain⟨p1,m1,c1,rfl⟩:=h1.form'
 obtain⟨p2,m2,c2,rfl⟩:=h2.form'
 obtain⟨p4,m4,c4,rfl⟩:=h4.form'
 have H1:=Lib.hid h1
 have H2:=Lib.hid h2
 have H3:=Lib.hid h3
 have H4:=Lib.hid h4
 have HT:=Lib.hid hT
 clear h1 h2 h3 h4 hT
 obtain⟨m3,hm3⟩:∃ m,m0=m:=⟨_,rfl⟩
 subst hm3
 have HL1:Hid ((Zd 1000000000 (n1*d2)).length≤100000):=Zbu l1 l4
 have HL2:Hid ((Zd 1000000000 (d1*n2)).length≤100000):=Zbu l2 L3.out
 have HD:Hid (0<d1*n2):=Nat.mul_pos hd1 h0
 go_enter Tryz.func205,Tryz.ntmps205
 go_wp2_with fail
 obtain⟨w1,hw1⟩:∃ w1,((w.alloc (.cells #[.slice p1 m1 c1,.slice p2 m2 c2] 112)).alloc (.cells #[.slice p3 m0 c3,.slice p4 m4 c4] 112)).alloc (.cells #[.string ⟨#[]⟩,.string ⟨#[]⟩] 41)=w1:=⟨_,rfl⟩
 rw[hw1]
 have HX1:Hid (Zk w.heap.size [.cells #[.slice p1 m1 c1,.slice p2 m2 c2] 112,.cells #[.slice p3 m0 c3,.slice p4 m4 c4] 112,.cells #[.string ⟨#[]⟩,.string ⟨#[]⟩] 41] w1):=by rw[← hw1];exact Zk.three w _ _ _
 have HB1:Hid (Below w.heap.size w w1):=by rw[← hw1];exact(((Below.refl _ w).alloc (Nat.le_refl _) _).alloc (by simp) _).alloc (by simp<;>omega) _
 clear hw1
 have ka1:=HX1.out.cell 0 0 (b:=w.heap.size) rfl rfl rfl
 have kb1:=HX1.out.cell 0 1 (b:=w.heap.size) rfl rfl rfl
 have kc1:=HX1.out.cell 1 0 (b:=w.heap.size+1) rfl rfl rfl
 have kd1:=HX1.out.cell 1 1 (b:=w.heap.size+1) rfl rfl rfl
 go_wp2_with fail
 go_region_held3
  (fun w'=>w'.cell? ⟨w.heap.size,0,none⟩=some (.slice p1 m1 c1)∧w'.cell? ⟨w.heap.size,1,none⟩=some (.slice p2 m2 c2)∧w'.cell? ⟨w.heap.size+1,0,none⟩=some (.slice p3 m0 c3)∧w'.cell? ⟨w.heap.size+1,1,none⟩=some (.slice p4 m4 c4))
  (first | exact⟨ka1,kb1,kc1,kd1⟩ | exact⟨ka2,kb2,kc2,kd2⟩ | exact⟨ka3,kb3,kc3,kd3⟩ | exact⟨ka4,kb4,kc4,kd4⟩ | exact⟨ka5,kb5,kc5,kd5⟩ | exact⟨ka6,kb6,kc6,kd6⟩ | exact⟨(Zy _ _ _ (by omega) _).trans ka9,(Zy _ _ _ (by omega) _).trans kb9,(Zy _ _ _ (by omega) _).trans kc9,(Zy _ _ _ (by omega) _).trans kd9⟩ | exact⟨ka9,kb9,kc9,kd9⟩)
  (first
   | (go_at_call_of 68 (Value.slice p1 m1 c1);refine(Z9 (H1.out.after HB1.out.drew (Nat.le_refl _)) (H4.out.after HB1.out.drew (Nat.le_refl _)) l1 l4).mono ?_;rintro e w4 ⟨va,rfl,hv,hb⟩;obtain⟨pa,ma,ca,rfl⟩:=hv.form';have HA:=Lib.hid hv;have HX4:=Lib.hid (HX1.out.drew.below hb HX1.out.lt);have HB4:Hid (Below w.heap.size w w4):=HB1.out.drew.trans (hb.mono HB1.out.drew.size);have ka4:=HX4.out.cell 0 0 (b:=w.heap.size) rfl rfl rfl;have kb4:=HX4.out.cell 0 1 (b:=w.heap.size) rfl rfl rfl;have kc4:=HX4.out.cell 1 0 (b:=w.heap.size+1) rfl rfl rfl;have kd4:=HX4.out.cell 1 1 (b:=w.heap.size+1) rfl rfl rfl;clear hv hb)
   | (go_at_call_of 68 (Value.slice p2 m2 c2);refine(Z9 (H2.out.after HB4.out (Nat.le_refl _)) (H3.out.after HB4.out (Nat.le_refl _)) l2 L3.out).mono ?_;rintro e w5 ⟨vb,rfl,hv,hb⟩;obtain⟨pb,mb,cb,rfl⟩:=hv.form';have HC:=Lib.hid hv;have HA5:=Lib.hid (HA.out.after hb (Nat.le_refl _));have HX5:=Lib.hid (HX4.out.below hb HX4.out.lt);have HB5:Hid (Below w.heap.size w w5):=HB4.out.trans (hb.mono HB4.out.size);have ka5:=HX5.out.cell 0 0 (b:=w.heap.size) rfl rfl rfl;have kb5:=HX5.out.cell 0 1 (b:=w.heap.size) rfl rfl rfl;have kc5:=HX5.out.cell 1 0 (b:=w.heap.size+1) rfl rfl rfl;have kd5:=HX5.out.cell 1 1 (b:=w.heap.size+1) rfl rfl rfl;clear hv hb)
   | (go_at_call 101;refine(Zdp HA5.out HC.out HL1.out HL2.out HD.out (HT.out.below HB5.out (Nat.le_refl _))).mono ?_;rintro e w9 ⟨x,y,n,rfl,hR,hb9⟩;have HR:=Lib.hid hR;have HX9:=Lib.hid (HX5.out.below hb9 HX5.out.lt);have HB9:Hid (Below w.heap.size w w9):=HB5.out.trans (hb9.mono HB5.out.size);have ka9:=HX9.out.cell 0 0 (b:=w.heap.size) rfl rfl rfl;have kb9:=HX9.out.cell 0 1 (b:=w.heap.size) rfl rfl rfl;have kc9:=HX9.out.cell 1 0 (b:=w.heap.size+1) rfl rfl rfl;have kd9:=HX9.out.cell 1 1 (b:=w.heap.size+1) rfl rfl rfl;have r0:=HX9.out.cell 2 0 (b:=w.heap.size+1+1) rfl rfl rfl;have r1:=HX9.out.cell 2 1 (b:=w.heap.size+1+1) rfl rfl rfl;have f0:=HX9.out.free 2 0 (b:=w.heap.size+1+1) rfl rfl;have f1:=HX9.out.free 2 1 (b:=w.heap.size+1+1) rfl rfl;clear hR hb9)
  )
 all_goals
  have q:=Zh (HX9.out.block 2 (b:=w.heap.size+1+1) rfl rfl) (.string x) (.string y)
  have HBQ:=Lib.hid (Zf HB9.out (b:=w.heap.size+1+1) (by omega) (.string x) (.string y))
  obtain⟨wz,hwz⟩:∃ wz,(w9.setCell ⟨w.heap.size+1+1,0,none⟩ (.string x)).setCell ⟨w.heap.size+1+1,1,none⟩ (.string y)=wz:=⟨_,rfl⟩
  rw[hwz] at q HBQ
  obtain⟨q0,q1⟩:=q
  rw[hwz]
  clear r0 r1 f0 f1 hwz
  go_wp2
  refine bodyPost_ret (v:=.tuple #[.agg #[.string x,.string y],.int .i64 n]) (by simp[results,Tryz.f205,go_sem,q0,q1]) rfl ⟨_,_,_,rfl,HR.out,HBQ.out⟩
theorem ZmE {n m k l:Nat} (h1:(Zd 1000000000 n).length≤k) (h2:(Zd 1000000000 m).length≤l):(Zd 1000000000 (n+m)).length≤k+l+1:=by
 refine Zah (by omega) ?_
 have a1:=ZS (Zz (B:=1000000000) (by omega) n)
 have a2:=ZS (Zz (B:=1000000000) (by omega) m)
 rw[Zr (by omega)] at a1 a2
 have b1:(1000000000:Nat) ^ (Zd 1000000000 n).length≤1000000000 ^ (k+l):=Nat.pow_le_pow_right (by omega) (by omega)
 have b2:(1000000000:Nat) ^ (Zd 1000000000 m).length≤1000000000 ^ (k+l):=Nat.pow_le_pow_right (by omega) (by omega)
 rw[Nat.pow_succ]
 omega
theorem Zl2 {v1 v2 v3 v4:Value} {n1 d1 n2 d2:Nat} {w:World} (h1:Num w v1 n1) (h2:Num w v2 d1) (h3:Num w v3 n2) (h4:Num w v4 d2)
  (l1:(Zd 1000000000 n1).length≤1000) (l2:(Zd 1000000000 d1).length≤1000) (l3:(Zd 1000000000 n2).length≤1000) (l4:(Zd 1000000000 d2).length≤1000) (hd1:0<d1) (hd2:0<d2) (hT:Tabs w) :
  Calls Tryz.prog 99 #[.agg #[v1,v2],.agg #[v3,v4]] w (Zx (Ans (mkRat ((n1*d2+n2*d1:Nat):Int) (d1*d2))) w):=by
 obtain⟨p1,m1,c1,rfl⟩:=h1.form'
 obtain⟨p2,m2,c2,rfl⟩:=h2.form'
 obtain⟨p3,m3,c3,rfl⟩:=h3.form'
 obtain⟨p4,m4,c4,rfl⟩:=h4.form'
 have H1:=Lib.hid h1
 have H2:=Lib.hid h2
 have H3:=Lib.hid h3
 have H4:=Lib.hid h4
 have HT:=Lib.hid hT
 clear h1 h2 h3 h4 hT
 have M1:Hid ((Zd 1000000000 (n1*d2)).length≤2000):=Nat.le_trans (ZfK l1 l4) (by omega)
 have M2:Hid ((Zd 1000000000 (n2*d1)).length≤2000):=Nat.le_trans (ZfK l3 l2) (by omega)
 have K1:Hid ((Zd 1000000000 (n1*d2)).length≤100000):=Nat.le_trans M1.out (by omega)
 have K2:Hid ((Zd 1000000000 (n2*d1)).length≤100000):=Nat.le_trans M2.out (by omega)
 have HL1:Hid ((Zd 1000000000 (n1*d2+n2*d1)).length≤100000):=Nat.le_trans (ZmE M1.out M2.out) (by omega)
 have HL2:Hid ((Zd 1000000000 (d1*d2)).length≤100000):=Zbu l2 l4
 have HD:Hid (0<d1*d2):=Nat.mul_pos hd1 hd2
 go_enter Tryz.func99,Tryz.ntmps99
 go_wp2_with fail
 obtain⟨w1,hw1⟩:∃ w1,((w.alloc (.cells #[.slice p1 m1 c1,.slice p2 m2 c2] 112)).alloc (.cells #[.slice p3 m3 c3,.slice p4 m4 c4] 112)).alloc (.cells #[.string ⟨#[]⟩,.string ⟨#[]⟩] 41)=w1:=⟨_,rfl⟩
 rw[hw1]
 have HX1:Hid (Zk w.heap.size [.cells #[.slice p1 m1 c1,.slice p2 m2 c2] 112,.cells #[.slice p3 m3 c3,.slice p4 m4 c4] 112,.cells #[.string ⟨#[]⟩,.string ⟨#[]⟩] 41] w1):=by rw[← hw1];exact Zk.three w _ _ _
 have HB1:Hid (Below w.heap.size w w1):=by rw[← hw1];exact(((Below.refl _ w).alloc (Nat.le_refl _) _).alloc (by simp) _).alloc (by simp<;>omega) _
 clear hw1
 have ka1:=HX1.out.cell 0 0 (b:=w.heap.size) rfl rfl rfl
 have kb1:=HX1.out.cell 0 1 (b:=w.heap.size) rfl rfl rfl
 have kc1:=HX1.out.cell 1 0 (b:=w.heap.size+1) rfl rfl rfl
 have kd1:=HX1.out.cell 1 1 (b:=w.heap.size+1) rfl rfl rfl
 go_region_held3
  (fun w'=>w'.cell? ⟨w.heap.size,0,none⟩=some (.slice p1 m1 c1)∧w'.cell? ⟨w.heap.size,1,none⟩=some (.slice p2 m2 c2)∧w'.cell? ⟨w.heap.size+1,0,none⟩=some (.slice p3 m3 c3)∧w'.cell? ⟨w.heap.size+1,1,none⟩=some (.slice p4 m4 c4))
  (first | exact⟨ka1,kb1,kc1,kd1⟩ | exact⟨ka2,kb2,kc2,kd2⟩ | exact⟨ka3,kb3,kc3,kd3⟩ | exact⟨ka4,kb4,kc4,kd4⟩ | exact⟨ka5,kb5,kc5,kd5⟩ | exact⟨ka6,kb6,kc6,kd6⟩ | exact⟨(Zy _ _ _ (by omega) _).trans ka9,(Zy _ _ _ (by omega) _).trans kb9,(Zy _ _ _ (by omega) _).trans kc9,(Zy _ _ _ (by omega) _).trans kd9⟩ | exact⟨ka9,kb9,kc9,kd9⟩)
  (first
   | (go_at_call_of 68 (Value.slice p1 m1 c1);refine(Z9 (H1.out.after HB1.out.drew (Nat.le_refl _)) (H4.out.after HB1.out.drew (Nat.le_refl _)) l1 l4).mono ?_;rintro e w2 ⟨va,rfl,hv,hb⟩;obtain⟨pa,ma,ca,rfl⟩:=hv.form';have HA:=Lib.hid hv;have HX2:=Lib.hid (HX1.out.drew.below hb HX1.out.lt);have HB2:Hid (Below w.heap.size w w2):=HB1.out.drew.trans (hb.mono HB1.out.drew.size);have ka2:=HX2.out.cell 0 0 (b:=w.heap.size) rfl rfl rfl;have kb2:=HX2.out.cell 0 1 (b:=w.heap.size) rfl rfl rfl;have kc2:=HX2.out.cell 1 0 (b:=w.heap.size+1) rfl rfl rfl;have kd2:=HX2.out.cell 1 1 (b:=w.heap.size+1) rfl rfl rfl;clear hv hb)
   | (go_at_call_of 68 (Value.slice p3 m3 c3);refine(Z9 (H3.out.after HB2.out (Nat.le_refl _)) (H2.out.after HB2.out (Nat.le_refl _)) l3 l2).mono ?_;rintro e w3 ⟨vb,rfl,hv,hb⟩;obtain⟨pb,mb,cb,rfl⟩:=hv.form';have HC:=Lib.hid hv;have HA3:=Lib.hid (HA.out.after hb (Nat.le_refl _));have HX3:=Lib.hid (HX2.out.below hb HX2.out.lt);have HB3:Hid (Below w.heap.size w w3):=HB2.out.trans (hb.mono HB2.out.size);have ka3:=HX3.out.cell 0 0 (b:=w.heap.size) rfl rfl rfl;have kb3:=HX3.out.cell 0 1 (b:=w.heap.size) rfl rfl rfl;have kc3:=HX3.out.cell 1 0 (b:=w.heap.size+1) rfl rfl rfl;have kd3:=HX3.out.cell 1 1 (b:=w.heap.size+1) rfl rfl rfl;clear hv hb)
   | (go_at_call_of 100 (Value.slice pa ma ca);refine(ZlR HA3.out HC.out K1.out K2.out).mono ?_;rintro e w4 ⟨vs,rfl,hv,hb⟩;obtain⟨ps,ms,cs,rfl⟩:=hv.form';have HS:=Lib.hid hv;have HX4:=Lib.hid (HX3.out.below hb HX3.out.lt);have HB4:Hid (Below w.heap.size w w4):=HB3.out.trans (hb.mono HB3.out.size);have ka4:=HX4.out.cell 0 0 (b:=w.heap.size) rfl rfl rfl;have kb4:=HX4.out.cell 0 1 (b:=w.heap.size) rfl rfl rfl;have kc4:=HX4.out.cell 1 0 (b:=w.heap.size+1) rfl rfl rfl;have kd4:=HX4.out.cell 1 1 (b:=w.heap.size+1) rfl rfl rfl;clear hv hb)
   | (go_at_call_of 68 (Value.slice p2 m2 c2);refine(Z9 (H2.out.after HB4.out (Nat.le_refl _)) (H4.out.after HB4.out (Nat.le_refl _)) l2 l4).mono ?_;rintro e w5 ⟨vd,rfl,hv,hb⟩;obtain⟨pd,md,cd,rfl⟩:=hv.form';have HE:=Lib.hid hv;have HS5:=Lib.hid (HS.out.after hb (Nat.le_refl _));have HX5:=Lib.hid (HX4.out.below hb HX4.out.lt);have HB5:Hid (Below w.heap.size w w5):=HB4.out.trans (hb.mono HB4.out.size);have ka5:=HX5.out.cell 0 0 (b:=w.heap.size) rfl rfl rfl;have kb5:=HX5.out.cell 0 1 (b:=w.heap.size) rfl rfl rfl;have kc5:=HX5.out.cell 1 0 (b:=w.heap.size+1) rfl rfl rfl;have kd5:=HX5.out.cell 1 1 (b:=w.heap.size+1) rfl rfl rfl;clear hv hb)
   | (go_at_call 101;refine(Zdp HS5.out HE.out HL1.out HL2.out HD.out (HT.out.below HB5.out (Nat.le_refl _))).mono ?_;rintro e w9 ⟨x,y,n,rfl,hR,hb9⟩;have HR:=Lib.hid hR;have HX9:=Lib.hid (HX5.out.below hb9 HX5.out.lt);have HB9:Hid (Below w.heap.size w w9):=HB5.out.trans (hb9.mono HB5.out.size);have ka9:=HX9.out.cell 0 0 (b:=w.heap.size) rfl rfl rfl;have kb9:=HX9.out.cell 0 1 (b:=w.heap.size) rfl rfl rfl;have kc9:=HX9.out.cell 1 0 (b:=w.heap.size+1) rfl rfl rfl;have kd9:=HX9.out.cell 1 1 (b:=w.heap.size+1) rfl rfl rfl;have r0:=HX9.out.cell 2 0 (b:=w.heap.size+1+1) rfl rfl rfl;have r1:=HX9.out.cell 2 1 (b:=w.heap.size+1+1) rfl rfl rfl;have f0:=HX9.out.free 2 0 (b:=w.heap.size+1+1) rfl rfl;have f1:=HX9.out.free 2 1 (b:=w.heap.size+1+1) rfl rfl;clear hR hb9)
  )
 all_goals
  have q:=Zh (HX9.out.block 2 (b:=w.heap.size+1+1) rfl rfl) (.string x) (.string y)
  have HBQ:=Lib.hid (Zf HB9.out (b:=w.heap.size+1+1) (by omega) (.string x) (.string y))
  obtain⟨wz,hwz⟩:∃ wz,(w9.setCell ⟨w.heap.size+1+1,0,none⟩ (.string x)).setCell ⟨w.heap.size+1+1,1,none⟩ (.string y)=wz:=⟨_,rfl⟩
  rw[hwz] at q HBQ
  obtain⟨q0,q1⟩:=q
  rw[hwz]
  clear r0 r1 f0 f1 hwz
  go_wp2
  refine bodyPost_ret (v:=.tuple #[.agg #[.string x,.string y],.int .i64 n]) (by simp[results,Tryz.f99,go_sem,q0,q1]) rfl ⟨_,_,_,rfl,HR.out,HBQ.out⟩
theorem Zmy {n m k:Nat} (h1:(Zd 1000000000 n).length≤k):(Zd 1000000000 (n-m)).length≤k:=Nat.le_trans (ZU (by omega) (Nat.sub_le _ _)) h1
def SubR (n1 d1 n2 d2:Nat) (s t:ByteArray) (e:Int):Prop:=
 (n1*d2<n2*d1∧s=str []∧t=str []∧e=11)∨(n2*d1≤n1*d2∧Ans (mkRat ((n1*d2-n2*d1:Nat):Int) (d1*d2)) s t e)
theorem ZlQ {v1 v2 v3 v4:Value} {n1 d1 n2 d2:Nat} {w:World} (h1:Num w v1 n1) (h2:Num w v2 d1) (h3:Num w v3 n2) (h4:Num w v4 d2)
  (l1:(Zd 1000000000 n1).length≤1000) (l2:(Zd 1000000000 d1).length≤1000) (l3:(Zd 1000000000 n2).length≤1000) (l4:(Zd 1000000000 d2).length≤1000) (hd1:0<d1) (hd2:0<d2) (hT:Tabs w) :
  Calls Tryz.prog 154 #[.agg #[v1,v2],.agg #[v3,v4]] w (Zx (SubR n1 d1 n2 d2) w):=by
 obtain⟨p1,m1,c1,rfl⟩:=h1.form'
 obtain⟨p2,m2,c2,rfl⟩:=h2.form'
 obtain⟨p3,m3,c3,rfl⟩:=h3.form'
 obtain⟨p4,m4,c4,rfl⟩:=h4.form'
 have H1:=Lib.hid h1
 have H2:=Lib.hid h2
 have H3:=Lib.hid h3
 have H4:=Lib.hid h4
 have HT:=Lib.hid hT
 clear h1 h2 h3 h4 hT
 have K1:Hid ((Zd 1000000000 (n1*d2)).length≤100000):=Zbu l1 l4
 have K2:Hid ((Zd 1000000000 (n2*d1)).length≤100000):=Zbu l3 l2
 have L1:Hid ((Zd 1000000000 (n1*d2)).length≤1000000):=Nat.le_trans K1.out (by omega)
 have L2:Hid ((Zd 1000000000 (n2*d1)).length≤1000000):=Nat.le_trans K2.out (by omega)
 have HL1:Hid ((Zd 1000000000 (n1*d2-n2*d1)).length≤100000):=Zmy K1.out
 have HL2:Hid ((Zd 1000000000 (d1*d2)).length≤100000):=Zbu l2 l4
 have HD:Hid (0<d1*d2):=Nat.mul_pos hd1 hd2
 rcases Nat.lt_or_ge (n1*d2) (n2*d1) with hlt | hge
 ·have HLT:=Lib.hid hlt
  clear hlt
  go_enter Tryz.func154,Tryz.ntmps154
  go_wp2_with fail
  obtain⟨w1,hw1⟩:∃ w1,((w.alloc (.cells #[.slice p1 m1 c1,.slice p2 m2 c2] 112)).alloc (.cells #[.slice p3 m3 c3,.slice p4 m4 c4] 112)).alloc (.cells #[.string ⟨#[]⟩,.string ⟨#[]⟩] 41)=w1:=⟨_,rfl⟩
  rw[hw1]
  have HX1:Hid (Zk w.heap.size [.cells #[.slice p1 m1 c1,.slice p2 m2 c2] 112,.cells #[.slice p3 m3 c3,.slice p4 m4 c4] 112,.cells #[.string ⟨#[]⟩,.string ⟨#[]⟩] 41] w1):=by rw[← hw1];exact Zk.three w _ _ _
  have HB1:Hid (Below w.heap.size w w1):=by rw[← hw1];exact(((Below.refl _ w).alloc (Nat.le_refl _) _).alloc (by simp) _).alloc (by simp<;>omega) _
  clear hw1
  have ka1:=HX1.out.cell 0 0 (b:=w.heap.size) rfl rfl rfl
  have kb1:=HX1.out.cell 0 1 (b:=w.heap.size) rfl rfl rfl
  have kc1:=HX1.out.cell 1 0 (b:=w.heap.size+1) rfl rfl rfl
  have kd1:=HX1.out.cell 1 1 (b:=w.heap.size+1) rfl rfl rfl
  go_region_held3
   (fun w'=>w'.cell? ⟨w.heap.size,0,none⟩=some (.slice p1 m1 c1)∧w'.cell? ⟨w.heap.size,1,none⟩=some (.slice p2 m2 c2)∧w'.cell? ⟨w.heap.size+1,0,none⟩=some (.slice p3 m3 c3)∧w'.cell? ⟨w.heap.size+1,1,none⟩=some (.slice p4 m4 c4))
   (first | exact⟨ka1,kb1,kc1,kd1⟩ | exact⟨ka2,kb2,kc2,kd2⟩ | exact⟨ka3,kb3,kc3,kd3⟩ | exact⟨ka4,kb4,kc4,kd4⟩ | exact⟨ka5,kb5,kc5,kd5⟩ | exact⟨ka6,kb6,kc6,kd6⟩ | exact⟨(Zy _ _ _ (by omega) _).trans ka9,(Zy _ _ _ (by omega) _).trans kb9,(Zy _ _ _ (by omega) _).trans kc9,(Zy _ _ _ (by omega) _).trans kd9⟩ | exact⟨ka9,kb9,kc9,kd9⟩)
   (first
    | (go_at_call_of 68 (Value.slice p1 m1 c1);refine(Z9 (H1.out.after HB1.out.drew (Nat.le_refl _)) (H4.out.after HB1.out.drew (Nat.le_refl _)) l1 l4).mono ?_;rintro e w2 ⟨va,rfl,hv,hb⟩;obtain⟨pa,ma,ca,rfl⟩:=hv.form';have HA:=Lib.hid hv;have HX2:=Lib.hid (HX1.out.drew.below hb HX1.out.lt);have HB2:Hid (Below w.heap.size w w2):=HB1.out.drew.trans (hb.mono HB1.out.drew.size);have ka2:=HX2.out.cell 0 0 (b:=w.heap.size) rfl rfl rfl;have kb2:=HX2.out.cell 0 1 (b:=w.heap.size) rfl rfl rfl;have kc2:=HX2.out.cell 1 0 (b:=w.heap.size+1) rfl rfl rfl;have kd2:=HX2.out.cell 1 1 (b:=w.heap.size+1) rfl rfl rfl;clear hv hb)
    | (go_at_call_of 68 (Value.slice p3 m3 c3);refine(Z9 (H3.out.after HB2.out (Nat.le_refl _)) (H2.out.after HB2.out (Nat.le_refl _)) l3 l2).mono ?_;rintro e w3 ⟨vb,rfl,hv,hb⟩;obtain⟨pb,mb,cb,rfl⟩:=hv.form';have HC:=Lib.hid hv;have HA3:=Lib.hid (HA.out.after hb (Nat.le_refl _));have HX3:=Lib.hid (HX2.out.below hb HX2.out.lt);have HB3:Hid (Below w.heap.size w w3):=HB2.out.trans (hb.mono HB2.out.size);have ka3:=HX3.out.cell 0 0 (b:=w.heap.size) rfl rfl rfl;have kb3:=HX3.out.cell 0 1 (b:=w.heap.size) rfl rfl rfl;have kc3:=HX3.out.cell 1 0 (b:=w.heap.size+1) rfl rfl rfl;have kd3:=HX3.out.cell 1 1 (b:=w.heap.size+1) rfl rfl rfl;clear hv hb)
   )
  go_wp2_with fail
  refine(Zbt HA3.out HC.out L1.out L2.out).mono ?_
  rintro e w4 ⟨r,rfl,hsg,hb4⟩
  have HX4:=Lib.hid (HX3.out.below hb4 HX3.out.lt)
  have HB4:=Lib.hid (HB3.out.trans (hb4.mono HB3.out.size))
  have HA4:=Lib.hid (HA3.out.after hb4 (Nat.le_refl _))
  have HC4:=Lib.hid (HC.out.after hb4 (Nat.le_refl _))
  have HSG:=Lib.hid hsg
  clear hb4 hsg ka3 kb3 kc3 kd3
  have hr:r<0:=HSG.out.1.2 HLT.out
  have r0:=HX4.out.cell 2 0 (b:=w.heap.size+1+1) rfl rfl rfl
  have r1:=HX4.out.cell 2 1 (b:=w.heap.size+1+1) rfl rfl rfl
  have f0:=HX4.out.free 2 0 (b:=w.heap.size+1+1) rfl rfl
  have f1:=HX4.out.free 2 1 (b:=w.heap.size+1+1) rfl rfl
  go_wp2
  have q:=Zh (HX4.out.block 2 (b:=w.heap.size+1+1) rfl rfl) (.string ⟨#[]⟩) (.string ⟨#[]⟩)
  have HBQ:=Lib.hid (Zf HB4.out (b:=w.heap.size+1+1) (by omega) (.string ⟨#[]⟩) (.string ⟨#[]⟩))
  obtain⟨w9,hw9⟩:∃ w9,(w4.setCell ⟨w.heap.size+1+1,0,none⟩ (.string ⟨#[]⟩)).setCell ⟨w.heap.size+1+1,1,none⟩ (.string ⟨#[]⟩)=w9:=⟨_,rfl⟩
  rw[hw9] at q HBQ
  obtain⟨q0,q1⟩:=q
  rw[hw9]
  clear r0 r1 f0 f1 hw9
  go_wp2
  refine bodyPost_ret (v:=.tuple #[.agg #[.string ⟨#[]⟩,.string ⟨#[]⟩],.int .i64 11]) (by simp[results,Tryz.f154,go_sem,q0,q1]) rfl ⟨_,_,_,rfl,?_,HBQ.out⟩
  exact .inl ⟨HLT.out,rfl,rfl,rfl⟩
 ·have HLT:=Lib.hid hge
  clear hge
  go_enter Tryz.func154,Tryz.ntmps154
  go_wp2_with fail
  obtain⟨w1,hw1⟩:∃ w1,((w.alloc (.cells #[.slice p1 m1 c1,.slice p2 m2 c2] 112)).alloc (.cells #[.slice p3 m3 c3,.slice p4 m4 c4] 112)).alloc (.cells #[.string ⟨#[]⟩,.string ⟨#[]⟩] 41)=w1:=⟨_,rfl⟩
  rw[hw1]
  have HX1:Hid (Zk w.heap.size [.cells #[.slice p1 m1 c1,.slice p2 m2 c2] 112,.cells #[.slice p3 m3 c3,.slice p4 m4 c4] 112,.cells #[.string ⟨#[]⟩,.string ⟨#[]⟩] 41] w1):=by rw[← hw1];exact Zk.three w _ _ _
  have HB1:Hid (Below w.heap.size w w1):=by rw[← hw1];exact(((Below.refl _ w).alloc (Nat.le_refl _) _).alloc (by simp) _).alloc (by simp<;>omega) _
  clear hw1
  have ka1:=HX1.out.cell 0 0 (b:=w.heap.size) rfl rfl rfl
  have kb1:=HX1.out.cell 0 1 (b:=w.heap.size) rfl rfl rfl
  have kc1:=HX1.out.cell 1 0 (b:=w.heap.size+1) rfl rfl rfl
  have kd1:=HX1.out.cell 1 1 (b:=w.heap.size+1) rfl rfl rfl
  go_region_held3
   (fun w'=>w'.cell? ⟨w.heap.size,0,none⟩=some (.slice p1 m1 c1)∧w'.cell? ⟨w.heap.size,1,none⟩=some (.slice p2 m2 c2)∧w'.cell? ⟨w.heap.size+1,0,none⟩=some (.slice p3 m3 c3)∧w'.cell? ⟨w.heap.size+1,1,none⟩=some (.slice p4 m4 c4))
   (first | exact⟨ka1,kb1,kc1,kd1⟩ | exact⟨ka2,kb2,kc2,kd2⟩ | exact⟨ka3,kb3,kc3,kd3⟩ | exact⟨ka4,kb4,kc4,kd4⟩ | exact⟨ka5,kb5,kc5,kd5⟩ | exact⟨ka6,kb6,kc6,kd6⟩ | exact⟨(Zy _ _ _ (by omega) _).trans ka9,(Zy _ _ _ (by omega) _).trans kb9,(Zy _ _ _ (by omega) _).trans kc9,(Zy _ _ _ (by omega) _).trans kd9⟩ | exact⟨ka9,kb9,kc9,kd9⟩)
   (first
    | (go_at_call_of 68 (Value.slice p1 m1 c1);refine(Z9 (H1.out.after HB1.out.drew (Nat.le_refl _)) (H4.out.after HB1.out.drew (Nat.le_refl _)) l1 l4).mono ?_;rintro e w2 ⟨va,rfl,hv,hb⟩;obtain⟨pa,ma,ca,rfl⟩:=hv.form';have HA:=Lib.hid hv;have HX2:=Lib.hid (HX1.out.drew.below hb HX1.out.lt);have HB2:Hid (Below w.heap.size w w2):=HB1.out.drew.trans (hb.mono HB1.out.drew.size);have ka2:=HX2.out.cell 0 0 (b:=w.heap.size) rfl rfl rfl;have kb2:=HX2.out.cell 0 1 (b:=w.heap.size) rfl rfl rfl;have kc2:=HX2.out.cell 1 0 (b:=w.heap.size+1) rfl rfl rfl;have kd2:=HX2.out.cell 1 1 (b:=w.heap.size+1) rfl rfl rfl;clear hv hb)
    | (go_at_call_of 68 (Value.slice p3 m3 c3);refine(Z9 (H3.out.after HB2.out (Nat.le_refl _)) (H2.out.after HB2.out (Nat.le_refl _)) l3 l2).mono ?_;rintro e w3 ⟨vb,rfl,hv,hb⟩;obtain⟨pb,mb,cb,rfl⟩:=hv.form';have HC:=Lib.hid hv;have HA3:=Lib.hid (HA.out.after hb (Nat.le_refl _));have HX3:=Lib.hid (HX2.out.below hb HX2.out.lt);have HB3:Hid (Below w.heap.size w w3):=HB2.out.trans (hb.mono HB2.out.size);have ka3:=HX3.out.cell 0 0 (b:=w.heap.size) rfl rfl rfl;have kb3:=HX3.out.cell 0 1 (b:=w.heap.size) rfl rfl rfl;have kc3:=HX3.out.cell 1 0 (b:=w.heap.size+1) rfl rfl rfl;have kd3:=HX3.out.cell 1 1 (b:=w.heap.size+1) rfl rfl rfl;clear hv hb)
   )
  go_wp2_with fail
  refine(Zbt HA3.out HC.out L1.out L2.out).mono ?_
  rintro e w4 ⟨r,rfl,hsg,hb4⟩
  have HX4:=Lib.hid (HX3.out.below hb4 HX3.out.lt)
  have HB4:=Lib.hid (HB3.out.trans (hb4.mono HB3.out.size))
  have HA4:=Lib.hid (HA3.out.after hb4 (Nat.le_refl _))
  have HC4:=Lib.hid (HC.out.after hb4 (Nat.le_refl _))
  have HSG:=Lib.hid hsg
  clear hb4 hsg ka3 kb3 kc3 kd3
  have hr:¬ r<0:=fun h=>by have h1:=HSG.out.1.1 h;have h2:=HLT.out;omega
  have ka1:=HX4.out.cell 0 0 (b:=w.heap.size) rfl rfl rfl
  have kb1:=HX4.out.cell 0 1 (b:=w.heap.size) rfl rfl rfl
  have kc1:=HX4.out.cell 1 0 (b:=w.heap.size+1) rfl rfl rfl
  have kd1:=HX4.out.cell 1 1 (b:=w.heap.size+1) rfl rfl rfl
  go_wp2_with fail
  go_region_held3
   (fun w'=>w'.cell? ⟨w.heap.size,0,none⟩=some (.slice p1 m1 c1)∧w'.cell? ⟨w.heap.size,1,none⟩=some (.slice p2 m2 c2)∧w'.cell? ⟨w.heap.size+1,0,none⟩=some (.slice p3 m3 c3)∧w'.cell? ⟨w.heap.size+1,1,none⟩=some (.slice p4 m4 c4))
   (first | exact⟨ka1,kb1,kc1,kd1⟩ | exact⟨ka2,kb2,kc2,kd2⟩ | exact⟨ka3,kb3,kc3,kd3⟩ | exact⟨ka4,kb4,kc4,kd4⟩ | exact⟨ka5,kb5,kc5,kd5⟩ | exact⟨ka6,kb6,kc6,kd6⟩ | exact⟨(Zy _ _ _ (by omega) _).trans ka9,(Zy _ _ _ (by omega) _).trans kb9,(Zy _ _ _ (by omega) _).trans kc9,(Zy _ _ _ (by omega) _).trans kd9⟩ | exact⟨ka9,kb9,kc9,kd9⟩)
   (first
    | (go_at_call_of 155 (Value.slice pa ma ca);refine(ZkI (HA4.out.after (Below.refl w4.heap.size w4).drew (Nat.le_refl _)) (HC4.out.after (Below.refl w4.heap.size w4).drew (Nat.le_refl _)) HLT.out K1.out).mono ?_;rintro e w5 ⟨vs,rfl,hv,hb⟩;obtain⟨ps,ms,cs,rfl⟩:=hv.form';have HS:=Lib.hid hv;have HX5:=Lib.hid (HX4.out.drew.below hb HX4.out.lt);have HB5:Hid (Below w.heap.size w w5):=HB4.out.drew.trans (hb.mono HB4.out.drew.size);have ka5:=HX5.out.cell 0 0 (b:=w.heap.size) rfl rfl rfl;have kb5:=HX5.out.cell 0 1 (b:=w.heap.size) rfl rfl rfl;have kc5:=HX5.out.cell 1 0 (b:=w.heap.size+1) rfl rfl rfl;have kd5:=HX5.out.cell 1 1 (b:=w.heap.size+1) rfl rfl rfl;clear hv hb)
    | (go_at_call_of 68 (Value.slice p2 m2 c2);refine(Z9 (H2.out.after HB5.out (Nat.le_refl _)) (H4.out.after HB5.out (Nat.le_refl _)) l2 l4).mono ?_;rintro e w6 ⟨vd,rfl,hv,hb⟩;obtain⟨pd,md,cd,rfl⟩:=hv.form';have HE:=Lib.hid hv;have HS6:=Lib.hid (HS.out.after hb (Nat.le_refl _));have HX6:=Lib.hid (HX5.out.below hb HX5.out.lt);have HB6:Hid (Below w.heap.size w w6):=HB5.out.trans (hb.mono HB5.out.size);have ka6:=HX6.out.cell 0 0 (b:=w.heap.size) rfl rfl rfl;have kb6:=HX6.out.cell 0 1 (b:=w.heap.size) rfl rfl rfl;have kc6:=HX6.out.cell 1 0 (b:=w.heap.size+1) rfl rfl rfl;have kd6:=HX6.out.cell 1 1 (b:=w.heap.size+1) rfl rfl rfl;clear hv hb)
    | (go_at_call 101;refine(Zdp HS6.out HE.out HL1.out HL2.out HD.out (HT.out.below HB6.out (Nat.le_refl _))).mono ?_;rintro e w9 ⟨x,y,n,rfl,hR,hb9⟩;have HR:=Lib.hid hR;have HX9:=Lib.hid (HX6.out.below hb9 HX6.out.lt);have HB9:Hid (Below w.heap.size w w9):=HB6.out.trans (hb9.mono HB6.out.size);have ka9:=HX9.out.cell 0 0 (b:=w.heap.size) rfl rfl rfl;have kb9:=HX9.out.cell 0 1 (b:=w.heap.size) rfl rfl rfl;have kc9:=HX9.out.cell 1 0 (b:=w.heap.size+1) rfl rfl rfl;have kd9:=HX9.out.cell 1 1 (b:=w.heap.size+1) rfl rfl rfl;have r0:=HX9.out.cell 2 0 (b:=w.heap.size+1+1) rfl rfl rfl;have r1:=HX9.out.cell 2 1 (b:=w.heap.size+1+1) rfl rfl rfl;have f0:=HX9.out.free 2 0 (b:=w.heap.size+1+1) rfl rfl;have f1:=HX9.out.free 2 1 (b:=w.heap.size+1+1) rfl rfl;clear hR hb9)
   )
  all_goals
   have q:=Zh (HX9.out.block 2 (b:=w.heap.size+1+1) rfl rfl) (.string x) (.string y)
   have HBQ:=Lib.hid (Zf HB9.out (b:=w.heap.size+1+1) (by omega) (.string x) (.string y))
   obtain⟨wz,hwz⟩:∃ wz,(w9.setCell ⟨w.heap.size+1+1,0,none⟩ (.string x)).setCell ⟨w.heap.size+1+1,1,none⟩ (.string y)=wz:=⟨_,rfl⟩
   rw[hwz] at q HBQ
   obtain⟨q0,q1⟩:=q
   rw[hwz]
   clear r0 r1 f0 f1 hwz
   go_wp2
   refine bodyPost_ret (v:=.tuple #[.agg #[.string x,.string y],.int .i64 n]) (by simp[results,Tryz.f154,go_sem,q0,q1]) rfl ⟨_,_,_,rfl,.inr ⟨HLT.out,HR.out⟩,HBQ.out⟩
end Go.Proofs.YtmpaflidennnoaaGreatDoor
