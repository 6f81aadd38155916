/- The parts Check, Clone, Minus, Does, Does2. -/
import Derived.Test.YtmpaflidennnoaaGreatDoorH07
import Derived.Deep.DrawnRows
set_option maxRecDepth 100000
set_option maxHeartbeats 4000000
set_option linter.unusedVariables false
set_option linter.unusedSimpArgs false
namespace Go.Proofs.YtmpaflidennnoaaGreatDoor
open Go.RowKit Go.Shelf
attribute [local go_sem ↓] Go.wp_at_zero Go.wp_at_succ
theorem ZiZ {s t:ByteArray} (h:ZW s.data.toList=false):okP s t=false:=by unfold okP;rw[h];rfl
theorem ZhG {s t:ByteArray} (h:ZW t.data.toList=false):okP s t=false:=by unfold okP;rw[h,Bool.and_false];rfl
theorem Zih {s t:ByteArray} (h:Zq t.data.toList=0):okP s t=false:=by unfold okP;rw[h];simp
theorem Zhf {s t:ByteArray} (h:Nat.gcd (Zq s.data.toList) (Zq t.data.toList)≠1):okP s t=false:=by unfold okP;simp[h]
theorem Zj0 {s t:ByteArray} (h1:ZW s.data.toList=true) (h2:ZW t.data.toList=true) (h3:Zq t.data.toList≠0) (h4:Nat.gcd (Zq s.data.toList) (Zq t.data.toList)=1):okP s t=true:=
 ZcV.2 ⟨h1,h2,Za,h4⟩
def okE (s t:ByteArray):Int:=if okP s t then 0 else 2
theorem ZaM {s t:ByteArray} (h:okP s t=false):okE s t=2:=by unfold okE;rw[h];rfl
theorem Zbg {s t:ByteArray} (h:okP s t=true):okE s t=0:=by unfold okE;rw[h];rfl
theorem ZcN {t:ByteArray} (h:ZW t.data.toList=true):t=⟨#[48]⟩<->Zq t.data.toList=0:=by
 constructor
 ·rintro rfl;rfl
 ·intro h0
  have h1:=(Zak h).1.text
  rw[h0,Zbr] at h1
  have h2:=ZaZ t
  rw[<- h1] at h2
  exact h2.symm
theorem ZaS (s t:ByteArray) (w:World) (hs:s.size<=1000000) (ht:t.size<=1000000) :
  Calls Tryz.prog 66 #[Zpb s t] w (ZfB w (okE s t)):=by
 cases h1:ZW s.data.toList
 ·have HQ:=Zpe (ZiZ (t:=t) h1)
  have H1:=Zpe h1
  clear h1
  go_enter Tryz.func66,Tryz.ntmps66
  go_wp2_with fail
  refine(ZaH s _ hs).mono ?_
  rintro e w2 ⟨rfl,hb2⟩
  rw[H1.out]
  have HB2:=Zpe (((Zoq _ w).alloc Zpf (Zpc s t)).trans (hb2.mono Zc))
  clear hb2
  go_wp2
  go_ret
  exact⟨by rw[ZaM HQ.out];rfl,HB2.out⟩
 ·have H1:=Zpe h1
  clear h1
  cases h2:ZW t.data.toList
  ·have HQ:=Zpe (ZhG (s:=s) h2)
   have H2:=Zpe h2
   clear h2
   go_enter Tryz.func66,Tryz.ntmps66
   go_wp2_with fail
   refine(ZaH s _ hs).mono ?_
   rintro e w2 ⟨rfl,hb2⟩
   rw[H1.out]
   have HX2:=Zpe ((Zv.one w _).below hb2 Zc)
   have HB2:=Zpe (((Zoq _ w).alloc Zpf (Zpc s t)).trans (hb2.mono Zc))
   clear hb2
   have c1:=HX2.out.cell 0 1 (b:=w.heap.size) rfl rfl rfl
   go_wp2_with fail
   refine(ZaH t _ ht).mono ?_
   rintro e w3 ⟨rfl,hb3⟩
   rw[H2.out]
   have HB3:=Zpe (HB2.out.trans (hb3.mono HB2.out.size))
   clear hb3 c1
   go_wp2
   go_ret
   exact⟨by rw[ZaM HQ.out];rfl,HB3.out⟩
  ·have HZ:=Zpe (ZcN h2)
   have H2:=Zpe h2
   clear h2
   go_enter Tryz.func66,Tryz.ntmps66
   go_wp2_with fail
   refine(ZaH s _ hs).mono ?_
   rintro e w2 ⟨rfl,hb2⟩
   rw[H1.out]
   have HX2:=Zpe ((Zv.one w _).below hb2 Zc)
   have HB2:=Zpe (((Zoq _ w).alloc Zpf (Zpc s t)).trans (hb2.mono Zc))
   clear hb2
   have c1:=HX2.out.cell 0 1 (b:=w.heap.size) rfl rfl rfl
   go_wp2_with fail
   refine(ZaH t _ ht).mono ?_
   rintro e w3 ⟨rfl,hb3⟩
   rw[H2.out]
   have HX3:=Zpe (HX2.out.below hb3 HX2.out.lt)
   have HB3:=Zpe (HB2.out.trans (hb3.mono HB2.out.size))
   clear hb3 c1
   have d0:=HX3.out.cell 0 0 (b:=w.heap.size) rfl rfl rfl
   have d1:=HX3.out.cell 0 1 (b:=w.heap.size) rfl rfl rfl
   have dl:t.toList=t.data.toList:=ZoN ..
   by_cases h0:Zq t.data.toList=0
   ·have hz:(t.toList==[48])=true:=by
     rw[dl,HZ.out.2 h0];rfl
    have HQ:=Zpe (Zih (s:=s) h0)
    clear h0 dl
    go_wp2
    go_ret
    exact⟨by rw[ZaM HQ.out];rfl,HB3.out⟩
   ·have hz:(t.toList==[48])=false:=by
     rw[beq_eq_false_iff_ne,dl]
     intro hc
     refine h0 (HZ.out.1 ?_)
     rw[<- ZaZ t,hc];rfl
    have H0:=Zpe h0
    clear h0 dl
    obtain⟨cs1,cs2⟩:=Zak H1.out
    obtain⟨ct1,ct2⟩:=Zak H2.out
    have hls:=Zb1 cs1.dig (j:=70) (by rw[<- Zz];omega)
    have hlt:=Zb1 ct1.dig (j:=70) (by rw[<- Zz];omega)
    have HDS:=Zpe cs1.dig
    have HDT:=Zpe ct1.dig
    clear cs1 cs2 ct1 ct2
    go_wp2_with fail
    refine(Zdd s t hs ht HDS.out HDT.out _).mono ?_
    rintro e w4 ⟨vn,vd,rfl,hN,hD,hb4⟩
    obtain⟨pn,ln,cn,rfl⟩:=hN.form'
    obtain⟨pd,ld,cd,rfl⟩:=hD.form'
    have HN:=Zpe hN
    have HD:=Zpe hD
    have HB4:=Zpe (HB3.out.trans (hb4.mono HB3.out.size))
    clear hN hD hb4 d0 d1
    go_wp2_with fail
    obtain⟨g,hg⟩:=Zpg (Nat.gcd (Zq s.data.toList) (Zq t.data.toList))
    have hal:=(Zoq w4.heap.size w4).alloc Zpf (.cells #[.slice pn ln cn,.slice pd ld cd] 112)
    have hgc:=Zj5 (HN.out.after hal Zpf) (HD.out.after hal Zpf) Za Za
    rw[hg] at hgc
    have HG:=Zpe hg
    refine hgc.mono ?_
    rintro e w5 ⟨vg,rfl,hG,hb5⟩
    obtain⟨pg,cg,hv,_,_,hp⟩:=id hG
    have HB5:=Zpe (HB4.out.trans ((hal.trans (hb5.mono Zc)).mono HB4.out.size))
    obtain⟨lg,hlg⟩:=Zpg ((Zp 1000000000 g).length)
    rw[hlg] at hv
    subst hv
    have HP:=Zpe hp
    have HLG:=Zpe hlg
    clear hgc hG hb5 hal hp hlg hg
    by_cases h1:lg=1
    ·have hb1:((lg:Int) !=1)=false:=by rw[bne_eq_false_iff_eq];omega
     have hx:∃ b off x,pg=some ⟨b,off,none⟩/\w5.cell? ⟨b,off,none⟩=some (.int .u64 (x:Nat))/\Zp 1000000000 g=[x]:=by
      have h2:=HLG.out
      rw[h1] at h2
      obtain⟨x,hx⟩:=List.length_eq_one_iff.1 h2
      obtain⟨b,off,rfl,_,ha⟩:=HP.out (by rw[hx];simp)
      have h3:=ha.getD (j:=0) (x:=x) (by rw[hx];simp) (by rw[hx];rfl)
      exact⟨b,off,x,rfl,h3,hx⟩
     obtain⟨b,off,x,rfl,hc,hx⟩:=hx
     have HXL:=Zpe hx
     have HV:Hid (x=g):=by
      show _=_
      have:=ZA (B:=1000000000) Za g
      rw[hx] at this
      simpa[val] using this
     subst h1
     clear hx
     by_cases h2:x=1
     ·have hb2:((x:Int) !=1)=false:=by rw[bne_eq_false_iff_eq];omega
      have HQ:Hid (okE s t=0):=Zbg (Zj0 H1.out H2.out H0.out (by rw[HG.out,<- HV.out];exact h2))
      clear h2
      go_wp2
      go_ret
      exact⟨by rw[HQ.out];rfl,HB5.out⟩
     ·have hb2:((x:Int) !=1)=true:=by rw[bne_iff_ne];omega
      have HQ:Hid (okE s t=2):=ZaM (Zhf (by rw[HG.out,<- HV.out];exact h2))
      clear h2
      go_wp2
      go_ret
      exact⟨by rw[HQ.out];rfl,HB5.out⟩
    ·have hb1:((lg:Int) !=1)=true:=by rw[bne_iff_ne];omega
     have HQ:Hid (okE s t=2):=by
      refine ZaM (Zhf ?_)
      rw[HG.out]
      intro hc
      refine h1 ?_
      rw[<- HLG.out,hc,Za1 Za Za,ZO];rfl
     clear h1
     go_wp2
     go_ret
     exact⟨by rw[HQ.out];rfl,HB5.out⟩
theorem Zm5 {k:IntKind} {w:World} {b off:Nat} {xs:List Nat} (h:At k w b off xs):∀ j u,(xs.map fun x:Nat=>Value.int k (x:Nat))[j]?=some u->w.cell? ((⟨b,off,none⟩:Addr).add j)=some u:=by
 intro j u hu
 have hj:j<xs.length:=by
  have:=(ZoO.1 hu).1
  simpa using this
 rw[Addr.add_lit,h j hj,<- hu]
 simp[hj]
theorem Zio (k:IntKind) (xs:List Nat):∀ u ∈ xs.map (fun x:Nat=>Value.int k (x:Nat)),u.oneCell'=true:=by
 intro u hu
 obtain⟨x,_,rfl⟩:=List.mem_map.1 hu
 rfl
theorem ZkG (b off cap:Nat) (xs:List Nat) (w:World) (hne:0<xs.length) (hl:xs.length<=1000000) (hb:b<w.heap.size) (hc:At .u64 w b off xs) :
  Calls Tryz.prog 201 #[.slice (some ⟨b,off,none⟩) xs.length cap] w fun e w'=>
   ∃ g cap',e=.returned (.slice (some ⟨g,0,none⟩) xs.length cap')/\Row .u64 158 w' w.heap.size g cap' xs/\Below w.heap.size w w':=by
 obtain⟨i0,hi,hz0,hz1,hz2⟩:=info_parts Zco
 have heq:=fun(w:World)=>Lib.run_eql_slice_nil (P:=Tryz.prog) w 110 158 (some ⟨b,off,none⟩) xs.length cap 0 0 Tryz.underlying110
 have HC:=Zpe hc
 clear hc
 go_enter Tryz.func201,Tryz.ntmps201
 go_wp2_with (at_builtin;refine wpList_append_lies _ rfl (.tmp 5) (.tmp 6) 110 rfl w.heap.size 158 i0 (.int .u64 0) 1 8 Tryz.underlying110 hi hz0 hz1 hz2 rfl Zd _ 0 [] rfl (World.ownsRow_lit w #[] 0 Zpf (by simp[maxLen]) rfl) ⟨b,off,none⟩ xs.length cap _ rfl Zc (Zm5 (HC.out.below ((Zoq w.heap.size w).alloc Zpf _) hb)) (Zio _ _) hne (by unfold maxLen;omega) Za Zc (w.heap.size+1) Zc ?_;intro g cap' w1 hown1 hgrow1 hat1 hlt1)
 have h0:0+xs.length=xs.length:=Za
 rw[h0] at hown1
 have HR:=Zpe hown1
 have HB:=Zpe (((Zoq w.heap.size w).alloc Zpf (.cells #[] 158)).grown hgrow1 Zc (fun k h=>by cases h;exact Nat.le_refl _))
 clear hown1 hgrow1 hat1
 go_wp2
 go_ret
 exact⟨g,cap',rfl,by have:=HR.out;simpa[Row] using this,HB.out⟩
theorem Zjt (p:Option Addr) (cap:Nat) (w:World) :
  Calls Tryz.prog 201 #[.slice p 0 cap] w fun e w'=>
   ∃ q,e=.returned (.slice q 0 0)/\Below w.heap.size w w':=by
 obtain⟨i0,hi,hz0,hz1,hz2⟩:=info_parts Zco
 rcases p with _ | ad
 ·have heq:=fun(w:World)=>Lib.run_eql_slice_nil (P:=Tryz.prog) w 110 158 none 0 cap 0 0 Tryz.underlying110
  go_enter Tryz.func201,Tryz.ntmps201
  go_wp2
  go_ret
  exact⟨_,rfl,Zoq _ _⟩
 ·have heq:=fun(w:World)=>Lib.run_eql_slice_nil (P:=Tryz.prog) w 110 158 (some ad) 0 cap 0 0 Tryz.underlying110
  go_enter Tryz.func201,Tryz.ntmps201
  go_wp2_with (at_builtin;refine wpList_append_fits _ rfl (.tmp 5) (.tmp 6) 110 rfl w.heap.size 158 i0 1 Tryz.underlying110 hi hz1 w.heap.size 0 0 [] rfl (World.ownsRow_lit w #[] 0 Zpf (by simp[maxLen]) rfl) ad 0 cap [] rfl Zc Zc Zc Za ?_;intro w1 hown1 hgrow1)
  have HB:=Zpe (((Zoq w.heap.size w).alloc Zpf (.cells #[] 158)).grown hgrow1 Zc (fun k h=>by cases h;exact Nat.le_refl _))
  clear hown1 hgrow1
  go_wp2
  go_ret
  exact⟨_,rfl,HB.out⟩
theorem ZlV {v1 v2:Value} {n m:Nat} {w:World} (h1:Num w v1 n) (h2:Num w v2 m) (hmn:m<=n) (hl1:(Zp 1000000000 n).length<=1000000) :
  Calls Tryz.prog 155 #[v1,v2] w fun e w'=>∃ v,e=.returned v/\Num w' v (n-m)/\Below w.heap.size w w':=by
 have hlm:=ZN (B:=1000000000) Za hmn
 obtain⟨p1,c1,rfl,hc1,hc1m,hp1⟩:=h1
 obtain⟨p2,c2,rfl,_,_,hp2⟩:=h2
 obtain⟨xs,hxs⟩:=Zpg (Zp 1000000000 n)
 obtain⟨ys,hys⟩:=Zpg (Zp 1000000000 m)
 rw[hxs] at hl1 hp1 hc1 hlm ⊢
 rw[hys] at hp2 hlm ⊢
 have HX:Hid (∀ x ∈ xs,x<1000000000):=by rw[<- hxs];exact ZI Za n
 have HY:Hid (∀ x ∈ ys,x<1000000000):=by rw[<- hys];exact ZI Za m
 have HV:Hid (val 1000000000 xs=n/\val 1000000000 ys=m):=by rw[<- hxs,<- hys];exact⟨ZA Za n,ZA Za m⟩
 have HP2:=Zpe hp2
 clear hxs hys hp2
 rcases ZoF xs.length with h0 | h0
 ·have hn:n=0:=by rw[<- HV.out.1,ZoC h0];rfl
  have hy0:ys.length=0:=Za
  rw[h0] at hc1 ⊢
  go_enter Tryz.func155,Tryz.ntmps155
  go_wp2_with fail
  refine(Zjt p1 c1 w).mono ?_
  rintro e w0 ⟨q,rfl,HB0⟩
  have HB0:=Zpe HB0
  go_wp2_with fail
  go_loopw [6,13] (fun bb i wr=>i=.int .i64 0/\Zo8 w wr) (fun _ i _=>(intOf i).toNat)
  case atStart=>exact⟨rfl,HB0⟩
  case round=>
   obtain⟨rfl,HB⟩:=hrel
   go_wp2_with fail
   refine(Zdo q 0 [] _ Zc (by simp[maxLen]) Zc Zc).mono ?_
   rintro e w' ⟨rfl,rfl⟩
   go_wp2
   go_ret
   refine⟨_,rfl,?_,HB.out⟩
   subst hn
   have e0:Zp 1000000000 (0-m)=[]:=by rw[Nat.zero_sub,ZO]
   unfold Num
   rw[e0]
   exact⟨q,0,by simp[val,ZO],Zc,by simp[maxLen],Zc⟩
 ·obtain⟨b1,off1,rfl,hb1,ha1⟩:=hp1 (Zoy h0)
  go_enter Tryz.func155,Tryz.ntmps155
  go_wp2_with fail
  refine(ZkG b1 off1 c1 xs w h0 hl1 hb1 ha1).mono ?_
  rintro e w0 ⟨g,cap,rfl,HR0,HB0⟩
  have HG:Hid (w.heap.size<=g):=HR0.lt.1
  have HR0:=Zpe HR0
  have HB0:=Zpe HB0
  go_wp2
  go_loopw [6,13] (fun bb i wr=>∃ (k:Nat) (os:List Nat) (b:Nat),k<=xs.length/\i=.int .i64 k/\bb=.int .u64 b/\
    Hid (MinusInv 1000000000 xs ys k os b)/\Hid (Row .u64 158 wr w.heap.size g cap (([]:List Nat)++(os++xs.drop k)++[]))/\Zo8 w wr) (fun _ i _=>xs.length-(intOf i).toNat)
  case atStart=>exact⟨0,[],0,ZoD _,rfl,rfl,MinusInv.start _ _ _,by simpa using HR0,HB0⟩
  case round=>
   obtain⟨k,os,bw,hk,rfl,rfl,HI,HR,HB⟩:=hrel
   have hbw:=HI.out.borrow
   by_cases hlt:k<xs.length
   ·obtain⟨p,hp⟩:=Zpg (xs.getD k 0)
    have hpl:p<1000000000:=by rw[<- hp];exact ZM Za HX.out k
    have hd:xs.drop k=p::xs.drop (k+1):=by rw[List.drop_eq_getElem_cons hlt];subst hp;simp[List.getD,hlt]
    have HR1:Hid (Row .u64 158 wr w.heap.size g cap (([]:List Nat)++(os++p::xs.drop (k+1))++[])):=by have:=HR.out;rw[hd] at this;exact this
    have hidx:k=([]:List Nat).length+os.length:=by rw[HI.out.len];simp
    have cp:wr.cell? ⟨g,k,none⟩=some (.int .u64 (p:Nat)):=HR1.out.cell (by rw[hidx];exact Zhd _ _ _ _ _) (Zf2 _ _ _ _ _ _ hidx)
    have fp:wr.frozen? ⟨g,k,none⟩=false:=HR1.out.frozen _
    have HIX:=Zpe hidx
    have Hp:=Zpe hp
    clear hp hd hidx HR
    by_cases hlt2:k<ys.length
    ·obtain⟨b2,off2,rfl,hb2,ha2⟩:=HP2.out (Zoy Za)
     obtain⟨y,hy⟩:=Zpg (ys.getD k 0)
     have hyl:y<1000000000:=by rw[<- hy];exact ZM Za HY.out k
     have cy:wr.cell? ⟨b2,off2+k,none⟩=some (.int .u64 (y:Nat)):=(HB.out.cell (p:=⟨b2,off2+k,none⟩) hb2).trans (ha2.getD hlt2 hy)
     have Hy:=Zpe hy
     clear hy ha2
     by_cases hlt3:p<bw+y
     ·have hlt3':(p:Int)<(bw:Int)+y:=Za
      have E1:Hid ((p:Int)+1000000000-((bw:Int)+y)=(p+1000000000-(bw+y):Nat)):=by show _=_;omega
      have HS:=HI.out.step_borrow Za HY.out (less:=bw+y) (by have h:=Hy.out;omega) (by rw[Hp.out];exact hlt3)
      rw[Hp.out] at HS
      have HS:=Zpe HS
      clear hlt3
      go_wp2
      go_roundw
      case rel=>exact⟨k+1,_,1,Za,by go_num,rfl,HS,Zet HR1.out HIX.out (n:=p+1000000000) Za E1.out,(HB.out.setCell HG.out _).setCell HG.out _⟩
      case measure=>exact Zj
     ·have hlt3':¬ (p:Int)<(bw:Int)+y:=Za
      have E1:Hid ((p:Int)-((bw:Int)+y)=(p-(bw+y):Nat)):=by show _=_;omega
      have HS:=HI.out.step_plain HX.out Za (less:=bw+y) (by have h:=Hy.out;omega) (by rw[Hp.out];omega)
      rw[Hp.out] at HS
      have HS:=Zpe HS
      clear hlt3
      go_wp2
      go_roundw
      case rel=>exact⟨k+1,_,0,Za,by go_num,rfl,HS,ZbR HR1.out HIX.out E1.out,HB.out.setCell HG.out _⟩
      case measure=>exact Zj
    ·have Hy:Hid (ys.getD k 0=0):=by show _=_;simp[List.getD,hlt2]
     by_cases hlt3:p<bw
     ·have hlt3':(p:Int)<(bw:Int):=Za
      have E1:Hid ((p:Int)+1000000000-((bw:Int))=(p+1000000000-(bw):Nat)):=by show _=_;omega
      have HS:=HI.out.step_borrow Za HY.out (less:=bw) (by have h:=Hy.out;omega) (by rw[Hp.out];exact hlt3)
      rw[Hp.out] at HS
      have HS:=Zpe HS
      clear hlt3
      go_wp2
      go_roundw
      case rel=>exact⟨k+1,_,1,Za,by go_num,rfl,HS,Zet HR1.out HIX.out (n:=p+1000000000) Za E1.out,(HB.out.setCell HG.out _).setCell HG.out _⟩
      case measure=>exact Zj
     ·have hlt3':¬ (p:Int)<(bw:Int):=Za
      have E1:Hid ((p:Int)-((bw:Int))=(p-(bw):Nat)):=by show _=_;omega
      have HS:=HI.out.step_plain HX.out Za (less:=bw) (by have h:=Hy.out;omega) (by rw[Hp.out];omega)
      rw[Hp.out] at HS
      have HS:=Zpe HS
      clear hlt3
      go_wp2
      go_roundw
      case rel=>exact⟨k+1,_,0,Za,by go_num,rfl,HS,ZbR HR1.out HIX.out E1.out,HB.out.setCell HG.out _⟩
      case measure=>exact Zj
   ·obtain rfl:k=xs.length:=Za
    have HR2:Hid (Row .u64 158 wr w.heap.size g cap os):=by have:=HR.out;show Row _ _ _ _ _ _ _;simpa using this
    have HL:Hid (∀ z ∈ os,z<1000000000):=HI.out.lt
    have HD:Hid (val 1000000000 os=n-m):=by show _=_;rw[HI.out.done hlm (by rw[HV.out.1,HV.out.2];exact hmn),HV.out.1,HV.out.2]
    go_wp2_with fail
    refine(Zcr HR2.out HL.out _ HI.out.len.symm _ HD.out).mono ?_
    rintro e w' ⟨rfl,rfl,hr2⟩
    have HR3:=Zpe hr2
    clear hr2
    go_wp2
    go_ret
    exact⟨_,rfl,HR3.out.nums,HB.out⟩
theorem Zau {v1 v2:Value} {n m:Nat} {w:World} (h1:Num w v1 n) (h2:Num w v2 m) (l1:(Zp 1000000000 n).length<=1000) (l2:(Zp 1000000000 m).length<=1000) :
  Calls Tryz.prog 68 #[v1,v2] w (Zeg w (n*m)):=by
 refine(ZeW h1 h2 Za Za).mono ?_
 rintro e w' ⟨v,rfl,h,hb⟩
 exact⟨v,rfl,h.num,hb⟩
theorem Zmx {v1 v2:Value} {n m:Nat} {w:World} (h1:Num w v1 n) (h2:Num w v2 m) (l1:(Zp 1000000000 n).length<=100000) (l2:(Zp 1000000000 m).length<=100000) :
  Calls Tryz.prog 100 #[v1,v2] w (Zeg w (n+m)):=by
 refine(ZmA h1 h2 Za Za).mono ?_
 rintro e w' ⟨v,rfl,h,hb⟩
 exact⟨v,rfl,h.num,hb⟩
theorem Zmc {v1 v2:Value} {n m:Nat} {w:World} (h1:Num w v1 n) (h2:Num w v2 m) (hmn:m<=n) (l1:(Zp 1000000000 n).length<=100000) :
  Calls Tryz.prog 155 #[v1,v2] w (Zeg w (n-m)):=ZlV h1 h2 hmn Za
theorem Zge {n m k l:Nat} (h1:(Zp 1000000000 n).length<=k) (h2:(Zp 1000000000 m).length<=l):(Zp 1000000000 (n*m)).length<=k+l:=by
 refine Zab Za ?_
 have a1:=Z6 (ZI (B:=1000000000) Za n)
 have a2:=Z6 (ZI (B:=1000000000) Za m)
 rw[ZA Za] at a1 a2
 rw[Nat.pow_add]
 refine Nat.mul_lt_mul'' (Zox a1 (ZoB Za h1)) (Zox a2 (ZoB Za h2))
theorem ZbM {n m:Nat} (h1:(Zp 1000000000 n).length<=1000) (h2:(Zp 1000000000 m).length<=1000):(Zp 1000000000 (n*m)).length<=100000:=Zoz (Zge h1 h2) Za
theorem Zmz {v1 v2 v3 v4:Value} {n1 d1 n2 d2:Nat} {w:World} (h1:Num w v1 n1) (h2:Num w v2 d1) (h3:Num w v3 n2) (h4:Num w v4 d2)
  (l1:(Zp 1000000000 n1).length<=1000) (l2:(Zp 1000000000 d1).length<=1000) (l3:(Zp 1000000000 n2).length<=1000) (l4:(Zp 1000000000 d2).length<=1000) (hd1:0<d1) (hd2:0<d2) (hT:Tabs w) :
  Calls Tryz.prog 167 #[.agg #[v1,v2],.agg #[v3,v4]] w (ZL (Ans (mkRat ((n1*n2:Nat):Int) (d1*d2))) w):=by
 obtain⟨p1,m1,c1,rfl⟩:=h1.form'
 obtain⟨p2,m2,c2,rfl⟩:=h2.form'
 obtain⟨p3,m3,c3,rfl⟩:=h3.form'
 obtain⟨p4,m4,c4,rfl⟩:=h4.form'
 have H1:=Zpe h1
 have H2:=Zpe h2
 have H3:=Zpe h3
 have H4:=Zpe h4
 have HT:=Zpe hT
 clear h1 h2 h3 h4 hT
 have HL1:Hid ((Zp 1000000000 (n1*n2)).length<=100000):=ZbM l1 l3
 have HL2:Hid ((Zp 1000000000 (d1*d2)).length<=100000):=ZbM l2 l4
 have HD:Hid (0<d1*d2):=Nat.mul_pos hd1 hd2
 go_enter Tryz.func167,Tryz.ntmps167
 go_wp2_with fail
 obtain⟨w1,hw1⟩:=Zpg (((w.alloc (.cells #[.slice p1 m1 c1,.slice p2 m2 c2] 112)).alloc (.cells #[.slice p3 m3 c3,.slice p4 m4 c4] 112)).alloc (Zpc Zpa Zpa))
 rw[hw1]
 have HX1:Hid (Zv w.heap.size [.cells #[.slice p1 m1 c1,.slice p2 m2 c2] 112,.cells #[.slice p3 m3 c3,.slice p4 m4 c4] 112,Zpc Zpa Zpa] w1):=by rw[<- hw1];exact Zv.three w _ _ _
 have HB1:Zo8 w w1:=by rw[<- hw1];exact(((Zoq _ w).alloc Zpf _).alloc Zc _).alloc (by simp<;>omega) _
 clear hw1
 have k1:=HX1.out.f4
 obtain⟨ka1,kb1,kc1,kd1⟩:=id k1
 go_region_held3
  (fun w'=>w'.cell? ⟨w.heap.size,0,none⟩=some (.slice p1 m1 c1)/\w'.cell? ⟨w.heap.size,1,none⟩=some (.slice p2 m2 c2)/\w'.cell? ⟨w.heap.size+1,0,none⟩=some (.slice p3 m3 c3)/\w'.cell? ⟨w.heap.size+1,1,none⟩=some (.slice p4 m4 c4))
  (first | exact k1 | exact k2 | exact k3 | exact k4 | exact k5 | exact k6 | exact ZaQ Za Za k9 _ _ | exact k9)
  (first
   | (go_at_call_of 68 (Value.slice p1 m1 c1);refine(Zau (H1.out.after HB1.out.drew Zpf) (H3.out.after HB1.out.drew Zpf) l1 l3).mono ?_;rintro e w4 ⟨va,rfl,hv,hb⟩;obtain⟨pa,ma,ca,rfl⟩:=hv.form';have HA:=Zpe hv;have HX4:=Zpe (HX1.out.drew.below hb HX1.out.lt);have HB4:Zo8 w w4:=HB1.out.drew.trans (hb.mono HB1.out.drew.size);have k4:=HX4.out.f4;clear hv hb)
   | (go_at_call_of 68 (Value.slice p2 m2 c2);refine(Zau (H2.out.after HB4.out Zpf) (H4.out.after HB4.out Zpf) l2 l4).mono ?_;rintro e w5 ⟨vb,rfl,hv,hb⟩;obtain⟨pb,mb,cb,rfl⟩:=hv.form';have HC:=Zpe hv;have HA5:=Zpe (HA.out.after hb Zpf);have HX5:=Zpe (HX4.out.below hb HX4.out.lt);have HB5:Zo8 w w5:=HB4.out.trans (hb.mono HB4.out.size);have k5:=HX5.out.f4;clear hv hb)
   | (go_at_call 101;refine(ZdK HA5.out HC.out HL1.out HL2.out HD.out (HT.out.below HB5.out Zpf)).mono ?_;rintro e w9 ⟨x,y,n,rfl,hR,hb9⟩;have HR:=Zpe hR;have HX9:=Zpe (HX5.out.below hb9 HX5.out.lt);have HB9:Zo8 w w9:=HB5.out.trans (hb9.mono HB5.out.size);have k9:=HX9.out.f4;have r0:=HX9.out.cell 2 0 (b:=w.heap.size+1+1) rfl rfl rfl;have r1:=HX9.out.cell 2 1 (b:=w.heap.size+1+1) rfl rfl rfl;have f0:=HX9.out.free 2 0 (b:=w.heap.size+1+1) rfl rfl;have f1:=HX9.out.free 2 1 (b:=w.heap.size+1+1) rfl rfl;clear hR hb9)
  )
 all_goals
  have q:=Zu (HX9.out.block 2 (b:=w.heap.size+1+1) rfl rfl) (.string x) (.string y)
  have HBQ:=Zpe (Zs HB9.out (b:=w.heap.size+1+1) Za (.string x) (.string y))
  obtain⟨wz,hwz⟩:=Zpg ((w9.setCell ⟨w.heap.size+1+1,0,none⟩ (.string x)).setCell ⟨w.heap.size+1+1,1,none⟩ (.string y))
  rw[hwz] at q HBQ
  obtain⟨q0,q1⟩:=q
  rw[hwz]
  clear r0 r1 f0 f1 hwz
  go_wp2
  refine Zor (v:=.tuple #[Zpb x y,.int .i64 n]) (by simp[results,Tryz.f167,go_sem,q0,q1]) rfl ⟨_,_,_,rfl,HR.out,HBQ.out⟩
theorem Zl9 {v1 v2 v3 v4:Value} {n1 d1 n2 d2:Nat} {w:World} (h1:Num w v1 n1) (h2:Num w v2 d1) (h3:Num w v3 n2) (h4:Num w v4 d2)
  (l1:(Zp 1000000000 n1).length<=1000) (l2:(Zp 1000000000 d1).length<=1000) (l3:(Zp 1000000000 n2).length<=1000) (l4:(Zp 1000000000 d2).length<=1000) (hd1:0<d1) (hd2:0<d2) (hT:Tabs w) (h0:n2=0) :
  Calls Tryz.prog 205 #[.agg #[v1,v2],.agg #[v3,v4]] w (ZL (fun s t e=>s=str []/\t=str []/\e=10) w):=by
 subst h0
 obtain⟨p3,c3,rfl,_,_,_⟩:=h3
 obtain⟨p1,m1,c1,rfl⟩:=h1.form'
 obtain⟨p2,m2,c2,rfl⟩:=h2.form'
 obtain⟨p4,m4,c4,rfl⟩:=h4.form'
 rw[ZO,List.length_nil]
 obtain⟨m3,hm3⟩:=Zpg 0
 have hm:((m3:Nat):Int)==0:=by simp;omega
 clear h1 h2 h4
 rw[hm3]
 have HM3:=Zpe hm3
 clear hm3
 go_enter Tryz.func205,Tryz.ntmps205
 go_wp2_with fail
 obtain⟨w1,hw1⟩:=Zpg (((w.alloc (.cells #[.slice p1 m1 c1,.slice p2 m2 c2] 112)).alloc (.cells #[.slice p3 m3 c3,.slice p4 m4 c4] 112)).alloc (Zpc Zpa Zpa))
 rw[hw1]
 have HX1:Hid (Zv w.heap.size [.cells #[.slice p1 m1 c1,.slice p2 m2 c2] 112,.cells #[.slice p3 m3 c3,.slice p4 m4 c4] 112,Zpc Zpa Zpa] w1):=by rw[<- hw1];exact Zv.three w _ _ _
 have HB1:Zo8 w w1:=by rw[<- hw1];exact(((Zoq _ w).alloc Zpf _).alloc Zc _).alloc (by simp<;>omega) _
 clear hw1
 have r0:=HX1.out.cell 2 0 (b:=w.heap.size+1+1) rfl rfl rfl
 have r1:=HX1.out.cell 2 1 (b:=w.heap.size+1+1) rfl rfl rfl
 refine Zor (v:=.tuple #[Zpb Zpa Zpa,.int .i64 10]) (by simp[results,Tryz.f205,go_sem,r0,r1]) rfl ⟨_,_,_,rfl,?_,HB1.out⟩
 exact⟨rfl,rfl,rfl⟩
theorem ZmJ {v1 v2 v3 v4:Value} {n1 d1 n2 d2:Nat} {w:World} (h1:Num w v1 n1) (h2:Num w v2 d1) (h3:Num w v3 n2) (h4:Num w v4 d2)
  (l1:(Zp 1000000000 n1).length<=1000) (l2:(Zp 1000000000 d1).length<=1000) (l3:(Zp 1000000000 n2).length<=1000) (l4:(Zp 1000000000 d2).length<=1000) (hd1:0<d1) (hd2:0<d2) (hT:Tabs w) (h0:0<n2) :
  Calls Tryz.prog 205 #[.agg #[v1,v2],.agg #[v3,v4]] w (ZL (Ans (mkRat ((n1*d2:Nat):Int) (d1*n2))) w):=by
 obtain⟨m0,hm0⟩:=Zpg ((Zp 1000000000 n2).length)
 have hmp:=(ZaO (B:=1000000000) Za).2 h0
 obtain⟨p3,c3,rfl⟩:=h3.form
 rw[hm0] at h3 hmp l3 ⊢
 obtain⟨m3,rfl⟩:=Zpg m0
 have hz:(((m0:Nat):Int)==0)=false:=by rw[beq_eq_false_iff_ne];omega
 have L3:Hid ((Zp 1000000000 n2).length<=1000):=by show _<=_;rw[hm0];exact l3
 clear hm0
 obtain⟨p1,m1,c1,rfl⟩:=h1.form'
 obtain⟨p2,m2,c2,rfl⟩:=h2.form'
 obtain⟨p4,m4,c4,rfl⟩:=h4.form'
 have H1:=Zpe h1
 have H2:=Zpe h2
 have H3:=Zpe h3
 have H4:=Zpe h4
 have HT:=Zpe hT
 clear h1 h2 h3 h4 hT
 obtain⟨m3,hm3⟩:=Zpg m0
 subst hm3
 have HL1:Hid ((Zp 1000000000 (n1*d2)).length<=100000):=ZbM l1 l4
 have HL2:Hid ((Zp 1000000000 (d1*n2)).length<=100000):=ZbM l2 L3.out
 have HD:Hid (0<d1*n2):=Nat.mul_pos hd1 h0
 go_enter Tryz.func205,Tryz.ntmps205
 go_wp2_with fail
 obtain⟨w1,hw1⟩:=Zpg (((w.alloc (.cells #[.slice p1 m1 c1,.slice p2 m2 c2] 112)).alloc (.cells #[.slice p3 m0 c3,.slice p4 m4 c4] 112)).alloc (Zpc Zpa Zpa))
 rw[hw1]
 have HX1:Hid (Zv w.heap.size [.cells #[.slice p1 m1 c1,.slice p2 m2 c2] 112,.cells #[.slice p3 m0 c3,.slice p4 m4 c4] 112,Zpc Zpa Zpa] w1):=by rw[<- hw1];exact Zv.three w _ _ _
 have HB1:Zo8 w w1:=by rw[<- hw1];exact(((Zoq _ w).alloc Zpf _).alloc Zc _).alloc (by simp<;>omega) _
 clear hw1
 have k1:=HX1.out.f4
 obtain⟨ka1,kb1,kc1,kd1⟩:=id k1
 go_wp2_with fail
 go_region_held3
  (fun w'=>w'.cell? ⟨w.heap.size,0,none⟩=some (.slice p1 m1 c1)/\w'.cell? ⟨w.heap.size,1,none⟩=some (.slice p2 m2 c2)/\w'.cell? ⟨w.heap.size+1,0,none⟩=some (.slice p3 m0 c3)/\w'.cell? ⟨w.heap.size+1,1,none⟩=some (.slice p4 m4 c4))
  (first | exact k1 | exact k2 | exact k3 | exact k4 | exact k5 | exact k6 | exact ZaQ Za Za k9 _ _ | exact k9)
  (first
   | (go_at_call_of 68 (Value.slice p1 m1 c1);refine(Zau (H1.out.after HB1.out.drew Zpf) (H4.out.after HB1.out.drew Zpf) l1 l4).mono ?_;rintro e w4 ⟨va,rfl,hv,hb⟩;obtain⟨pa,ma,ca,rfl⟩:=hv.form';have HA:=Zpe hv;have HX4:=Zpe (HX1.out.drew.below hb HX1.out.lt);have HB4:Zo8 w w4:=HB1.out.drew.trans (hb.mono HB1.out.drew.size);have k4:=HX4.out.f4;clear hv hb)
   | (go_at_call_of 68 (Value.slice p2 m2 c2);refine(Zau (H2.out.after HB4.out Zpf) (H3.out.after HB4.out Zpf) l2 L3.out).mono ?_;rintro e w5 ⟨vb,rfl,hv,hb⟩;obtain⟨pb,mb,cb,rfl⟩:=hv.form';have HC:=Zpe hv;have HA5:=Zpe (HA.out.after hb Zpf);have HX5:=Zpe (HX4.out.below hb HX4.out.lt);have HB5:Zo8 w w5:=HB4.out.trans (hb.mono HB4.out.size);have k5:=HX5.out.f4;clear hv hb)
   | (go_at_call 101;refine(ZdK HA5.out HC.out HL1.out HL2.out HD.out (HT.out.below HB5.out Zpf)).mono ?_;rintro e w9 ⟨x,y,n,rfl,hR,hb9⟩;have HR:=Zpe hR;have HX9:=Zpe (HX5.out.below hb9 HX5.out.lt);have HB9:Zo8 w w9:=HB5.out.trans (hb9.mono HB5.out.size);have k9:=HX9.out.f4;have r0:=HX9.out.cell 2 0 (b:=w.heap.size+1+1) rfl rfl rfl;have r1:=HX9.out.cell 2 1 (b:=w.heap.size+1+1) rfl rfl rfl;have f0:=HX9.out.free 2 0 (b:=w.heap.size+1+1) rfl rfl;have f1:=HX9.out.free 2 1 (b:=w.heap.size+1+1) rfl rfl;clear hR hb9)
  )
 all_goals
  have q:=Zu (HX9.out.block 2 (b:=w.heap.size+1+1) rfl rfl) (.string x) (.string y)
  have HBQ:=Zpe (Zs HB9.out (b:=w.heap.size+1+1) Za (.string x) (.string y))
  obtain⟨wz,hwz⟩:=Zpg ((w9.setCell ⟨w.heap.size+1+1,0,none⟩ (.string x)).setCell ⟨w.heap.size+1+1,1,none⟩ (.string y))
  rw[hwz] at q HBQ
  obtain⟨q0,q1⟩:=q
  rw[hwz]
  clear r0 r1 f0 f1 hwz
  go_wp2
  refine Zor (v:=.tuple #[Zpb x y,.int .i64 n]) (by simp[results,Tryz.f205,go_sem,q0,q1]) rfl ⟨_,_,_,rfl,HR.out,HBQ.out⟩
theorem Znt {n m k l:Nat} (h1:(Zp 1000000000 n).length<=k) (h2:(Zp 1000000000 m).length<=l):(Zp 1000000000 (n+m)).length<=k+l+1:=by
 refine Zab Za ?_
 have a1:=Z6 (ZI (B:=1000000000) Za n)
 have a2:=Z6 (ZI (B:=1000000000) Za m)
 rw[ZA Za] at a1 a2
 have b1:(1000000000:Nat) ^ (Zp 1000000000 n).length<=1000000000 ^ (k+l):=ZoB Za Za
 have b2:(1000000000:Nat) ^ (Zp 1000000000 m).length<=1000000000 ^ (k+l):=ZoB Za Za
 rw[ZoX]
 omega
theorem ZmO {v1 v2 v3 v4:Value} {n1 d1 n2 d2:Nat} {w:World} (h1:Num w v1 n1) (h2:Num w v2 d1) (h3:Num w v3 n2) (h4:Num w v4 d2)
  (l1:(Zp 1000000000 n1).length<=1000) (l2:(Zp 1000000000 d1).length<=1000) (l3:(Zp 1000000000 n2).length<=1000) (l4:(Zp 1000000000 d2).length<=1000) (hd1:0<d1) (hd2:0<d2) (hT:Tabs w) :
  Calls Tryz.prog 99 #[.agg #[v1,v2],.agg #[v3,v4]] w (ZL (Ans (mkRat ((n1*d2+n2*d1:Nat):Int) (d1*d2))) w):=by
 obtain⟨p1,m1,c1,rfl⟩:=h1.form'
 obtain⟨p2,m2,c2,rfl⟩:=h2.form'
 obtain⟨p3,m3,c3,rfl⟩:=h3.form'
 obtain⟨p4,m4,c4,rfl⟩:=h4.form'
 have H1:=Zpe h1
 have H2:=Zpe h2
 have H3:=Zpe h3
 have H4:=Zpe h4
 have HT:=Zpe hT
 clear h1 h2 h3 h4 hT
 have M1:Hid ((Zp 1000000000 (n1*d2)).length<=2000):=Zoz (Zge l1 l4) Za
 have M2:Hid ((Zp 1000000000 (n2*d1)).length<=2000):=Zoz (Zge l3 l2) Za
 have K1:Hid ((Zp 1000000000 (n1*d2)).length<=100000):=Zoz M1.out Za
 have K2:Hid ((Zp 1000000000 (n2*d1)).length<=100000):=Zoz M2.out Za
 have HL1:Hid ((Zp 1000000000 (n1*d2+n2*d1)).length<=100000):=Zoz (Znt M1.out M2.out) Za
 have HL2:Hid ((Zp 1000000000 (d1*d2)).length<=100000):=ZbM l2 l4
 have HD:Hid (0<d1*d2):=Nat.mul_pos hd1 hd2
 go_enter Tryz.func99,Tryz.ntmps99
 go_wp2_with fail
 obtain⟨w1,hw1⟩:=Zpg (((w.alloc (.cells #[.slice p1 m1 c1,.slice p2 m2 c2] 112)).alloc (.cells #[.slice p3 m3 c3,.slice p4 m4 c4] 112)).alloc (Zpc Zpa Zpa))
 rw[hw1]
 have HX1:Hid (Zv w.heap.size [.cells #[.slice p1 m1 c1,.slice p2 m2 c2] 112,.cells #[.slice p3 m3 c3,.slice p4 m4 c4] 112,Zpc Zpa Zpa] w1):=by rw[<- hw1];exact Zv.three w _ _ _
 have HB1:Zo8 w w1:=by rw[<- hw1];exact(((Zoq _ w).alloc Zpf _).alloc Zc _).alloc (by simp<;>omega) _
 clear hw1
 have k1:=HX1.out.f4
 obtain⟨ka1,kb1,kc1,kd1⟩:=id k1
 go_region_held3
  (fun w'=>w'.cell? ⟨w.heap.size,0,none⟩=some (.slice p1 m1 c1)/\w'.cell? ⟨w.heap.size,1,none⟩=some (.slice p2 m2 c2)/\w'.cell? ⟨w.heap.size+1,0,none⟩=some (.slice p3 m3 c3)/\w'.cell? ⟨w.heap.size+1,1,none⟩=some (.slice p4 m4 c4))
  (first | exact k1 | exact k2 | exact k3 | exact k4 | exact k5 | exact k6 | exact ZaQ Za Za k9 _ _ | exact k9)
  (first
   | (go_at_call_of 68 (Value.slice p1 m1 c1);refine(Zau (H1.out.after HB1.out.drew Zpf) (H4.out.after HB1.out.drew Zpf) l1 l4).mono ?_;rintro e w2 ⟨va,rfl,hv,hb⟩;obtain⟨pa,ma,ca,rfl⟩:=hv.form';have HA:=Zpe hv;have HX2:=Zpe (HX1.out.drew.below hb HX1.out.lt);have HB2:Zo8 w w2:=HB1.out.drew.trans (hb.mono HB1.out.drew.size);have k2:=HX2.out.f4;clear hv hb)
   | (go_at_call_of 68 (Value.slice p3 m3 c3);refine(Zau (H3.out.after HB2.out Zpf) (H2.out.after HB2.out Zpf) l3 l2).mono ?_;rintro e w3 ⟨vb,rfl,hv,hb⟩;obtain⟨pb,mb,cb,rfl⟩:=hv.form';have HC:=Zpe hv;have HA3:=Zpe (HA.out.after hb Zpf);have HX3:=Zpe (HX2.out.below hb HX2.out.lt);have HB3:Zo8 w w3:=HB2.out.trans (hb.mono HB2.out.size);have k3:=HX3.out.f4;clear hv hb)
   | (go_at_call_of 100 (Value.slice pa ma ca);refine(Zmx HA3.out HC.out K1.out K2.out).mono ?_;rintro e w4 ⟨vs,rfl,hv,hb⟩;obtain⟨ps,ms,cs,rfl⟩:=hv.form';have HS:=Zpe hv;have HX4:=Zpe (HX3.out.below hb HX3.out.lt);have HB4:Zo8 w w4:=HB3.out.trans (hb.mono HB3.out.size);have k4:=HX4.out.f4;clear hv hb)
   | (go_at_call_of 68 (Value.slice p2 m2 c2);refine(Zau (H2.out.after HB4.out Zpf) (H4.out.after HB4.out Zpf) l2 l4).mono ?_;rintro e w5 ⟨vd,rfl,hv,hb⟩;obtain⟨pd,md,cd,rfl⟩:=hv.form';have HE:=Zpe hv;have HS5:=Zpe (HS.out.after hb Zpf);have HX5:=Zpe (HX4.out.below hb HX4.out.lt);have HB5:Zo8 w w5:=HB4.out.trans (hb.mono HB4.out.size);have k5:=HX5.out.f4;clear hv hb)
   | (go_at_call 101;refine(ZdK HS5.out HE.out HL1.out HL2.out HD.out (HT.out.below HB5.out Zpf)).mono ?_;rintro e w9 ⟨x,y,n,rfl,hR,hb9⟩;have HR:=Zpe hR;have HX9:=Zpe (HX5.out.below hb9 HX5.out.lt);have HB9:Zo8 w w9:=HB5.out.trans (hb9.mono HB5.out.size);have k9:=HX9.out.f4;have r0:=HX9.out.cell 2 0 (b:=w.heap.size+1+1) rfl rfl rfl;have r1:=HX9.out.cell 2 1 (b:=w.heap.size+1+1) rfl rfl rfl;have f0:=HX9.out.free 2 0 (b:=w.heap.size+1+1) rfl rfl;have f1:=HX9.out.free 2 1 (b:=w.heap.size+1+1) rfl rfl;clear hR hb9)
  )
 all_goals
  have q:=Zu (HX9.out.block 2 (b:=w.heap.size+1+1) rfl rfl) (.string x) (.string y)
  have HBQ:=Zpe (Zs HB9.out (b:=w.heap.size+1+1) Za (.string x) (.string y))
  obtain⟨wz,hwz⟩:=Zpg ((w9.setCell ⟨w.heap.size+1+1,0,none⟩ (.string x)).setCell ⟨w.heap.size+1+1,1,none⟩ (.string y))
  rw[hwz] at q HBQ
  obtain⟨q0,q1⟩:=q
  rw[hwz]
  clear r0 r1 f0 f1 hwz
  go_wp2
  refine Zor (v:=.tuple #[Zpb x y,.int .i64 n]) (by simp[results,Tryz.f99,go_sem,q0,q1]) rfl ⟨_,_,_,rfl,HR.out,HBQ.out⟩
theorem ZnN {n m k:Nat} (h1:(Zp 1000000000 n).length<=k):(Zp 1000000000 (n-m)).length<=k:=Zoz (ZN Za (Nat.sub_le _ _)) h1
def SubR (n1 d1 n2 d2:Nat) (s t:ByteArray) (e:Int):Prop:=
 (n1*d2<n2*d1/\s=str []/\t=str []/\e=11)\/(n2*d1<=n1*d2/\Ans (mkRat ((n1*d2-n2*d1:Nat):Int) (d1*d2)) s t e)
theorem Zm1 {v1 v2 v3 v4:Value} {n1 d1 n2 d2:Nat} {w:World} (h1:Num w v1 n1) (h2:Num w v2 d1) (h3:Num w v3 n2) (h4:Num w v4 d2)
  (l1:(Zp 1000000000 n1).length<=1000) (l2:(Zp 1000000000 d1).length<=1000) (l3:(Zp 1000000000 n2).length<=1000) (l4:(Zp 1000000000 d2).length<=1000) (hd1:0<d1) (hd2:0<d2) (hT:Tabs w) :
  Calls Tryz.prog 154 #[.agg #[v1,v2],.agg #[v3,v4]] w (ZL (SubR n1 d1 n2 d2) w):=by
 obtain⟨p1,m1,c1,rfl⟩:=h1.form'
 obtain⟨p2,m2,c2,rfl⟩:=h2.form'
 obtain⟨p3,m3,c3,rfl⟩:=h3.form'
 obtain⟨p4,m4,c4,rfl⟩:=h4.form'
 have H1:=Zpe h1
 have H2:=Zpe h2
 have H3:=Zpe h3
 have H4:=Zpe h4
 have HT:=Zpe hT
 clear h1 h2 h3 h4 hT
 have K1:Hid ((Zp 1000000000 (n1*d2)).length<=100000):=ZbM l1 l4
 have K2:Hid ((Zp 1000000000 (n2*d1)).length<=100000):=ZbM l3 l2
 have L1:Hid ((Zp 1000000000 (n1*d2)).length<=1000000):=Zoz K1.out Za
 have L2:Hid ((Zp 1000000000 (n2*d1)).length<=1000000):=Zoz K2.out Za
 have HL1:Hid ((Zp 1000000000 (n1*d2-n2*d1)).length<=100000):=ZnN K1.out
 have HL2:Hid ((Zp 1000000000 (d1*d2)).length<=100000):=ZbM l2 l4
 have HD:Hid (0<d1*d2):=Nat.mul_pos hd1 hd2
 rcases Zow (n1*d2) (n2*d1) with hlt | hge
 ·have HLT:=Zpe hlt
  clear hlt
  go_enter Tryz.func154,Tryz.ntmps154
  go_wp2_with fail
  obtain⟨w1,hw1⟩:=Zpg (((w.alloc (.cells #[.slice p1 m1 c1,.slice p2 m2 c2] 112)).alloc (.cells #[.slice p3 m3 c3,.slice p4 m4 c4] 112)).alloc (Zpc Zpa Zpa))
  rw[hw1]
  have HX1:Hid (Zv w.heap.size [.cells #[.slice p1 m1 c1,.slice p2 m2 c2] 112,.cells #[.slice p3 m3 c3,.slice p4 m4 c4] 112,Zpc Zpa Zpa] w1):=by rw[<- hw1];exact Zv.three w _ _ _
  have HB1:Zo8 w w1:=by rw[<- hw1];exact(((Zoq _ w).alloc Zpf _).alloc Zc _).alloc (by simp<;>omega) _
  clear hw1
  have k1:=HX1.out.f4
  obtain⟨ka1,kb1,kc1,kd1⟩:=id k1
  go_region_held3
   (fun w'=>w'.cell? ⟨w.heap.size,0,none⟩=some (.slice p1 m1 c1)/\w'.cell? ⟨w.heap.size,1,none⟩=some (.slice p2 m2 c2)/\w'.cell? ⟨w.heap.size+1,0,none⟩=some (.slice p3 m3 c3)/\w'.cell? ⟨w.heap.size+1,1,none⟩=some (.slice p4 m4 c4))
   (first | exact k1 | exact k2 | exact k3 | exact k4 | exact k5 | exact k6 | exact ZaQ Za Za k9 _ _ | exact k9)
   (first
    | (go_at_call_of 68 (Value.slice p1 m1 c1);refine(Zau (H1.out.after HB1.out.drew Zpf) (H4.out.after HB1.out.drew Zpf) l1 l4).mono ?_;rintro e w2 ⟨va,rfl,hv,hb⟩;obtain⟨pa,ma,ca,rfl⟩:=hv.form';have HA:=Zpe hv;have HX2:=Zpe (HX1.out.drew.below hb HX1.out.lt);have HB2:Zo8 w w2:=HB1.out.drew.trans (hb.mono HB1.out.drew.size);have k2:=HX2.out.f4;clear hv hb)
    | (go_at_call_of 68 (Value.slice p3 m3 c3);refine(Zau (H3.out.after HB2.out Zpf) (H2.out.after HB2.out Zpf) l3 l2).mono ?_;rintro e w3 ⟨vb,rfl,hv,hb⟩;obtain⟨pb,mb,cb,rfl⟩:=hv.form';have HC:=Zpe hv;have HA3:=Zpe (HA.out.after hb Zpf);have HX3:=Zpe (HX2.out.below hb HX2.out.lt);have HB3:Zo8 w w3:=HB2.out.trans (hb.mono HB2.out.size);have k3:=HX3.out.f4;clear hv hb)
   )
  go_wp2_with fail
  refine(ZbN HA3.out HC.out L1.out L2.out).mono ?_
  rintro e w4 ⟨r,rfl,hsg,hb4⟩
  have HX4:=Zpe (HX3.out.below hb4 HX3.out.lt)
  have HB4:=Zpe (HB3.out.trans (hb4.mono HB3.out.size))
  have HA4:=Zpe (HA3.out.after hb4 Zpf)
  have HC4:=Zpe (HC.out.after hb4 Zpf)
  have HSG:=Zpe hsg
  clear hb4 hsg k3
  have hr:r<0:=HSG.out.1.2 HLT.out
  have r0:=HX4.out.cell 2 0 (b:=w.heap.size+1+1) rfl rfl rfl
  have r1:=HX4.out.cell 2 1 (b:=w.heap.size+1+1) rfl rfl rfl
  have f0:=HX4.out.free 2 0 (b:=w.heap.size+1+1) rfl rfl
  have f1:=HX4.out.free 2 1 (b:=w.heap.size+1+1) rfl rfl
  go_wp2
  have q:=Zu (HX4.out.block 2 (b:=w.heap.size+1+1) rfl rfl) (.string Zpa) (.string Zpa)
  have HBQ:=Zpe (Zs HB4.out (b:=w.heap.size+1+1) Za (.string Zpa) (.string Zpa))
  obtain⟨w9,hw9⟩:=Zpg ((w4.setCell ⟨w.heap.size+1+1,0,none⟩ (.string Zpa)).setCell ⟨w.heap.size+1+1,1,none⟩ (.string Zpa))
  rw[hw9] at q HBQ
  obtain⟨q0,q1⟩:=q
  rw[hw9]
  clear r0 r1 f0 f1 hw9
  go_wp2
  refine Zor (v:=.tuple #[Zpb Zpa Zpa,.int .i64 11]) (by simp[results,Tryz.f154,go_sem,q0,q1]) rfl ⟨_,_,_,rfl,?_,HBQ.out⟩
  exact .inl ⟨HLT.out,rfl,rfl,rfl⟩
 ·have HLT:=Zpe hge
  clear hge
  go_enter Tryz.func154,Tryz.ntmps154
  go_wp2_with fail
  obtain⟨w1,hw1⟩:=Zpg (((w.alloc (.cells #[.slice p1 m1 c1,.slice p2 m2 c2] 112)).alloc (.cells #[.slice p3 m3 c3,.slice p4 m4 c4] 112)).alloc (Zpc Zpa Zpa))
  rw[hw1]
  have HX1:Hid (Zv w.heap.size [.cells #[.slice p1 m1 c1,.slice p2 m2 c2] 112,.cells #[.slice p3 m3 c3,.slice p4 m4 c4] 112,Zpc Zpa Zpa] w1):=by rw[<- hw1];exact Zv.three w _ _ _
  have HB1:Zo8 w w1:=by rw[<- hw1];exact(((Zoq _ w).alloc Zpf _).alloc Zc _).alloc (by simp<;>omega) _
  clear hw1
  have k1:=HX1.out.f4
  obtain⟨ka1,kb1,kc1,kd1⟩:=id k1
  go_region_held3
   (fun w'=>w'.cell? ⟨w.heap.size,0,none⟩=some (.slice p1 m1 c1)/\w'.cell? ⟨w.heap.size,1,none⟩=some (.slice p2 m2 c2)/\w'.cell? ⟨w.heap.size+1,0,none⟩=some (.slice p3 m3 c3)/\w'.cell? ⟨w.heap.size+1,1,none⟩=some (.slice p4 m4 c4))
   (first | exact k1 | exact k2 | exact k3 | exact k4 | exact k5 | exact k6 | exact ZaQ Za Za k9 _ _ | exact k9)
   (first
    | (go_at_call_of 68 (Value.slice p1 m1 c1);refine(Zau (H1.out.after HB1.out.drew Zpf) (H4.out.after HB1.out.drew Zpf) l1 l4).mono ?_;rintro e w2 ⟨va,rfl,hv,hb⟩;obtain⟨pa,ma,ca,rfl⟩:=hv.form';have HA:=Zpe hv;have HX2:=Zpe (HX1.out.drew.below hb HX1.out.lt);have HB2:Zo8 w w2:=HB1.out.drew.trans (hb.mono HB1.out.drew.size);have k2:=HX2.out.f4;clear hv hb)
    | (go_at_call_of 68 (Value.slice p3 m3 c3);refine(Zau (H3.out.after HB2.out Zpf) (H2.out.after HB2.out Zpf) l3 l2).mono ?_;rintro e w3 ⟨vb,rfl,hv,hb⟩;obtain⟨pb,mb,cb,rfl⟩:=hv.form';have HC:=Zpe hv;have HA3:=Zpe (HA.out.after hb Zpf);have HX3:=Zpe (HX2.out.below hb HX2.out.lt);have HB3:Zo8 w w3:=HB2.out.trans (hb.mono HB2.out.size);have k3:=HX3.out.f4;clear hv hb)
   )
  go_wp2_with fail
  refine(ZbN HA3.out HC.out L1.out L2.out).mono ?_
  rintro e w4 ⟨r,rfl,hsg,hb4⟩
  have HX4:=Zpe (HX3.out.below hb4 HX3.out.lt)
  have HB4:=Zpe (HB3.out.trans (hb4.mono HB3.out.size))
  have HA4:=Zpe (HA3.out.after hb4 Zpf)
  have HC4:=Zpe (HC.out.after hb4 Zpf)
  have HSG:=Zpe hsg
  clear hb4 hsg k3
  have hr:¬ r<0:=fun h=>by have h1:=HSG.out.1.1 h;have h2:=HLT.out;omega
  have k1:=HX4.out.f4
  obtain⟨ka1,kb1,kc1,kd1⟩:=id k1
  go_wp2_with fail
  go_region_held3
   (fun w'=>w'.cell? ⟨w.heap.size,0,none⟩=some (.slice p1 m1 c1)/\w'.cell? ⟨w.heap.size,1,none⟩=some (.slice p2 m2 c2)/\w'.cell? ⟨w.heap.size+1,0,none⟩=some (.slice p3 m3 c3)/\w'.cell? ⟨w.heap.size+1,1,none⟩=some (.slice p4 m4 c4))
   (first | exact k1 | exact k2 | exact k3 | exact k4 | exact k5 | exact k6 | exact ZaQ Za Za k9 _ _ | exact k9)
   (first
    | (go_at_call_of 155 (Value.slice pa ma ca);refine(Zmc (HA4.out.after (Zoq w4.heap.size w4).drew Zpf) (HC4.out.after (Zoq w4.heap.size w4).drew Zpf) HLT.out K1.out).mono ?_;rintro e w5 ⟨vs,rfl,hv,hb⟩;obtain⟨ps,ms,cs,rfl⟩:=hv.form';have HS:=Zpe hv;have HX5:=Zpe (HX4.out.drew.below hb HX4.out.lt);have HB5:Zo8 w w5:=HB4.out.drew.trans (hb.mono HB4.out.drew.size);have k5:=HX5.out.f4;clear hv hb)
    | (go_at_call_of 68 (Value.slice p2 m2 c2);refine(Zau (H2.out.after HB5.out Zpf) (H4.out.after HB5.out Zpf) l2 l4).mono ?_;rintro e w6 ⟨vd,rfl,hv,hb⟩;obtain⟨pd,md,cd,rfl⟩:=hv.form';have HE:=Zpe hv;have HS6:=Zpe (HS.out.after hb Zpf);have HX6:=Zpe (HX5.out.below hb HX5.out.lt);have HB6:Zo8 w w6:=HB5.out.trans (hb.mono HB5.out.size);have k6:=HX6.out.f4;clear hv hb)
    | (go_at_call 101;refine(ZdK HS6.out HE.out HL1.out HL2.out HD.out (HT.out.below HB6.out Zpf)).mono ?_;rintro e w9 ⟨x,y,n,rfl,hR,hb9⟩;have HR:=Zpe hR;have HX9:=Zpe (HX6.out.below hb9 HX6.out.lt);have HB9:Zo8 w w9:=HB6.out.trans (hb9.mono HB6.out.size);have k9:=HX9.out.f4;have r0:=HX9.out.cell 2 0 (b:=w.heap.size+1+1) rfl rfl rfl;have r1:=HX9.out.cell 2 1 (b:=w.heap.size+1+1) rfl rfl rfl;have f0:=HX9.out.free 2 0 (b:=w.heap.size+1+1) rfl rfl;have f1:=HX9.out.free 2 1 (b:=w.heap.size+1+1) rfl rfl;clear hR hb9)
   )
  all_goals
   have q:=Zu (HX9.out.block 2 (b:=w.heap.size+1+1) rfl rfl) (.string x) (.string y)
   have HBQ:=Zpe (Zs HB9.out (b:=w.heap.size+1+1) Za (.string x) (.string y))
   obtain⟨wz,hwz⟩:=Zpg ((w9.setCell ⟨w.heap.size+1+1,0,none⟩ (.string x)).setCell ⟨w.heap.size+1+1,1,none⟩ (.string y))
   rw[hwz] at q HBQ
   obtain⟨q0,q1⟩:=q
   rw[hwz]
   clear r0 r1 f0 f1 hwz
   go_wp2
   refine Zor (v:=.tuple #[Zpb x y,.int .i64 n]) (by simp[results,Tryz.f154,go_sem,q0,q1]) rfl ⟨_,_,_,rfl,.inr ⟨HLT.out,HR.out⟩,HBQ.out⟩
end Go.Proofs.YtmpaflidennnoaaGreatDoor
