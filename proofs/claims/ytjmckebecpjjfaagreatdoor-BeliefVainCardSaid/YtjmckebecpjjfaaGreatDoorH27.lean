/- The parts BelLA, BelLB, BelLD, BelLE, BelLC, BelWh. -/
import Derived.Test.YtjmckebecpjjfaaGreatDoorH25
set_option maxRecDepth 100000
set_option maxHeartbeats 8000000
set_option linter.unusedVariables false
set_option linter.unusedSimpArgs false
namespace Go.Proofs.YtjmckebecpjjfaaGreatDoor
open Go.RowKit Go.Shelf
attribute [local go_sem ↓] Go.wp_at_zero Go.wp_at_succ
def Zmb (w:World) (e:Ending) (w':World):Prop:=∃ r:Bool,e=.returned (.bool r)/\Below w.heap.size w w'
theorem Zki {g:GridP} {p0:Option Addr} {n0 c0:Nat} {k:Nat} {w:World} : Calls Tryz.prog 34 #[Ze1 g (.slice p0 n0 c0),.int .i64 (k:Int),.slice none 0 0] w (Zmb w):=by
 have HE1:Hid (Env w.heap.size w [(w.heap.size,ZaS g (.slice p0 n0 c0))] [] (w.alloc (ZaS g (.slice p0 n0 c0)))):=(Env.start w).push _ rfl
 obtain⟨w1,hw1⟩:=ZqJ (w.alloc (ZaS g (.slice p0 n0 c0)))
 rw[hw1] at HE1
 have g0:=HE1.out.cell 0 0 (v:=.int .i64 g.w) rfl rfl
 have g1:=HE1.out.cell 0 1 (v:=.int .i64 g.h) rfl rfl
 have g3:=HE1.out.cell 0 3 (v:=.slice p0 n0 c0) rfl rfl
 go_enter Tryz.func34,Tryz.ntmps34
 go_upto_region 1 with (fail)
 go_cut [40] from 8 (fun s40 wc=>∃ r:Bool,s40=.bool r/\wc=w1)
 case first=>
  go_wp2
  all_goals (go_meet;exact⟨_,rfl,rfl⟩)
 case rest=>
  obtain⟨r,rfl,rfl⟩:=hcut
  cases r with
  | true=>
   go_wp2
   exact ZpW (by simp[results,Tryz.f34,go_sem]) rfl ⟨true,rfl,HE1.out.base⟩
  | false=>
   go_wp2_with fail
   go_loopw [7] (fun iv wv=>iv=.int .i64 0/\wv=wc) (fun _ _=>0)
   case atStart=>exact⟨rfl,rfl⟩
   case round=>
    obtain⟨rfl,rfl⟩:=hrel
    go_wp2
    exact ZpW (by simp[results,Tryz.f34,go_sem]) rfl ⟨false,rfl,HE1.out.base⟩
theorem ZcZ (k B:Nat) (s t:ByteArray) (w:World) (hB:w.cell? ⟨B,0,none⟩=some (.int .i64 k)):Calls Tryz.prog 35 #[pV s t,.pointer (some ⟨B,0,none⟩)] w (Zmb w):=by
 have HAL:=ZqH ((ZpV w.heap.size w).alloc ZqI (pObj s t))
 have hBl:=Zqf _ _ hB
 have hBc:(w.alloc (pObj s t)).cell? ⟨B,0,none⟩=some (.int .i64 k):=(Z8 _ _ _ hBl).trans hB
 go_enter Tryz.func35,Tryz.ntmps35
 go_wp2
 all_goals exact ZpW (by simp[results,Tryz.f35,go_sem];rfl) rfl ⟨_,rfl,HAL.out⟩
def Zm1 (b:BelP) (w:World) (e:Ending) (w':World):Prop:=∃ r:Bool,e=.returned (.bool r)/\(r=false->LimB b)/\Below w.heap.size w w'
theorem Zgr {b:BelP} {lv sv:Value} {w:World} (h:BelIn b lv sv w):Calls Tryz.prog 10 #[belV b lv sv,.int .i64 256] w (Zm1 b w):=by
 obtain⟨ng,hng⟩:=ZqJ b.sea.land.length
 obtain⟨pg,cg,rfl,_,_⟩:=h.sea.land.shape hng
 obtain⟨ns,hns⟩:=ZqJ b.scenes.length
 obtain⟨ps,cs,rfl,hc1,hc2⟩:=h.scenes.shape hns
 have HNS:=ZqH hns
 have HAT:=ZqH (fun h0=>Zb7.at h.scenes hns h0)
 have HE1:Hid (Env w.heap.size w [(w.heap.size,belO b (.slice pg ng cg) (.slice ps ns cs))] [] (w.alloc (belO b (.slice pg ng cg) (.slice ps ns cs)))):=(Env.start w).push _ rfl
 obtain⟨w1,hw1⟩:=ZqJ (w.alloc (belO b (.slice pg ng cg) (.slice ps ns cs)))
 rw[hw1] at HE1
 obtain⟨c0,c1,c2,c3,c4⟩:=Zv (HE1.out.block 0 rfl)
 clear h hng hns
 go_enter Tryz.func10,Tryz.ntmps10
 go_wp2_with fail
 refine(Zki (g:=b.sea) (p0:=pg) (n0:=ng) (c0:=cg) (k:=256)).mono ?_
 rintro e w2 ⟨r,rfl,hb⟩
 have HE2:=ZqH (HE1.out.step hb)
 clear hb HE1 c0 c1 c2 c3 c4 hw1
 obtain⟨c0,c1,c2,c3,c4⟩:=Zv (HE2.out.block 0 rfl)
 cases r
 rotate_left
 ·skip
  go_wp2
  exact ZpW (by simp[results,Tryz.f10,go_sem]) rfl ⟨true,rfl,(fun h=>by cases h),HE2.out.base⟩
 by_cases h9:(9:Int)<(ns:Int)
 ·skip
  go_wp2
  exact ZpW (by simp[results,Tryz.f10,go_sem]) rfl ⟨true,rfl,(fun h=>by cases h),HE2.out.base⟩
 go_wp2_with fail
 clear c0 c1 c2 c3 c4
 go_loopg [6] (ns+1) (fun gn iv wr=>∃ k:Nat,iv=.int .i64 k/\(k<=ns/\ns-k<gn)/\Hid (∀ i,i<k->LimS (scA b.scenes i))/\Hid (Env w.heap.size w [(w.heap.size,belO b (.slice pg ng cg) (.slice ps ns cs))] [] wr))
 case atStart=>exact⟨0,rfl,⟨Zp8 _,Za⟩,fun i h=>Zqx h (Zql _),HE2⟩
 case round=>
  obtain⟨k,rfl,⟨hk,hkg⟩,HD,HER⟩:=hrel
  obtain⟨c0,c1,c2,c3,c4⟩:=Zv (HER.out.block 0 rfl)
  by_cases hlt:k<ns
  ·obtain⟨sb,so,rfl,p0,n0,d0,p1,n1,d1,hat⟩:=HAT.out Za
   obtain⟨hcell,hsh,hst⟩:=hat k hlt
   obtain⟨e0,e1,e2,e3⟩:=hcell wr HER.out.base
   obtain⟨pa,hpa⟩:=ZqJ (p0 k)
   obtain⟨na,hna⟩:=ZqJ (n0 k)
   obtain⟨ca,hca⟩:=ZqJ (d0 k)
   obtain⟨pb,hpb⟩:=ZqJ (p1 k)
   obtain⟨nb,hnb⟩:=ZqJ (n1 k)
   obtain⟨cb,hcb⟩:=ZqJ (d1 k)
   rw[hpa,hna,hca] at e2 hsh
   rw[hpb,hnb,hcb] at e3 hst
   obtain⟨sc,hsc⟩:=ZqJ (scA b.scenes k)
   have HSC:=ZqH hsc
   rw[hsc] at e0 e1 hsh hst
   obtain⟨⟨s1,s2⟩,hsw⟩:∃ z,sc.weight=z:=⟨_,rfl⟩
   have HSW:=ZqH hsw
   rw[hsw] at e0 e1
   dsimp only at e0 e1
   have hal:sc.start.length=na:=hsh.len
   have hbl:sc.strides.length=nb:=hst.len
   have hba:na<=9223372036854775807:=by obtain⟨p,c,e,h1,h2⟩:=hsh.shape hal;cases e;omega
   have hbb:nb<=9223372036854775807:=by obtain⟨p,c,e,h1,h2⟩:=hst.shape hbl;cases e;omega
   have HSH:=ZqH (hsh.after ZbQ.stays HER.out.base ZqI)
   have HST:=ZqH (hst.after Zb1.stays HER.out.base ZqI)
   have HAL:=ZqH hal
   have HBL:=ZqH hbl
   obtain⟨W,hW⟩:=ZqJ (wr.alloc (scO s1 s2 (.slice pa na ca) (.slice pb nb cb)))
   obtain⟨q,hq⟩:=ZqJ wr.heap.size
   have HEW:Hid (Env w.heap.size w [(q,scO s1 s2 (.slice pa na ca) (.slice pb nb cb)),(w.heap.size,belO b (.slice pg ng cg) (.slice (some ⟨sb,so,none⟩) ns cs))] [] W):=by rw[<- hW,<- hq];exact HER.out.push _ rfl
   have HBW:ZqB wr W:=by show Below _ _ _;rw[<- hW];exact(ZpV _ wr).alloc ZqI _
   have a0:=HEW.out.cell 0 0 (v:=.string s1) rfl rfl
   have a1:=HEW.out.cell 0 1 (v:=.string s2) rfl rfl
   have a2:=HEW.out.cell 0 2 (v:=.slice pa na ca) rfl rfl
   have a3:=HEW.out.cell 0 3 (v:=.slice pb nb cb) rfl rfl
   have i0':(0:Int)<=(k:Int):=Za
   have i1':(k:Int)<(ns:Int):=Za
   clear hat hcell hsh hst hpa hna hca hpb hnb hcb hsc hsw hal hbl
   go_upto_region 8 with (fail)
   clear hW hq e0 e1 e2 e3
   go_cut [80] from 33 to 80 (fun s80 wc=>∃ r:Bool,s80=.bool r/\(r=false->s1.size<=20/\s2.size<=20)/\wc=W)
   case first=>
    by_cases hA:(12:Int)<(na:Int)
    ·by_cases hB:(na:Int)<=256
     ·skip
      go_wp2
      go_meet
      refine⟨_,rfl,fun hr=>?_,rfl⟩
      first
       | (cases hr;done)
       | (constructor<;>omega)
     ·skip
      by_cases hC:(258:Int)<(na:Int)
      ·skip
       go_wp2
       go_meet
       refine⟨_,rfl,fun hr=>?_,rfl⟩
       first
        | (cases hr;done)
        | (constructor<;>omega)
      ·skip
       by_cases hD':(6:Int)<(nb:Int)
       ·by_cases hE:(nb:Int)<=25
        ·skip
         go_wp2
         go_meet
         refine⟨_,rfl,fun hr=>?_,rfl⟩
         first
          | (cases hr;done)
          | (constructor<;>omega)
        ·skip
         by_cases hF:(26:Int)<(nb:Int)
         ·skip
          go_wp2
          go_meet
          refine⟨_,rfl,fun hr=>?_,rfl⟩
          first
           | (cases hr;done)
           | (constructor<;>omega)
         ·skip
          by_cases h1:(20:Int)<(s1.size:Int)
          ·skip
           go_wp2
           go_meet
           refine⟨_,rfl,fun hr=>?_,rfl⟩
           first
            | (cases hr;done)
            | (constructor<;>omega)
          by_cases h2:(20:Int)<(s2.size:Int)
          ·skip
           go_wp2
           go_meet
           refine⟨_,rfl,fun hr=>?_,rfl⟩
           first
            | (cases hr;done)
            | (constructor<;>omega)
          ·skip
           go_wp2
           go_meet
           refine⟨_,rfl,fun hr=>?_,rfl⟩
           first
            | (cases hr;done)
            | (constructor<;>omega)
       ·have hF:¬ (26:Int)<(nb:Int):=Za
        by_cases h1:(20:Int)<(s1.size:Int)
        ·skip
         go_wp2
         go_meet
         refine⟨_,rfl,fun hr=>?_,rfl⟩
         first
          | (cases hr;done)
          | (constructor<;>omega)
        by_cases h2:(20:Int)<(s2.size:Int)
        ·skip
         go_wp2
         go_meet
         refine⟨_,rfl,fun hr=>?_,rfl⟩
         first
          | (cases hr;done)
          | (constructor<;>omega)
        ·skip
         go_wp2
         go_meet
         refine⟨_,rfl,fun hr=>?_,rfl⟩
         first
          | (cases hr;done)
          | (constructor<;>omega)
    ·have hC:¬ (258:Int)<(na:Int):=Za
     by_cases hD':(6:Int)<(nb:Int)
     ·by_cases hE:(nb:Int)<=25
      ·skip
       go_wp2
       go_meet
       refine⟨_,rfl,fun hr=>?_,rfl⟩
       first
        | (cases hr;done)
        | (constructor<;>omega)
      ·skip
       by_cases hF:(26:Int)<(nb:Int)
       ·skip
        go_wp2
        go_meet
        refine⟨_,rfl,fun hr=>?_,rfl⟩
        first
         | (cases hr;done)
         | (constructor<;>omega)
       ·skip
        by_cases h1:(20:Int)<(s1.size:Int)
        ·skip
         go_wp2
         go_meet
         refine⟨_,rfl,fun hr=>?_,rfl⟩
         first
          | (cases hr;done)
          | (constructor<;>omega)
        by_cases h2:(20:Int)<(s2.size:Int)
        ·skip
         go_wp2
         go_meet
         refine⟨_,rfl,fun hr=>?_,rfl⟩
         first
          | (cases hr;done)
          | (constructor<;>omega)
        ·skip
         go_wp2
         go_meet
         refine⟨_,rfl,fun hr=>?_,rfl⟩
         first
          | (cases hr;done)
          | (constructor<;>omega)
     ·have hF:¬ (26:Int)<(nb:Int):=Za
      by_cases h1:(20:Int)<(s1.size:Int)
      ·skip
       go_wp2
       go_meet
       refine⟨_,rfl,fun hr=>?_,rfl⟩
       first
        | (cases hr;done)
        | (constructor<;>omega)
      by_cases h2:(20:Int)<(s2.size:Int)
      ·skip
       go_wp2
       go_meet
       refine⟨_,rfl,fun hr=>?_,rfl⟩
       first
        | (cases hr;done)
        | (constructor<;>omega)
      ·skip
       go_wp2
       go_meet
       refine⟨_,rfl,fun hr=>?_,rfl⟩
       first
        | (cases hr;done)
        | (constructor<;>omega)
   case rest=>
    obtain⟨r,rfl,hr,rfl⟩:=hcut
    cases r with
    | true=>
     go_wp2
     exact ZpW (by simp[results,Tryz.f10,go_sem]) rfl ⟨true,rfl,(fun h=>by cases h),HEW.out.base⟩
    | false=>
     obtain⟨h1,h2⟩:=hr rfl
     have HS12:=ZqH (Zqy h1 h2)
     have HSHW:=ZqH (HSH.out.after ZbQ.stays HBW.out ZqI)
     have HSTW:=ZqH (HST.out.after Zb1.stays HBW.out ZqI)
     clear hr h1 h2 HSH HST
     go_wp2_with fail
     go_loopw [8] (fun iv wv=>∃ i:Nat,iv=.int .i64 i/\i<=na/\Hid (∀ x,x<i->Sz1 (shA sc.start x).weight)/\wv=wc) (fun iv _=>na-(intOf iv).toNat)
     case atStart=>exact⟨0,rfl,Zp8 _,fun x h=>Zqx h (Zql _),rfl⟩
     case round=>
      obtain⟨i,rfl,hi,HI,rfl⟩:=hrel
      by_cases hin:i<na
      ·obtain⟨tb,tz,rfl,hat⟩:=Zay.at HSHW.out HAL.out Za
       obtain⟨t0,t1,t2,t3⟩:=hat wr (ZpV _ _) i hin
       obtain⟨⟨x,y⟩,hxy⟩:∃ z,(shA sc.start i).weight=z:=⟨_,rfl⟩
       have HXY:=ZqH hxy
       rw[hxy] at t2 t3
       dsimp only at t2 t3
       have j0:(0:Int)<=(i:Int):=Za
       have j1:(i:Int)<(na:Int):=Za
       clear hat hxy t0 t1
       by_cases h1:(20:Int)<(x.size:Int)
       ·skip
        go_wp2
        exact ZpW (by simp[results,Tryz.f10,go_sem]) rfl ⟨true,rfl,(fun h=>by cases h),HEW.out.base⟩
       by_cases h2:(20:Int)<(y.size:Int)
       ·skip
        go_wp2
        exact ZpW (by simp[results,Tryz.f10,go_sem]) rfl ⟨true,rfl,(fun h=>by cases h),HEW.out.base⟩
       have HI2:Hid (∀ z,z<i+1->Sz1 (shA sc.start z).weight):=fun z hz=>by
        rcases Zp1 z i with h | h
        ·exact HI.out z h
        ·obtain rfl:z=i:=Za
         rw[HXY.out]
         exact⟨by show x.size<=1000000;omega,by show y.size<=1000000;omega⟩
       go_wp2
       go_roundw
       case rel=>exact⟨i+1,by go_num,(by first | omega | exact hin),HI2,by first | rfl | trivial⟩
       case measure=>simp[intOf];first | omega | exact Nat.sub_lt_sub_left hin (Nat.lt_succ_self _)
      ·obtain rfl:i=na:=Za
       go_wp2_with fail
       go_loopw [9] (fun iv wv=>∃ i:Nat,iv=.int .i64 i/\i<=nb/\Hid (∀ x,x<i->Sz1 (stA sc.strides x).chance)/\wv=wr) (fun iv _=>nb-(intOf iv).toNat)
       case atStart=>exact⟨0,rfl,Zp8 _,fun x h=>Zqx h (Zql _),rfl⟩
       case round=>
        obtain⟨j,rfl,hj,HJ,rfl⟩:=hrel
        by_cases hjn:j<nb
        ·obtain⟨tb,tz,rfl,hat⟩:=Zad.at HSTW.out HBL.out Za
         obtain⟨t0,t1,t2,t3⟩:=hat wr (ZpV _ _) j hjn
         obtain⟨⟨x,y⟩,hxy⟩:∃ z,(stA sc.strides j).chance=z:=⟨_,rfl⟩
         have HXY:=ZqH hxy
         rw[hxy] at t2 t3
         dsimp only at t2 t3
         have j0:(0:Int)<=(j:Int):=Za
         have j1:(j:Int)<(nb:Int):=Za
         clear hat hxy t0 t1
         by_cases h1:(20:Int)<(x.size:Int)
         ·skip
          go_wp2
          exact ZpW (by simp[results,Tryz.f10,go_sem]) rfl ⟨true,rfl,(fun h=>by cases h),HEW.out.base⟩
         by_cases h2:(20:Int)<(y.size:Int)
         ·skip
          go_wp2
          exact ZpW (by simp[results,Tryz.f10,go_sem]) rfl ⟨true,rfl,(fun h=>by cases h),HEW.out.base⟩
         have HI2:Hid (∀ z,z<j+1->Sz1 (stA sc.strides z).chance):=fun z hz=>by
          rcases Zp1 z j with h | h
          ·exact HJ.out z h
          ·obtain rfl:z=j:=Za
           rw[HXY.out]
           exact⟨by show x.size<=1000000;omega,by show y.size<=1000000;omega⟩
         go_wp2
         go_roundw
         case rel=>exact⟨j+1,by go_num,(by first | omega | exact hjn),HI2,by first | rfl | trivial⟩
         case measure=>simp[intOf];first | omega | exact Nat.sub_lt_sub_left hjn (Nat.lt_succ_self _)
        ·obtain rfl:j=nb:=Za
         have HD2:Hid (∀ i,i<k+1->LimS (scA b.scenes i)):=fun z hz=>by
          rcases Zp1 z k with h | h
          ·exact HD.out z h
          ·obtain rfl:z=k:=Za
           rw[HSC.out]
           refine⟨by rw[HSW.out];exact⟨by have:=HS12.out.1;show s1.size<=1000000;omega,by have:=HS12.out.2;show s2.size<=1000000;omega⟩,fun x hx=>?_,fun x hx=>?_⟩
           ·obtain⟨l,hl,rfl⟩:=List.getElem_of_mem hx
            rw[Zc2 hl]
            exact HI.out l (by rw[<- HAL.out];exact hl)
           ·obtain⟨l,hl,rfl⟩:=List.getElem_of_mem hx
            rw[ZcG hl]
            exact HJ.out l (by rw[<- HBL.out];exact hl)
         have HE9:=ZqH HEW.out.tail
         obtain⟨gk',rfl⟩:∃ z,gk=z+1:=⟨gk-1,Za⟩
         go_wp2
         go_roundg gk'
         case measure=>omega
         case rel=>exact⟨k+1,by go_num,⟨Za,Za⟩,HD2,HE9⟩
  ·obtain rfl:k=ns:=Za
   have HL:Hid (LimB b):=fun s hs=>by
    obtain⟨j,hj,rfl⟩:=List.getElem_of_mem hs
    rw[ZdC hj]
    exact HD.out j (by rw[<- HNS.out];exact hj)
   go_wp2
   exact ZpW (by simp[results,Tryz.f10,go_sem]) rfl ⟨false,rfl,(fun _=>HL.out),HER.out.base⟩
def Zov (l:List NoteP) (w:World) (e:Ending) (w':World):Prop:=∃ r:Bool,e=.returned (.bool r)/\(r=false->LimN l)/\Below w.heap.size w w'
theorem ZoA {l:List NoteP} {nl:Value} {t:Nat} {w:World} (hl:Zbm w nl l):Calls Tryz.prog 11 #[nl,.int .i64 t,.slice none 0 0] w (Zov l w):=by
 obtain⟨n,hn⟩:=ZqJ l.length
 obtain⟨pn,cn,rfl,_,_⟩:=hl.shape hn
 have HN:=ZqH hn
 have HAT:=ZqH (fun h0=>Zbm.at hl hn h0)
 clear hl hn
 go_enter Tryz.func11,Tryz.ntmps11
 go_upto_region 1 with (fail)
 go_cut [27] from 9 (fun s27 wc=>∃ r:Bool,s27=.bool r/\wc=w)
 case first=>
  go_wp2
  all_goals (go_meet;exact⟨_,rfl,rfl⟩)
 case rest=>
  obtain⟨r,rfl,rfl⟩:=hcut
  cases r with
  | true=>
   go_wp2
   exact ZpW (by simp[results,Tryz.f11,go_sem]) rfl ⟨true,rfl,(fun h=>by cases h),ZpV _ _⟩
  | false=>
   go_wp2_with fail
   go_loopw [7] (fun iv wr=>∃ k:Nat,iv=.int .i64 k/\k<=n/\Hid (∀ i,i<k->Sz2 (ntA l i))/\wr=wc) (fun iv _=>n-(intOf iv).toNat)
   case atStart=>exact⟨0,rfl,Zp8 _,fun i h=>Zqx h (Zql _),rfl⟩
   case round=>
    obtain⟨k,rfl,hk,HD,rfl⟩:=hrel
    by_cases hlt:k<n
    ·obtain⟨nb,no,rfl,p0,n0,c0,hat⟩:=HAT.out Za
     obtain⟨e0,e1,e2,e3,e4,e5,e6⟩:=(hat k hlt).1 wr (ZpV _ _)
     obtain⟨pa,hpa⟩:=ZqJ (p0 k)
     obtain⟨na,hna⟩:=ZqJ (n0 k)
     obtain⟨ca,hca⟩:=ZqJ (c0 k)
     rw[hpa,hna,hca] at e2
     obtain⟨nt,hnt⟩:=ZqJ (ntA l k)
     have HNT:=ZqH hnt
     rw[hnt] at e3 e4 e5 e6
     obtain⟨⟨s1,s2⟩,hsi⟩:∃ z,nt.inn=z:=⟨_,rfl⟩
     obtain⟨⟨s3,s4⟩,hso⟩:∃ z,nt.out=z:=⟨_,rfl⟩
     have HSI:=ZqH hsi
     have HSO:=ZqH hso
     rw[hsi] at e3 e4
     rw[hso] at e5 e6
     dsimp only at e3 e4 e5 e6
     have i0':(0:Int)<=(k:Int):=Za
     have i1':(k:Int)<(n:Int):=Za
     clear hat hpa hna hca hnt hsi hso e0 e1
     by_cases hA:(300:Int)<(na:Int)
     ·skip
      go_wp2
      exact ZpW (by simp[results,Tryz.f11,go_sem]) rfl ⟨true,rfl,(fun h=>by cases h),ZpV _ _⟩
     by_cases h1:(20:Int)<(s1.size:Int)
     ·skip
      go_wp2
      exact ZpW (by simp[results,Tryz.f11,go_sem]) rfl ⟨true,rfl,(fun h=>by cases h),ZpV _ _⟩
     by_cases h2:(20:Int)<(s2.size:Int)
     ·skip
      go_wp2
      exact ZpW (by simp[results,Tryz.f11,go_sem]) rfl ⟨true,rfl,(fun h=>by cases h),ZpV _ _⟩
     by_cases h3:(20:Int)<(s3.size:Int)
     ·skip
      go_wp2
      exact ZpW (by simp[results,Tryz.f11,go_sem]) rfl ⟨true,rfl,(fun h=>by cases h),ZpV _ _⟩
     by_cases h4:(20:Int)<(s4.size:Int)
     ·skip
      go_wp2
      exact ZpW (by simp[results,Tryz.f11,go_sem]) rfl ⟨true,rfl,(fun h=>by cases h),ZpV _ _⟩
     have HD2:Hid (∀ i,i<k+1->Sz2 (ntA l i)):=fun z hz=>by
      rcases Zp1 z k with h | h
      ·exact HD.out z h
      ·obtain rfl:z=k:=Za
       rw[HNT.out]
       unfold Sz2
       rw[HSI.out,HSO.out]
       exact⟨⟨by show s1.size<=1000000;omega,by show s2.size<=1000000;omega⟩,by show s3.size<=1000000;omega,by show s4.size<=1000000;omega⟩
     go_wp2
     go_roundw
     case rel=>exact⟨k+1,by go_num,Za,HD2,by first | rfl | trivial⟩
     case measure=>exact Zj
    ·obtain rfl:k=n:=Za
     have HL:Hid (LimN l):=fun x hx=>by
      obtain⟨j,hj,rfl⟩:=List.getElem_of_mem hx
      rw[Zbn hj]
      exact HD.out j (by rw[<- HN.out];exact hj)
     go_wp2_with fail
     go_loopw [8] (fun iv wv=>iv=.int .i64 0/\wv=wr) (fun _ _=>0)
     case atStart=>exact⟨rfl,rfl⟩
     case round=>
      obtain⟨rfl,rfl⟩:=hrel
      go_wp2
      exact ZpW (by simp[results,Tryz.f11,go_sem]) rfl ⟨false,rfl,(fun _=>HL.out),ZpV _ _⟩
theorem Zkx {b:BelP} {lv sv nl:Value} {l:List NoteP} {t m1 m2:Nat} {w:World} (h:BelIn b lv sv w) (hl:Zbm w nl l):Calls Tryz.prog 12 #[belV b lv sv,nl,.int .i64 t,.int .i64 m1,.int .i64 m2] w (Zmb w):=by
 obtain⟨ng,hng⟩:=ZqJ b.sea.land.length
 obtain⟨pg,cg,rfl,_,_⟩:=h.sea.land.shape hng
 obtain⟨ns,hns⟩:=ZqJ b.scenes.length
 obtain⟨ps,cs,rfl,hc1,hc2⟩:=h.scenes.shape hns
 obtain⟨nl',hnl⟩:=ZqJ l.length
 obtain⟨pn,cn,rfl,hc3,hc4⟩:=hl.shape hnl
 have HAT:=ZqH (fun h0=>Zb7.at h.scenes hns h0)
 have HNT:=ZqH (fun h0=>Zbm.at hl hnl h0)
 have HE1:Hid (Env w.heap.size w [(w.heap.size+1,inO t),(w.heap.size,belO b (.slice pg ng cg) (.slice ps ns cs))] [] ((w.alloc (belO b (.slice pg ng cg) (.slice ps ns cs))).alloc (inO t))):=((Env.start w).push _ rfl).push _ Zc
 obtain⟨w1,hw1⟩:=ZqJ ((w.alloc (belO b (.slice pg ng cg) (.slice ps ns cs))).alloc (inO t))
 rw[hw1] at HE1
 obtain⟨c0,c1,c2,c3,c4⟩:=Zv (HE1.out.block 1 rfl)
 clear h hng hns hl hnl
 go_enter Tryz.func12,Tryz.ntmps12
 go_wp2_with fail
 clear c0 c1 c2 c3 c4 hw1
 go_loopw [24] (fun iv wr=>∃ k:Nat,iv=.int .i64 k/\k<=ns/\Hid (Env w.heap.size w [(w.heap.size+1,inO t),(w.heap.size,belO b (.slice pg ng cg) (.slice ps ns cs))] [] wr)) (fun iv _=>ns-(intOf iv).toNat)
 case atStart=>exact⟨0,rfl,Zp8 _,HE1⟩
 case round=>
  obtain⟨k,rfl,hk,HER⟩:=hrel
  by_cases hlt:k<ns
  ·obtain⟨sb,so,rfl,p0,n0,d0,p1,n1,d1,hat⟩:=HAT.out Za
   obtain⟨hcell,hsh,hst⟩:=hat k hlt
   obtain⟨e0,e1,e2,e3⟩:=hcell wr HER.out.base
   obtain⟨pa,hpa⟩:=ZqJ (p0 k)
   obtain⟨na,hna⟩:=ZqJ (n0 k)
   obtain⟨ca,hca⟩:=ZqJ (d0 k)
   obtain⟨pb,hpb⟩:=ZqJ (p1 k)
   obtain⟨nb,hnb⟩:=ZqJ (n1 k)
   obtain⟨cb,hcb⟩:=ZqJ (d1 k)
   rw[hpa,hna,hca] at e2 hsh
   rw[hpb,hnb,hcb] at e3 hst
   obtain⟨sc,hsc⟩:=ZqJ (scA b.scenes k)
   rw[hsc] at e0 e1 hsh hst
   obtain⟨⟨s1,s2⟩,hsw⟩:∃ z,sc.weight=z:=⟨_,rfl⟩
   rw[hsw] at e0 e1
   dsimp only at e0 e1
   have hal:sc.start.length=na:=hsh.len
   have hbl:sc.strides.length=nb:=hst.len
   have hba:na<=9223372036854775807:=by obtain⟨p,c,e,h1,h2⟩:=hsh.shape hal;cases e;omega
   have hbb:nb<=9223372036854775807:=by obtain⟨p,c,e,h1,h2⟩:=hst.shape hbl;cases e;omega
   have HSH:=ZqH hsh
   have HST:=ZqH hst
   have HAL:=ZqH hal
   have HBL:=ZqH hbl
   obtain⟨W,hW⟩:=ZqJ (wr.alloc (scO s1 s2 (.slice pa na ca) (.slice pb nb cb)))
   obtain⟨q,hq⟩:=ZqJ wr.heap.size
   have HEW:Hid (Env w.heap.size w [(q,scO s1 s2 (.slice pa na ca) (.slice pb nb cb)),(w.heap.size+1,inO t),(w.heap.size,belO b (.slice pg ng cg) (.slice (some ⟨sb,so,none⟩) ns cs))] [] W):=by rw[<- hW,<- hq];exact HER.out.push _ rfl
   have a0:=HEW.out.cell 0 0 (v:=.string s1) rfl rfl
   have a1:=HEW.out.cell 0 1 (v:=.string s2) rfl rfl
   have a2:=HEW.out.cell 0 2 (v:=.slice pa na ca) rfl rfl
   have a3:=HEW.out.cell 0 3 (v:=.slice pb nb cb) rfl rfl
   have i0':(0:Int)<=(k:Int):=Za
   have i1':(k:Int)<(ns:Int):=Za
   clear hat hcell hsh hst hpa hna hca hpb hnb hcb hsc hsw hal hbl
   go_wp2_with fail
   refine(ZcZ t (w.heap.size+1) s1 s2 W (HEW.out.cell 1 0 rfl rfl)).mono ?_
   rintro e w2 ⟨r,rfl,hb⟩
   have HE2:=ZqH (HEW.out.step hb)
   clear hb a0 a1 a2 a3 e0 e1 e2 e3 hW hq HEW
   have a2:=HE2.out.cell 0 2 (v:=.slice pa na ca) rfl rfl
   have a3:=HE2.out.cell 0 3 (v:=.slice pb nb cb) rfl rfl
   cases r with
   | false=>
    go_wp2
    exact ZpW (by simp[results,Tryz.f12,go_sem]) rfl ⟨false,rfl,HE2.out.base⟩
   | true=>
    by_cases hA:(m1:Int)<(na:Int)
    ·have hA1:m1<na:=Za
     go_wp2
     exact ZpW (by simp[results,Tryz.f12,go_sem]) rfl ⟨false,rfl,HE2.out.base⟩
    have hA1:¬ m1<na:=Za
    by_cases hB:(m2:Int)<(nb:Int)
    ·have hB1:m2<nb:=Za
     go_wp2
     exact ZpW (by simp[results,Tryz.f12,go_sem]) rfl ⟨false,rfl,HE2.out.base⟩
    have hB1:¬ m2<nb:=Za
    go_wp2_with fail
    clear a2 a3
    go_loopw [50] (fun iv wv=>∃ i:Nat,iv=.int .i64 i/\i<=na/\Hid (Env w.heap.size w [(q,scO s1 s2 (.slice pa na ca) (.slice pb nb cb)),(w.heap.size+1,inO t),(w.heap.size,belO b (.slice pg ng cg) (.slice (some ⟨sb,so,none⟩) ns cs))] [] wv)) (fun iv _=>na-(intOf iv).toNat)
    case atStart=>exact⟨0,rfl,Zp8 _,HE2⟩
    case round=>
     obtain⟨i,rfl,hi,HEI⟩:=hrel
     by_cases hin:i<na
     ·obtain⟨tb,tz,rfl,hat⟩:=Zay.at HSH.out HAL.out Za
      obtain⟨t0,t1,t2,t3⟩:=hat wr HEI.out.base i hin
      obtain⟨⟨x,y,⟨u,v⟩⟩,hxy⟩:∃ z,shA sc.start i=z:=⟨_,rfl⟩
      rw[hxy] at t0 t1 t2 t3
      dsimp only at t0 t1 t2 t3
      have j0:(0:Int)<=(i:Int):=Za
      have j1:(i:Int)<(na:Int):=Za
      obtain⟨W,hW⟩:=ZqJ (wr.alloc (shO x y u v))
      obtain⟨q2,hq⟩:=ZqJ wr.heap.size
      have HEV:Hid (Env w.heap.size w [(q2,shO x y u v),(q,scO s1 s2 (.slice (some ⟨tb,tz,none⟩) na ca) (.slice pb nb cb)),(w.heap.size+1,inO t),(w.heap.size,belO b (.slice pg ng cg) (.slice (some ⟨sb,so,none⟩) ns cs))] [] W):=by rw[<- hW,<- hq];exact HEI.out.push _ rfl
      have a0:=HEV.out.cell 0 0 (v:=.int .i64 x) rfl rfl
      have a1:=HEV.out.cell 0 1 (v:=.int .i64 y) rfl rfl
      have a2:=HEV.out.cell 0 2 (v:=.string u) rfl rfl
      have a3:=HEV.out.cell 0 3 (v:=.string v) rfl rfl
      clear hat hxy
      go_wp2_with fail
      refine(ZcZ t (w.heap.size+1) u v W (HEV.out.cell 2 0 rfl rfl)).mono ?_
      rintro e w3 ⟨r,rfl,hb⟩
      have HE3:=ZqH (HEV.out.step hb)
      clear hb a0 a1 a2 a3 t0 t1 t2 t3 hW hq HEV
      cases r with
      | false=>
       go_wp2
       exact ZpW (by simp[results,Tryz.f12,go_sem]) rfl ⟨false,rfl,HE3.out.base⟩
      | true=>
       have HE4:=ZqH HE3.out.tail
       go_wp2
       go_roundw
       case rel=>exact⟨i+1,by go_num,(by first | omega | exact hin),HE4⟩
       case measure=>simp[intOf];first | omega | exact Nat.sub_lt_sub_left hin (Nat.lt_succ_self _)
     ·obtain rfl:i=na:=Za
      have a2:=HEI.out.cell 0 2 (v:=.slice pa i ca) rfl rfl
      have a3:=HEI.out.cell 0 3 (v:=.slice pb nb cb) rfl rfl
      go_wp2_with fail
      clear a2 a3
      go_loopw [63] (fun iv wv=>∃ j:Nat,iv=.int .i64 j/\j<=nb/\Hid (Env w.heap.size w [(q,scO s1 s2 (.slice pa i ca) (.slice pb nb cb)),(w.heap.size+1,inO t),(w.heap.size,belO b (.slice pg ng cg) (.slice (some ⟨sb,so,none⟩) ns cs))] [] wv)) (fun iv _=>nb-(intOf iv).toNat)
      case atStart=>exact⟨0,rfl,Zp8 _,HEI⟩
      case round=>
       obtain⟨j,rfl,hj,HEJ⟩:=hrel
       by_cases hjn:j<nb
       ·obtain⟨tb,tz,rfl,hat⟩:=Zad.at HST.out HBL.out Za
        obtain⟨t0,t1,t2,t3⟩:=hat wr HEJ.out.base j hjn
        obtain⟨⟨x,y,⟨u,v⟩⟩,hxy⟩:∃ z,stA sc.strides j=z:=⟨_,rfl⟩
        rw[hxy] at t0 t1 t2 t3
        dsimp only at t0 t1 t2 t3
        have j0:(0:Int)<=(j:Int):=Za
        have j1:(j:Int)<(nb:Int):=Za
        obtain⟨W,hW⟩:=ZqJ (wr.alloc (stO x y u v))
        obtain⟨q2,hq⟩:=ZqJ wr.heap.size
        have HEV:Hid (Env w.heap.size w [(q2,stO x y u v),(q,scO s1 s2 (.slice pa i ca) (.slice (some ⟨tb,tz,none⟩) nb cb)),(w.heap.size+1,inO t),(w.heap.size,belO b (.slice pg ng cg) (.slice (some ⟨sb,so,none⟩) ns cs))] [] W):=by rw[<- hW,<- hq];exact HEJ.out.push _ rfl
        have a0:=HEV.out.cell 0 0 (v:=.int .i64 x) rfl rfl
        have a1:=HEV.out.cell 0 1 (v:=.int .i64 y) rfl rfl
        have a2:=HEV.out.cell 0 2 (v:=.string u) rfl rfl
        have a3:=HEV.out.cell 0 3 (v:=.string v) rfl rfl
        clear hat hxy
        go_wp2_with fail
        refine(ZcZ t (w.heap.size+1) u v W (HEV.out.cell 2 0 rfl rfl)).mono ?_
        rintro e w3 ⟨r,rfl,hb⟩
        have HE3:=ZqH (HEV.out.step hb)
        clear hb a0 a1 a2 a3 t0 t1 t2 t3 hW hq HEV
        cases r with
        | false=>
         go_wp2
         exact ZpW (by simp[results,Tryz.f12,go_sem]) rfl ⟨false,rfl,HE3.out.base⟩
        | true=>
         have HE4:=ZqH HE3.out.tail
         go_wp2
         go_roundw
         case rel=>exact⟨j+1,by go_num,(by first | omega | exact hjn),HE4⟩
         case measure=>simp[intOf];first | omega | exact Nat.sub_lt_sub_left hjn (Nat.lt_succ_self _)
       ·obtain rfl:j=nb:=Za
        have HE9:=ZqH HEJ.out.tail
        go_wp2
        go_roundw
        case rel=>exact⟨k+1,by go_num,(by first | omega | exact hlt),HE9⟩
        case measure=>simp[intOf];first | omega | exact Nat.sub_lt_sub_left hlt (Nat.lt_succ_self _)
  ·obtain rfl:k=ns:=Za
   go_wp2_with fail
   go_loopw [76] (fun iv wv=>∃ i:Nat,iv=.int .i64 i/\i<=nl'/\Hid (Env w.heap.size w [(w.heap.size+1,inO t),(w.heap.size,belO b (.slice pg ng cg) (.slice ps k cs))] [] wv)) (fun iv _=>nl'-(intOf iv).toNat)
   case atStart=>exact⟨0,rfl,Zp8 _,HER⟩
   case round=>
    obtain⟨i,rfl,hi,HEI⟩:=hrel
    by_cases hin:i<nl'
    ·obtain⟨nb,no,rfl,p0,n0,d0,hat⟩:=HNT.out Za
     obtain⟨e0,e1,e2,e3,e4,e5,e6⟩:=(hat i hin).1 wr HEI.out.base
     obtain⟨pa,hpa⟩:=ZqJ (p0 i)
     obtain⟨na,hna⟩:=ZqJ (n0 i)
     obtain⟨ca,hca⟩:=ZqJ (d0 i)
     rw[hpa,hna,hca] at e2
     obtain⟨⟨tm,mk,cl,⟨s1,s2⟩,⟨s3,s4⟩⟩,hnt⟩:∃ z,ntA l i=z:=⟨_,rfl⟩
     rw[hnt] at e0 e1 e3 e4 e5 e6
     dsimp only at e0 e1 e3 e4 e5 e6
     have j0:(0:Int)<=(i:Int):=Za
     have j1:(i:Int)<(nl':Int):=Za
     obtain⟨W,hW⟩:=ZqJ (wr.alloc (ntO ⟨tm,mk,cl,⟨s1,s2⟩,⟨s3,s4⟩⟩ (.slice pa na ca)))
     obtain⟨q2,hq⟩:=ZqJ wr.heap.size
     have HEV:Hid (Env w.heap.size w [(q2,ntO ⟨tm,mk,cl,⟨s1,s2⟩,⟨s3,s4⟩⟩ (.slice pa na ca)),(w.heap.size+1,inO t),(w.heap.size,belO b (.slice pg ng cg) (.slice ps k cs))] [] W):=by rw[<- hW,<- hq];exact HEI.out.push _ rfl
     have a3:=HEV.out.cell 0 3 (v:=.string s1) rfl rfl
     have a4:=HEV.out.cell 0 4 (v:=.string s2) rfl rfl
     clear hat hnt hpa hna hca
     go_wp2_with fail
     refine(ZcZ t (w.heap.size+1) s1 s2 W (HEV.out.cell 1 0 rfl rfl)).mono ?_
     rintro e w3 ⟨r,rfl,hb⟩
     have HE3:=ZqH (HEV.out.step hb)
     clear hb a3 a4 e0 e1 e2 e3 e4 e5 e6 hW hq HEV
     cases r with
     | false=>
      go_wp2
      exact ZpW (by simp[results,Tryz.f12,go_sem]) rfl ⟨false,rfl,HE3.out.base⟩
     | true=>
      have a5:=HE3.out.cell 0 5 (v:=.string s3) rfl rfl
      have a6:=HE3.out.cell 0 6 (v:=.string s4) rfl rfl
      go_wp2_with fail
      refine(ZcZ t (w.heap.size+1) s3 s4 w3 (HE3.out.cell 1 0 rfl rfl)).mono ?_
      rintro e w4 ⟨r,rfl,hb⟩
      have HE4:=ZqH (HE3.out.step hb)
      clear hb a5 a6 HE3
      cases r with
      | false=>
       go_wp2
       exact ZpW (by simp[results,Tryz.f12,go_sem]) rfl ⟨false,rfl,HE4.out.base⟩
      | true=>
       have HE9:=ZqH HE4.out.tail
       go_wp2
       go_roundw
       case rel=>exact⟨i+1,by go_num,(by first | omega | exact hin),HE9⟩
       case measure=>simp[intOf];first | omega | exact Nat.sub_lt_sub_left hin (Nat.lt_succ_self _)
    ·obtain rfl:i=nl':=Za
     go_wp2
     exact ZpW (by simp[results,Tryz.f12,go_sem]) rfl ⟨true,rfl,HEI.out.base⟩
theorem Zjx {b:BelP} {ms:Fl} (h:Zcc b=.ok ms):ZF b=true/\MassOk b ms/\totF ms=1:=by
 unfold Zcc at h
 by_cases hb:ZF b=true
 ·rw[if_pos hb] at h
  exact⟨hb,Zdd hb h⟩
 ·rw[if_neg hb] at h;cases h
theorem Zoc {r:Except Int Fl} {w w':World} {e:Ending} (h:MasA r w e w'):∃ (ms:Fl) (p:Option Addr) (n c:Nat) (k:Int),e=.returned (.tuple #[.slice p n c,.int .i64 k])/\ZK w' (.slice p n c) ms/\(k=0->r=.ok ms)/\Below w.heap.size w w':=by
 obtain⟨h,hb⟩:=h
 rcases h with ⟨ms,v,h1,h2,h3,_⟩ | ⟨k,h1,h2,h3⟩
 ·obtain⟨p,c,rfl,_,_⟩:=h3.shape rfl
  exact⟨ms,p,_,c,0,h2,h3,fun _=>h1,hb⟩
 ·exact⟨[],none,0,0,k,h3,LL.nil w',fun e=>Zqx e h2,hb⟩
theorem Zol {r:Except Int (Fl×Rat)} {w w':World} {e:Ending} (h:FilA r w e w'):∃ (ms:Fl) (p:Option Addr) (n c:Nat) (s t:ByteArray) (z:Rat) (k:Int),e=.returned (.tuple #[.slice p n c,pV s t,.int .i64 k])/\ZK w' (.slice p n c) ms/\(k=0->r=.ok (ms,z)/\IsP z s t)/\(k≠0->n=0)/\Below w.heap.size w w':=by
 obtain⟨h,hb⟩:=h
 rcases h with ⟨ms,z,v,s,t,h1,h2,h3,_,h4⟩ | ⟨k,h1,h2,h3⟩
 ·obtain⟨p,c,rfl,_,_⟩:=h3.shape rfl
  exact⟨ms,p,_,c,s,t,z,0,h2,h3,fun _=>⟨h1,h4⟩,fun e=>Zqx rfl e,hb⟩
 ·exact⟨[],none,0,0,_,_,0,k,h3,LL.nil w',fun e=>Zqx e h2,fun _=>rfl,hb⟩
end Go.Proofs.YtjmckebecpjjfaaGreatDoor
