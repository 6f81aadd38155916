/- The parts BelLA, BelLB, BelLD, BelLE, BelLC, BelWh. -/
import Derived.Test.YtjmckebecpjjfaaGreatDoorH25
set_option maxRecDepth 100000
set_option maxHeartbeats 8000000
set_option linter.unusedVariables false
set_option linter.unusedSimpArgs false
namespace Go.Proofs.YtjmckebecpjjfaaGreatDoor
open Go.RowKit Go.Shelf
attribute [local go_sem ↓] Go.wp_at_zero Go.wp_at_succ
def ZjE (w:World) (e:Ending) (w':World):Prop:=∃ r:Bool,e=.returned (.bool r)/\Below w.heap.size w w'
theorem Zh4 {g:GridP} {p0:Option Addr} {n0 c0:Nat} {k:Nat} {w:World} : Calls Tryz.prog 34 #[ZdO g (.slice p0 n0 c0),.int .i64 (k:Int),.slice none 0 0] w (ZjE w):=by
 have HE1:Hid (Env w.heap.size w [(w.heap.size,Zat g (.slice p0 n0 c0))] [] (w.alloc (Zat g (.slice p0 n0 c0)))):=(Env.start w).push _ rfl
 obtain⟨w1,hw1⟩:=ZnM (w.alloc (Zat g (.slice p0 n0 c0)))
 rw[hw1] at HE1
 have g0:=HE1.out.cell 0 0 (v:=.int .i64 g.w) rfl rfl
 have g1:=HE1.out.cell 0 1 (v:=.int .i64 g.h) rfl rfl
 have g3:=HE1.out.cell 0 3 (v:=.slice p0 n0 c0) rfl rfl
 go_enter Tryz.func34,Tryz.ntmps34
 go_upto_region 1 with (fail)
 go_cut [40] from 8 (fun s40 wc=>∃ r:Bool,s40=.bool r/\wc=w1)
 case first=>
  go_wp2
  all_goals (go_meet;exact⟨_,rfl,rfl⟩)
 case rest=>
  obtain⟨r,rfl,rfl⟩:=hcut
  cases r with
  | true=>
   go_wp2
   exact ZmZ (by simp[results,Tryz.f34,go_sem]) rfl ⟨true,rfl,HE1.out.base⟩
  | false=>
   go_wp2_with fail
   go_loopw [7] (fun iv wv=>iv=.int .i64 0/\wv=wc) (fun _ _=>0)
   case atStart=>exact⟨rfl,rfl⟩
   case round=>
    obtain⟨rfl,rfl⟩:=hrel
    go_wp2
    exact ZmZ (by simp[results,Tryz.f34,go_sem]) rfl ⟨false,rfl,HE1.out.base⟩
theorem Zcd (k B:Nat) (s t:ByteArray) (w:World) (hB:w.cell? ⟨B,0,none⟩=some (.int .i64 k)):Calls Tryz.prog 35 #[pV s t,.pointer (some ⟨B,0,none⟩)] w (ZjE w):=by
 have HAL:=ZnK ((ZmY w.heap.size w).alloc ZnL (pObj s t))
 have hBl:=Zni _ _ hB
 have hBc:(w.alloc (pObj s t)).cell? ⟨B,0,none⟩=some (.int .i64 k):=(Z0 _ _ _ hBl).trans hB
 go_enter Tryz.func35,Tryz.ntmps35
 go_wp2
 all_goals exact ZmZ (by simp[results,Tryz.f35,go_sem];rfl) rfl ⟨_,rfl,HAL.out⟩
def Zkp (b:BelP) (w:World) (e:Ending) (w':World):Prop:=∃ r:Bool,e=.returned (.bool r)/\(r=false->LimB b)/\Below w.heap.size w w'
theorem Zik {b:BelP} {lv sv:Value} {w:World} (h:BelIn b lv sv w):Calls Tryz.prog 10 #[belV b lv sv,.int .i64 256] w (Zkp b w):=by
 obtain⟨ng,hng⟩:=ZnM b.sea.land.length
 obtain⟨pg,cg,rfl,_,_⟩:=h.sea.land.shape hng
 obtain⟨ns,hns⟩:=ZnM b.scenes.length
 obtain⟨ps,cs,rfl,hc1,hc2⟩:=h.scenes.shape hns
 have HNS:=ZnK hns
 have HAT:=ZnK (fun h0=>ZbY.at h.scenes hns h0)
 have HE1:Hid (Env w.heap.size w [(w.heap.size,belO b (.slice pg ng cg) (.slice ps ns cs))] [] (w.alloc (belO b (.slice pg ng cg) (.slice ps ns cs)))):=(Env.start w).push _ rfl
 obtain⟨w1,hw1⟩:=ZnM (w.alloc (belO b (.slice pg ng cg) (.slice ps ns cs)))
 rw[hw1] at HE1
 obtain⟨c0,c1,c2,c3,c4⟩:=Zu (HE1.out.block 0 rfl)
 clear h hng hns
 go_enter Tryz.func10,Tryz.ntmps10
 go_wp2_with fail
 refine(Zh4 (g:=b.sea) (p0:=pg) (n0:=ng) (c0:=cg) (k:=256)).mono ?_
 rintro e w2 ⟨r,rfl,hb⟩
 have HE2:=ZnK (HE1.out.step hb)
 clear hb HE1 c0 c1 c2 c3 c4 hw1
 obtain⟨c0,c1,c2,c3,c4⟩:=Zu (HE2.out.block 0 rfl)
 cases r
 rotate_left
 ·skip
  go_wp2
  exact ZmZ (by simp[results,Tryz.f10,go_sem]) rfl ⟨true,rfl,(fun h=>by cases h),HE2.out.base⟩
 by_cases h9:(9:Int)<(ns:Int)
 ·skip
  go_wp2
  exact ZmZ (by simp[results,Tryz.f10,go_sem]) rfl ⟨true,rfl,(fun h=>by cases h),HE2.out.base⟩
 go_wp2_with fail
 clear c0 c1 c2 c3 c4
 go_loopg [6] (ns+1) (fun gn iv wr=>∃ k:Nat,iv=.int .i64 k/\(k<=ns/\ns-k<gn)/\Hid (∀ i,i<k->LimS (scA b.scenes i))/\Hid (Env w.heap.size w [(w.heap.size,belO b (.slice pg ng cg) (.slice ps ns cs))] [] wr))
 case atStart=>exact⟨0,rfl,⟨Znb _,Za⟩,fun i h=>ZnA h (Zno _),HE2⟩
 case round=>
  obtain⟨k,rfl,⟨hk,hkg⟩,HD,HER⟩:=hrel
  obtain⟨c0,c1,c2,c3,c4⟩:=Zu (HER.out.block 0 rfl)
  by_cases hlt:k<ns
  ·obtain⟨sb,so,rfl,p0,n0,d0,p1,n1,d1,hat⟩:=HAT.out Za
   obtain⟨hcell,hsh,hst⟩:=hat k hlt
   obtain⟨e0,e1,e2,e3⟩:=hcell wr HER.out.base
   obtain⟨pa,hpa⟩:=ZnM (p0 k)
   obtain⟨na,hna⟩:=ZnM (n0 k)
   obtain⟨ca,hca⟩:=ZnM (d0 k)
   obtain⟨pb,hpb⟩:=ZnM (p1 k)
   obtain⟨nb,hnb⟩:=ZnM (n1 k)
   obtain⟨cb,hcb⟩:=ZnM (d1 k)
   rw[hpa,hna,hca] at e2 hsh
   rw[hpb,hnb,hcb] at e3 hst
   obtain⟨sc,hsc⟩:=ZnM (scA b.scenes k)
   have HSC:=ZnK hsc
   rw[hsc] at e0 e1 hsh hst
   obtain⟨⟨s1,s2⟩,hsw⟩:∃ z,sc.weight=z:=⟨_,rfl⟩
   have HSW:=ZnK hsw
   rw[hsw] at e0 e1
   dsimp only at e0 e1
   have hal:sc.start.length=na:=hsh.len
   have hbl:sc.strides.length=nb:=hst.len
   have hba:na<=9223372036854775807:=by obtain⟨p,c,e,h1,h2⟩:=hsh.shape hal;cases e;omega
   have hbb:nb<=9223372036854775807:=by obtain⟨p,c,e,h1,h2⟩:=hst.shape hbl;cases e;omega
   have HSH:=ZnK (hsh.after Zbc.stays HER.out.base ZnL)
   have HST:=ZnK (hst.after Zbn.stays HER.out.base ZnL)
   have HAL:=ZnK hal
   have HBL:=ZnK hbl
   obtain⟨W,hW⟩:=ZnM (wr.alloc (scO s1 s2 (.slice pa na ca) (.slice pb nb cb)))
   obtain⟨q,hq⟩:=ZnM wr.heap.size
   have HEW:Hid (Env w.heap.size w [(q,scO s1 s2 (.slice pa na ca) (.slice pb nb cb)),(w.heap.size,belO b (.slice pg ng cg) (.slice (some ⟨sb,so,none⟩) ns cs))] [] W):=by rw[<- hW,<- hq];exact HER.out.push _ rfl
   have HBW:ZnE wr W:=by show Below _ _ _;rw[<- hW];exact(ZmY _ wr).alloc ZnL _
   have a0:=HEW.out.cell 0 0 (v:=.string s1) rfl rfl
   have a1:=HEW.out.cell 0 1 (v:=.string s2) rfl rfl
   have a2:=HEW.out.cell 0 2 (v:=.slice pa na ca) rfl rfl
   have a3:=HEW.out.cell 0 3 (v:=.slice pb nb cb) rfl rfl
   have i0':(0:Int)<=(k:Int):=Za
   have i1':(k:Int)<(ns:Int):=Za
   clear hat hcell hsh hst hpa hna hca hpb hnb hcb hsc hsw hal hbl
   go_upto_region 8 with (fail)
   clear hW hq e0 e1 e2 e3
   go_cut [80] from 33 to 80 (fun s80 wc=>∃ r:Bool,s80=.bool r/\(r=false->s1.size<=20/\s2.size<=20)/\wc=W)
   case first=>
    by_cases hA:(12:Int)<(na:Int)
    ·by_cases hB:(na:Int)<=256
     ·skip
      go_wp2
      go_meet
      refine⟨_,rfl,fun hr=>?_,rfl⟩
      first
       | (cases hr;done)
       | (constructor<;>omega)
     ·skip
      by_cases hC:(258:Int)<(na:Int)
      ·skip
       go_wp2
       go_meet
       refine⟨_,rfl,fun hr=>?_,rfl⟩
       first
        | (cases hr;done)
        | (constructor<;>omega)
      ·skip
       by_cases hD':(6:Int)<(nb:Int)
       ·by_cases hE:(nb:Int)<=25
        ·skip
         go_wp2
         go_meet
         refine⟨_,rfl,fun hr=>?_,rfl⟩
         first
          | (cases hr;done)
          | (constructor<;>omega)
        ·skip
         by_cases hF:(26:Int)<(nb:Int)
         ·skip
          go_wp2
          go_meet
          refine⟨_,rfl,fun hr=>?_,rfl⟩
          first
           | (cases hr;done)
           | (constructor<;>omega)
         ·skip
          by_cases h1:(20:Int)<(s1.size:Int)
          ·skip
           go_wp2
           go_meet
           refine⟨_,rfl,fun hr=>?_,rfl⟩
           first
            | (cases hr;done)
            | (constructor<;>omega)
          by_cases h2:(20:Int)<(s2.size:Int)
          ·skip
           go_wp2
           go_meet
           refine⟨_,rfl,fun hr=>?_,rfl⟩
           first
            | (cases hr;done)
            | (constructor<;>omega)
          ·skip
           go_wp2
           go_meet
           refine⟨_,rfl,fun hr=>?_,rfl⟩
           first
            | (cases hr;done)
            | (constructor<;>omega)
       ·have hF:¬ (26:Int)<(nb:Int):=Za
        by_cases h1:(20:Int)<(s1.size:Int)
        ·skip
         go_wp2
         go_meet
         refine⟨_,rfl,fun hr=>?_,rfl⟩
         first
          | (cases hr;done)
          | (constructor<;>omega)
        by_cases h2:(20:Int)<(s2.size:Int)
        ·skip
         go_wp2
         go_meet
         refine⟨_,rfl,fun hr=>?_,rfl⟩
         first
          | (cases hr;done)
          | (constructor<;>omega)
        ·skip
         go_wp2
         go_meet
         refine⟨_,rfl,fun hr=>?_,rfl⟩
         first
          | (cases hr;done)
          | (constructor<;>omega)
    ·have hC:¬ (258:Int)<(na:Int):=Za
     by_cases hD':(6:Int)<(nb:Int)
     ·by_cases hE:(nb:Int)<=25
      ·skip
       go_wp2
       go_meet
       refine⟨_,rfl,fun hr=>?_,rfl⟩
       first
        | (cases hr;done)
        | (constructor<;>omega)
      ·skip
       by_cases hF:(26:Int)<(nb:Int)
       ·skip
        go_wp2
        go_meet
        refine⟨_,rfl,fun hr=>?_,rfl⟩
        first
         | (cases hr;done)
         | (constructor<;>omega)
       ·skip
        by_cases h1:(20:Int)<(s1.size:Int)
        ·skip
         go_wp2
         go_meet
         refine⟨_,rfl,fun hr=>?_,rfl⟩
         first
          | (cases hr;done)
          | (constructor<;>omega)
        by_cases h2:(20:Int)<(s2.size:Int)
        ·skip
         go_wp2
         go_meet
         refine⟨_,rfl,fun hr=>?_,rfl⟩
         first
          | (cases hr;done)
          | (constructor<;>omega)
        ·skip
         go_wp2
         go_meet
         refine⟨_,rfl,fun hr=>?_,rfl⟩
         first
          | (cases hr;done)
          | (constructor<;>omega)
     ·have hF:¬ (26:Int)<(nb:Int):=Za
      by_cases h1:(20:Int)<(s1.size:Int)
      ·skip
       go_wp2
       go_meet
       refine⟨_,rfl,fun hr=>?_,rfl⟩
       first
        | (cases hr;done)
        | (constructor<;>omega)
      by_cases h2:(20:Int)<(s2.size:Int)
      ·skip
       go_wp2
       go_meet
       refine⟨_,rfl,fun hr=>?_,rfl⟩
       first
        | (cases hr;done)
        | (constructor<;>omega)
      ·skip
       go_wp2
       go_meet
       refine⟨_,rfl,fun hr=>?_,rfl⟩
       first
        | (cases hr;done)
        | (constructor<;>omega)
   case rest=>
    obtain⟨r,rfl,hr,rfl⟩:=hcut
    cases r with
    | true=>
     go_wp2
     exact ZmZ (by simp[results,Tryz.f10,go_sem]) rfl ⟨true,rfl,(fun h=>by cases h),HEW.out.base⟩
    | false=>
     obtain⟨h1,h2⟩:=hr rfl
     have HS12:=ZnK (ZnB h1 h2)
     have HSHW:=ZnK (HSH.out.after Zbc.stays HBW.out ZnL)
     have HSTW:=ZnK (HST.out.after Zbn.stays HBW.out ZnL)
     clear hr h1 h2 HSH HST
     go_wp2_with fail
     go_loopw [8] (fun iv wv=>∃ i:Nat,iv=.int .i64 i/\i<=na/\Hid (∀ x,x<i->Sz1 (shA sc.start x).weight)/\wv=wc) (fun iv _=>na-(intOf iv).toNat)
     case atStart=>exact⟨0,rfl,Znb _,fun x h=>ZnA h (Zno _),rfl⟩
     case round=>
      obtain⟨i,rfl,hi,HI,rfl⟩:=hrel
      by_cases hin:i<na
      ·obtain⟨tb,tz,rfl,hat⟩:=Zai.at HSHW.out HAL.out Za
       obtain⟨t0,t1,t2,t3⟩:=hat wr (ZmY _ _) i hin
       obtain⟨⟨x,y⟩,hxy⟩:∃ z,(shA sc.start i).weight=z:=⟨_,rfl⟩
       have HXY:=ZnK hxy
       rw[hxy] at t2 t3
       dsimp only at t2 t3
       have j0:(0:Int)<=(i:Int):=Za
       have j1:(i:Int)<(na:Int):=Za
       clear hat hxy t0 t1
       by_cases h1:(20:Int)<(x.size:Int)
       ·skip
        go_wp2
        exact ZmZ (by simp[results,Tryz.f10,go_sem]) rfl ⟨true,rfl,(fun h=>by cases h),HEW.out.base⟩
       by_cases h2:(20:Int)<(y.size:Int)
       ·skip
        go_wp2
        exact ZmZ (by simp[results,Tryz.f10,go_sem]) rfl ⟨true,rfl,(fun h=>by cases h),HEW.out.base⟩
       have HI2:Hid (∀ z,z<i+1->Sz1 (shA sc.start z).weight):=fun z hz=>by
        rcases Zm4 z i with h | h
        ·exact HI.out z h
        ·obtain rfl:z=i:=Za
         rw[HXY.out]
         exact⟨by show x.size<=1000000;omega,by show y.size<=1000000;omega⟩
       go_wp2
       go_roundw
       case rel=>exact⟨i+1,by go_num,(by first | omega | exact hin),HI2,by first | rfl | trivial⟩
       case measure=>simp[intOf];first | omega | exact Nat.sub_lt_sub_left hin (Nat.lt_succ_self _)
      ·obtain rfl:i=na:=Za
       go_wp2_with fail
       go_loopw [9] (fun iv wv=>∃ i:Nat,iv=.int .i64 i/\i<=nb/\Hid (∀ x,x<i->Sz1 (stA sc.strides x).chance)/\wv=wr) (fun iv _=>nb-(intOf iv).toNat)
       case atStart=>exact⟨0,rfl,Znb _,fun x h=>ZnA h (Zno _),rfl⟩
       case round=>
        obtain⟨j,rfl,hj,HJ,rfl⟩:=hrel
        by_cases hjn:j<nb
        ·obtain⟨tb,tz,rfl,hat⟩:=Z6.at HSTW.out HBL.out Za
         obtain⟨t0,t1,t2,t3⟩:=hat wr (ZmY _ _) j hjn
         obtain⟨⟨x,y⟩,hxy⟩:∃ z,(stA sc.strides j).chance=z:=⟨_,rfl⟩
         have HXY:=ZnK hxy
         rw[hxy] at t2 t3
         dsimp only at t2 t3
         have j0:(0:Int)<=(j:Int):=Za
         have j1:(j:Int)<(nb:Int):=Za
         clear hat hxy t0 t1
         by_cases h1:(20:Int)<(x.size:Int)
         ·skip
          go_wp2
          exact ZmZ (by simp[results,Tryz.f10,go_sem]) rfl ⟨true,rfl,(fun h=>by cases h),HEW.out.base⟩
         by_cases h2:(20:Int)<(y.size:Int)
         ·skip
          go_wp2
          exact ZmZ (by simp[results,Tryz.f10,go_sem]) rfl ⟨true,rfl,(fun h=>by cases h),HEW.out.base⟩
         have HI2:Hid (∀ z,z<j+1->Sz1 (stA sc.strides z).chance):=fun z hz=>by
          rcases Zm4 z j with h | h
          ·exact HJ.out z h
          ·obtain rfl:z=j:=Za
           rw[HXY.out]
           exact⟨by show x.size<=1000000;omega,by show y.size<=1000000;omega⟩
         go_wp2
         go_roundw
         case rel=>exact⟨j+1,by go_num,(by first | omega | exact hjn),HI2,by first | rfl | trivial⟩
         case measure=>simp[intOf];first | omega | exact Nat.sub_lt_sub_left hjn (Nat.lt_succ_self _)
        ·obtain rfl:j=nb:=Za
         have HD2:Hid (∀ i,i<k+1->LimS (scA b.scenes i)):=fun z hz=>by
          rcases Zm4 z k with h | h
          ·exact HD.out z h
          ·obtain rfl:z=k:=Za
           rw[HSC.out]
           refine⟨by rw[HSW.out];exact⟨by have:=HS12.out.1;show s1.size<=1000000;omega,by have:=HS12.out.2;show s2.size<=1000000;omega⟩,fun x hx=>?_,fun x hx=>?_⟩
           ·obtain⟨l,hl,rfl⟩:=List.getElem_of_mem hx
            rw[Zcf hl]
            exact HI.out l (by rw[<- HAL.out];exact hl)
           ·obtain⟨l,hl,rfl⟩:=List.getElem_of_mem hx
            rw[Zch hl]
            exact HJ.out l (by rw[<- HBL.out];exact hl)
         have HE9:=ZnK HEW.out.tail
         obtain⟨gk',rfl⟩:∃ z,gk=z+1:=⟨gk-1,Za⟩
         go_wp2
         go_roundg gk'
         case measure=>omega
         case rel=>exact⟨k+1,by go_num,⟨Za,Za⟩,HD2,HE9⟩
  ·obtain rfl:k=ns:=Za
   have HL:Hid (LimB b):=fun s hs=>by
    obtain⟨j,hj,rfl⟩:=List.getElem_of_mem hs
    rw[ZcM hj]
    exact HD.out j (by rw[<- HNS.out];exact hj)
   go_wp2
   exact ZmZ (by simp[results,Tryz.f10,go_sem]) rfl ⟨false,rfl,(fun _=>HL.out),HER.out.base⟩
def ZlF (l:List NoteP) (w:World) (e:Ending) (w':World):Prop:=∃ r:Bool,e=.returned (.bool r)/\(r=false->LimN l)/\Below w.heap.size w w'
theorem ZlL {l:List NoteP} {nl:Value} {t:Nat} {w:World} (hl:Zb2 w nl l):Calls Tryz.prog 11 #[nl,.int .i64 t,.slice none 0 0] w (ZlF l w):=by
 obtain⟨n,hn⟩:=ZnM l.length
 obtain⟨pn,cn,rfl,_,_⟩:=hl.shape hn
 have HN:=ZnK hn
 have HAT:=ZnK (fun h0=>Zb2.at hl hn h0)
 clear hl hn
 go_enter Tryz.func11,Tryz.ntmps11
 go_upto_region 1 with (fail)
 go_cut [27] from 9 (fun s27 wc=>∃ r:Bool,s27=.bool r/\wc=w)
 case first=>
  go_wp2
  all_goals (go_meet;exact⟨_,rfl,rfl⟩)
 case rest=>
  obtain⟨r,rfl,rfl⟩:=hcut
  cases r with
  | true=>
   go_wp2
   exact ZmZ (by simp[results,Tryz.f11,go_sem]) rfl ⟨true,rfl,(fun h=>by cases h),ZmY _ _⟩
  | false=>
   go_wp2_with fail
   go_loopw [7] (fun iv wr=>∃ k:Nat,iv=.int .i64 k/\k<=n/\Hid (∀ i,i<k->Sz2 (ntA l i))/\wr=wc) (fun iv _=>n-(intOf iv).toNat)
   case atStart=>exact⟨0,rfl,Znb _,fun i h=>ZnA h (Zno _),rfl⟩
   case round=>
    obtain⟨k,rfl,hk,HD,rfl⟩:=hrel
    by_cases hlt:k<n
    ·obtain⟨nb,no,rfl,p0,n0,c0,hat⟩:=HAT.out Za
     obtain⟨e0,e1,e2,e3,e4,e5,e6⟩:=(hat k hlt).1 wr (ZmY _ _)
     obtain⟨pa,hpa⟩:=ZnM (p0 k)
     obtain⟨na,hna⟩:=ZnM (n0 k)
     obtain⟨ca,hca⟩:=ZnM (c0 k)
     rw[hpa,hna,hca] at e2
     obtain⟨nt,hnt⟩:=ZnM (ntA l k)
     have HNT:=ZnK hnt
     rw[hnt] at e3 e4 e5 e6
     obtain⟨⟨s1,s2⟩,hsi⟩:∃ z,nt.inn=z:=⟨_,rfl⟩
     obtain⟨⟨s3,s4⟩,hso⟩:∃ z,nt.out=z:=⟨_,rfl⟩
     have HSI:=ZnK hsi
     have HSO:=ZnK hso
     rw[hsi] at e3 e4
     rw[hso] at e5 e6
     dsimp only at e3 e4 e5 e6
     have i0':(0:Int)<=(k:Int):=Za
     have i1':(k:Int)<(n:Int):=Za
     clear hat hpa hna hca hnt hsi hso e0 e1
     by_cases hA:(300:Int)<(na:Int)
     ·skip
      go_wp2
      exact ZmZ (by simp[results,Tryz.f11,go_sem]) rfl ⟨true,rfl,(fun h=>by cases h),ZmY _ _⟩
     by_cases h1:(20:Int)<(s1.size:Int)
     ·skip
      go_wp2
      exact ZmZ (by simp[results,Tryz.f11,go_sem]) rfl ⟨true,rfl,(fun h=>by cases h),ZmY _ _⟩
     by_cases h2:(20:Int)<(s2.size:Int)
     ·skip
      go_wp2
      exact ZmZ (by simp[results,Tryz.f11,go_sem]) rfl ⟨true,rfl,(fun h=>by cases h),ZmY _ _⟩
     by_cases h3:(20:Int)<(s3.size:Int)
     ·skip
      go_wp2
      exact ZmZ (by simp[results,Tryz.f11,go_sem]) rfl ⟨true,rfl,(fun h=>by cases h),ZmY _ _⟩
     by_cases h4:(20:Int)<(s4.size:Int)
     ·skip
      go_wp2
      exact ZmZ (by simp[results,Tryz.f11,go_sem]) rfl ⟨true,rfl,(fun h=>by cases h),ZmY _ _⟩
     have HD2:Hid (∀ i,i<k+1->Sz2 (ntA l i)):=fun z hz=>by
      rcases Zm4 z k with h | h
      ·exact HD.out z h
      ·obtain rfl:z=k:=Za
       rw[HNT.out]
       unfold Sz2
       rw[HSI.out,HSO.out]
       exact⟨⟨by show s1.size<=1000000;omega,by show s2.size<=1000000;omega⟩,by show s3.size<=1000000;omega,by show s4.size<=1000000;omega⟩
     go_wp2
     go_roundw
     case rel=>exact⟨k+1,by go_num,Za,HD2,by first | rfl | trivial⟩
     case measure=>exact Zj
    ·obtain rfl:k=n:=Za
     have HL:Hid (LimN l):=fun x hx=>by
      obtain⟨j,hj,rfl⟩:=List.getElem_of_mem hx
      rw[Zgg hj]
      exact HD.out j (by rw[<- HN.out];exact hj)
     go_wp2_with fail
     go_loopw [8] (fun iv wv=>iv=.int .i64 0/\wv=wr) (fun _ _=>0)
     case atStart=>exact⟨rfl,rfl⟩
     case round=>
      obtain⟨rfl,rfl⟩:=hrel
      go_wp2
      exact ZmZ (by simp[results,Tryz.f11,go_sem]) rfl ⟨false,rfl,(fun _=>HL.out),ZmY _ _⟩
theorem Zif {b:BelP} {lv sv nl:Value} {l:List NoteP} {t m1 m2:Nat} {w:World} (h:BelIn b lv sv w) (hl:Zb2 w nl l):Calls Tryz.prog 12 #[belV b lv sv,nl,.int .i64 t,.int .i64 m1,.int .i64 m2] w (ZjE w):=by
 obtain⟨ng,hng⟩:=ZnM b.sea.land.length
 obtain⟨pg,cg,rfl,_,_⟩:=h.sea.land.shape hng
 obtain⟨ns,hns⟩:=ZnM b.scenes.length
 obtain⟨ps,cs,rfl,hc1,hc2⟩:=h.scenes.shape hns
 obtain⟨nl',hnl⟩:=ZnM l.length
 obtain⟨pn,cn,rfl,hc3,hc4⟩:=hl.shape hnl
 have HAT:=ZnK (fun h0=>ZbY.at h.scenes hns h0)
 have HNT:=ZnK (fun h0=>Zb2.at hl hnl h0)
 have HE1:Hid (Env w.heap.size w [(w.heap.size+1,inO t),(w.heap.size,belO b (.slice pg ng cg) (.slice ps ns cs))] [] ((w.alloc (belO b (.slice pg ng cg) (.slice ps ns cs))).alloc (inO t))):=((Env.start w).push _ rfl).push _ Zc
 obtain⟨w1,hw1⟩:=ZnM ((w.alloc (belO b (.slice pg ng cg) (.slice ps ns cs))).alloc (inO t))
 rw[hw1] at HE1
 obtain⟨c0,c1,c2,c3,c4⟩:=Zu (HE1.out.block 1 rfl)
 clear h hng hns hl hnl
 go_enter Tryz.func12,Tryz.ntmps12
 go_wp2_with fail
 clear c0 c1 c2 c3 c4 hw1
 go_loopw [24] (fun iv wr=>∃ k:Nat,iv=.int .i64 k/\k<=ns/\Hid (Env w.heap.size w [(w.heap.size+1,inO t),(w.heap.size,belO b (.slice pg ng cg) (.slice ps ns cs))] [] wr)) (fun iv _=>ns-(intOf iv).toNat)
 case atStart=>exact⟨0,rfl,Znb _,HE1⟩
 case round=>
  obtain⟨k,rfl,hk,HER⟩:=hrel
  by_cases hlt:k<ns
  ·obtain⟨sb,so,rfl,p0,n0,d0,p1,n1,d1,hat⟩:=HAT.out Za
   obtain⟨hcell,hsh,hst⟩:=hat k hlt
   obtain⟨e0,e1,e2,e3⟩:=hcell wr HER.out.base
   obtain⟨pa,hpa⟩:=ZnM (p0 k)
   obtain⟨na,hna⟩:=ZnM (n0 k)
   obtain⟨ca,hca⟩:=ZnM (d0 k)
   obtain⟨pb,hpb⟩:=ZnM (p1 k)
   obtain⟨nb,hnb⟩:=ZnM (n1 k)
   obtain⟨cb,hcb⟩:=ZnM (d1 k)
   rw[hpa,hna,hca] at e2 hsh
   rw[hpb,hnb,hcb] at e3 hst
   obtain⟨sc,hsc⟩:=ZnM (scA b.scenes k)
   rw[hsc] at e0 e1 hsh hst
   obtain⟨⟨s1,s2⟩,hsw⟩:∃ z,sc.weight=z:=⟨_,rfl⟩
   rw[hsw] at e0 e1
   dsimp only at e0 e1
   have hal:sc.start.length=na:=hsh.len
   have hbl:sc.strides.length=nb:=hst.len
   have hba:na<=9223372036854775807:=by obtain⟨p,c,e,h1,h2⟩:=hsh.shape hal;cases e;omega
   have hbb:nb<=9223372036854775807:=by obtain⟨p,c,e,h1,h2⟩:=hst.shape hbl;cases e;omega
   have HSH:=ZnK hsh
   have HST:=ZnK hst
   have HAL:=ZnK hal
   have HBL:=ZnK hbl
   obtain⟨W,hW⟩:=ZnM (wr.alloc (scO s1 s2 (.slice pa na ca) (.slice pb nb cb)))
   obtain⟨q,hq⟩:=ZnM wr.heap.size
   have HEW:Hid (Env w.heap.size w [(q,scO s1 s2 (.slice pa na ca) (.slice pb nb cb)),(w.heap.size+1,inO t),(w.heap.size,belO b (.slice pg ng cg) (.slice (some ⟨sb,so,none⟩) ns cs))] [] W):=by rw[<- hW,<- hq];exact HER.out.push _ rfl
   have a0:=HEW.out.cell 0 0 (v:=.string s1) rfl rfl
   have a1:=HEW.out.cell 0 1 (v:=.string s2) rfl rfl
   have a2:=HEW.out.cell 0 2 (v:=.slice pa na ca) rfl rfl
   have a3:=HEW.out.cell 0 3 (v:=.slice pb nb cb) rfl rfl
   have i0':(0:Int)<=(k:Int):=Za
   have i1':(k:Int)<(ns:Int):=Za
   clear hat hcell hsh hst hpa hna hca hpb hnb hcb hsc hsw hal hbl
   go_wp2_with fail
   refine(Zcd t (w.heap.size+1) s1 s2 W (HEW.out.cell 1 0 rfl rfl)).mono ?_
   rintro e w2 ⟨r,rfl,hb⟩
   have HE2:=ZnK (HEW.out.step hb)
   clear hb a0 a1 a2 a3 e0 e1 e2 e3 hW hq HEW
   have a2:=HE2.out.cell 0 2 (v:=.slice pa na ca) rfl rfl
   have a3:=HE2.out.cell 0 3 (v:=.slice pb nb cb) rfl rfl
   cases r with
   | false=>
    go_wp2
    exact ZmZ (by simp[results,Tryz.f12,go_sem]) rfl ⟨false,rfl,HE2.out.base⟩
   | true=>
    by_cases hA:(m1:Int)<(na:Int)
    ·have hA1:m1<na:=Za
     go_wp2
     exact ZmZ (by simp[results,Tryz.f12,go_sem]) rfl ⟨false,rfl,HE2.out.base⟩
    have hA1:¬ m1<na:=Za
    by_cases hB:(m2:Int)<(nb:Int)
    ·have hB1:m2<nb:=Za
     go_wp2
     exact ZmZ (by simp[results,Tryz.f12,go_sem]) rfl ⟨false,rfl,HE2.out.base⟩
    have hB1:¬ m2<nb:=Za
    go_wp2_with fail
    clear a2 a3
    go_loopw [50] (fun iv wv=>∃ i:Nat,iv=.int .i64 i/\i<=na/\Hid (Env w.heap.size w [(q,scO s1 s2 (.slice pa na ca) (.slice pb nb cb)),(w.heap.size+1,inO t),(w.heap.size,belO b (.slice pg ng cg) (.slice (some ⟨sb,so,none⟩) ns cs))] [] wv)) (fun iv _=>na-(intOf iv).toNat)
    case atStart=>exact⟨0,rfl,Znb _,HE2⟩
    case round=>
     obtain⟨i,rfl,hi,HEI⟩:=hrel
     by_cases hin:i<na
     ·obtain⟨tb,tz,rfl,hat⟩:=Zai.at HSH.out HAL.out Za
      obtain⟨t0,t1,t2,t3⟩:=hat wr HEI.out.base i hin
      obtain⟨⟨x,y,⟨u,v⟩⟩,hxy⟩:∃ z,shA sc.start i=z:=⟨_,rfl⟩
      rw[hxy] at t0 t1 t2 t3
      dsimp only at t0 t1 t2 t3
      have j0:(0:Int)<=(i:Int):=Za
      have j1:(i:Int)<(na:Int):=Za
      obtain⟨W,hW⟩:=ZnM (wr.alloc (shO x y u v))
      obtain⟨q2,hq⟩:=ZnM wr.heap.size
      have HEV:Hid (Env w.heap.size w [(q2,shO x y u v),(q,scO s1 s2 (.slice (some ⟨tb,tz,none⟩) na ca) (.slice pb nb cb)),(w.heap.size+1,inO t),(w.heap.size,belO b (.slice pg ng cg) (.slice (some ⟨sb,so,none⟩) ns cs))] [] W):=by rw[<- hW,<- hq];exact HEI.out.push _ rfl
      have a0:=HEV.out.cell 0 0 (v:=.int .i64 x) rfl rfl
      have a1:=HEV.out.cell 0 1 (v:=.int .i64 y) rfl rfl
      have a2:=HEV.out.cell 0 2 (v:=.string u) rfl rfl
      have a3:=HEV.out.cell 0 3 (v:=.string v) rfl rfl
      clear hat hxy
      go_wp2_with fail
      refine(Zcd t (w.heap.size+1) u v W (HEV.out.cell 2 0 rfl rfl)).mono ?_
      rintro e w3 ⟨r,rfl,hb⟩
      have HE3:=ZnK (HEV.out.step hb)
      clear hb a0 a1 a2 a3 t0 t1 t2 t3 hW hq HEV
      cases r with
      | false=>
       go_wp2
       exact ZmZ (by simp[results,Tryz.f12,go_sem]) rfl ⟨false,rfl,HE3.out.base⟩
      | true=>
       have HE4:=ZnK HE3.out.tail
       go_wp2
       go_roundw
       case rel=>exact⟨i+1,by go_num,(by first | omega | exact hin),HE4⟩
       case measure=>simp[intOf];first | omega | exact Nat.sub_lt_sub_left hin (Nat.lt_succ_self _)
     ·obtain rfl:i=na:=Za
      have a2:=HEI.out.cell 0 2 (v:=.slice pa i ca) rfl rfl
      have a3:=HEI.out.cell 0 3 (v:=.slice pb nb cb) rfl rfl
      go_wp2_with fail
      clear a2 a3
      go_loopw [63] (fun iv wv=>∃ j:Nat,iv=.int .i64 j/\j<=nb/\Hid (Env w.heap.size w [(q,scO s1 s2 (.slice pa i ca) (.slice pb nb cb)),(w.heap.size+1,inO t),(w.heap.size,belO b (.slice pg ng cg) (.slice (some ⟨sb,so,none⟩) ns cs))] [] wv)) (fun iv _=>nb-(intOf iv).toNat)
      case atStart=>exact⟨0,rfl,Znb _,HEI⟩
      case round=>
       obtain⟨j,rfl,hj,HEJ⟩:=hrel
       by_cases hjn:j<nb
       ·obtain⟨tb,tz,rfl,hat⟩:=Z6.at HST.out HBL.out Za
        obtain⟨t0,t1,t2,t3⟩:=hat wr HEJ.out.base j hjn
        obtain⟨⟨x,y,⟨u,v⟩⟩,hxy⟩:∃ z,stA sc.strides j=z:=⟨_,rfl⟩
        rw[hxy] at t0 t1 t2 t3
        dsimp only at t0 t1 t2 t3
        have j0:(0:Int)<=(j:Int):=Za
        have j1:(j:Int)<(nb:Int):=Za
        obtain⟨W,hW⟩:=ZnM (wr.alloc (stO x y u v))
        obtain⟨q2,hq⟩:=ZnM wr.heap.size
        have HEV:Hid (Env w.heap.size w [(q2,stO x y u v),(q,scO s1 s2 (.slice pa i ca) (.slice (some ⟨tb,tz,none⟩) nb cb)),(w.heap.size+1,inO t),(w.heap.size,belO b (.slice pg ng cg) (.slice (some ⟨sb,so,none⟩) ns cs))] [] W):=by rw[<- hW,<- hq];exact HEJ.out.push _ rfl
        have a0:=HEV.out.cell 0 0 (v:=.int .i64 x) rfl rfl
        have a1:=HEV.out.cell 0 1 (v:=.int .i64 y) rfl rfl
        have a2:=HEV.out.cell 0 2 (v:=.string u) rfl rfl
        have a3:=HEV.out.cell 0 3 (v:=.string v) rfl rfl
        clear hat hxy
        go_wp2_with fail
        refine(Zcd t (w.heap.size+1) u v W (HEV.out.cell 2 0 rfl rfl)).mono ?_
        rintro e w3 ⟨r,rfl,hb⟩
        have HE3:=ZnK (HEV.out.step hb)
        clear hb a0 a1 a2 a3 t0 t1 t2 t3 hW hq HEV
        cases r with
        | false=>
         go_wp2
         exact ZmZ (by simp[results,Tryz.f12,go_sem]) rfl ⟨false,rfl,HE3.out.base⟩
        | true=>
         have HE4:=ZnK HE3.out.tail
         go_wp2
         go_roundw
         case rel=>exact⟨j+1,by go_num,(by first | omega | exact hjn),HE4⟩
         case measure=>simp[intOf];first | omega | exact Nat.sub_lt_sub_left hjn (Nat.lt_succ_self _)
       ·obtain rfl:j=nb:=Za
        have HE9:=ZnK HEJ.out.tail
        go_wp2
        go_roundw
        case rel=>exact⟨k+1,by go_num,(by first | omega | exact hlt),HE9⟩
        case measure=>simp[intOf];first | omega | exact Nat.sub_lt_sub_left hlt (Nat.lt_succ_self _)
  ·obtain rfl:k=ns:=Za
   go_wp2_with fail
   go_loopw [76] (fun iv wv=>∃ i:Nat,iv=.int .i64 i/\i<=nl'/\Hid (Env w.heap.size w [(w.heap.size+1,inO t),(w.heap.size,belO b (.slice pg ng cg) (.slice ps k cs))] [] wv)) (fun iv _=>nl'-(intOf iv).toNat)
   case atStart=>exact⟨0,rfl,Znb _,HER⟩
   case round=>
    obtain⟨i,rfl,hi,HEI⟩:=hrel
    by_cases hin:i<nl'
    ·obtain⟨nb,no,rfl,p0,n0,d0,hat⟩:=HNT.out Za
     obtain⟨e0,e1,e2,e3,e4,e5,e6⟩:=(hat i hin).1 wr HEI.out.base
     obtain⟨pa,hpa⟩:=ZnM (p0 i)
     obtain⟨na,hna⟩:=ZnM (n0 i)
     obtain⟨ca,hca⟩:=ZnM (d0 i)
     rw[hpa,hna,hca] at e2
     obtain⟨⟨tm,mk,cl,⟨s1,s2⟩,⟨s3,s4⟩⟩,hnt⟩:∃ z,ntA l i=z:=⟨_,rfl⟩
     rw[hnt] at e0 e1 e3 e4 e5 e6
     dsimp only at e0 e1 e3 e4 e5 e6
     have j0:(0:Int)<=(i:Int):=Za
     have j1:(i:Int)<(nl':Int):=Za
     obtain⟨W,hW⟩:=ZnM (wr.alloc (ntO ⟨tm,mk,cl,⟨s1,s2⟩,⟨s3,s4⟩⟩ (.slice pa na ca)))
     obtain⟨q2,hq⟩:=ZnM wr.heap.size
     have HEV:Hid (Env w.heap.size w [(q2,ntO ⟨tm,mk,cl,⟨s1,s2⟩,⟨s3,s4⟩⟩ (.slice pa na ca)),(w.heap.size+1,inO t),(w.heap.size,belO b (.slice pg ng cg) (.slice ps k cs))] [] W):=by rw[<- hW,<- hq];exact HEI.out.push _ rfl
     have a3:=HEV.out.cell 0 3 (v:=.string s1) rfl rfl
     have a4:=HEV.out.cell 0 4 (v:=.string s2) rfl rfl
     clear hat hnt hpa hna hca
     go_wp2_with fail
     refine(Zcd t (w.heap.size+1) s1 s2 W (HEV.out.cell 1 0 rfl rfl)).mono ?_
     rintro e w3 ⟨r,rfl,hb⟩
     have HE3:=ZnK (HEV.out.step hb)
     clear hb a3 a4 e0 e1 e2 e3 e4 e5 e6 hW hq HEV
     cases r with
     | false=>
      go_wp2
      exact ZmZ (by simp[results,Tryz.f12,go_sem]) rfl ⟨false,rfl,HE3.out.base⟩
     | true=>
      have a5:=HE3.out.cell 0 5 (v:=.string s3) rfl rfl
      have a6:=HE3.out.cell 0 6 (v:=.string s4) rfl rfl
      go_wp2_with fail
      refine(Zcd t (w.heap.size+1) s3 s4 w3 (HE3.out.cell 1 0 rfl rfl)).mono ?_
      rintro e w4 ⟨r,rfl,hb⟩
      have HE4:=ZnK (HE3.out.step hb)
      clear hb a5 a6 HE3
      cases r with
      | false=>
       go_wp2
       exact ZmZ (by simp[results,Tryz.f12,go_sem]) rfl ⟨false,rfl,HE4.out.base⟩
      | true=>
       have HE9:=ZnK HE4.out.tail
       go_wp2
       go_roundw
       case rel=>exact⟨i+1,by go_num,(by first | omega | exact hin),HE9⟩
       case measure=>simp[intOf];first | omega | exact Nat.sub_lt_sub_left hin (Nat.lt_succ_self _)
    ·obtain rfl:i=nl':=Za
     go_wp2
     exact ZmZ (by simp[results,Tryz.f12,go_sem]) rfl ⟨true,rfl,HEI.out.base⟩
def ZmA (ms:Fl) (w:World) (e:Ending) (w':World):Prop:=(∃ s t r,e=.returned (.tuple #[pV s t,.bool r])/\(r=true->IsP (totF ms) s t))/\Below w.heap.size w w'
theorem Zkr {ms:Fl} {k:Nat} (hk:k<ms.length):totF (ms.take (k+1))=totF (ms.take k)+(mA ms k).2:=by
 rw[List.take_succ_eq_append_getElem hk,Zdc,ZaF hk]
 simp only[totF]
 grind
theorem Zea {v:Value} {ms:Fl} {w:World} (hm:ZT w v ms) (hT:Tabs w):Calls Tryz.prog 15 #[v] w (ZmA ms w):=by
 obtain⟨n,hn⟩:=ZnM ms.length
 obtain⟨pm,cm,rfl,hc1,hc2⟩:=hm.shape hn
 have HN:=ZnK hn
 have HAT:=ZnK (fun h0=>ZT.at hm hn h0)
 have HT:=ZnK hT
 obtain⟨W0,hW0⟩:=ZnM (w.alloc (pObj ZnG ZnG))
 have HB0:ZnE w W0:=by show Below _ _ _;rw[<- hW0];exact(ZmY _ w).alloc ZnL _
 have HR0:Hid (W0.heap[w.heap.size]?=some (pObj ZnG ZnG)):=by show _=_;rw[<- hW0];exact Zm1 w _
 clear hm hn hT
 go_enter Tryz.func15,Tryz.ntmps15
 go_wp2_with fail
 refine(ZlQ 0 1 Zd Zd Zd W0 (HT.out.below HB0.out ZnL)).mono ?_
 rintro e w2 ⟨x0,y0,rfl,hi,hb⟩
 have HB2:ZnE w w2:=HB0.out.trans (hb.mono HB0.out.size)
 have HR2:Hid (w2.heap[w.heap.size]?=some (pObj ZnG ZnG)):=(hb.block _ (ZnF HR0.out)).trans HR0.out
 have hi0:IsP 0 x0 y0:=by
  have e:mkRat ((0:Nat):Int) 1=0:=Zd
  rwa [e] at hi
 have HI0:=ZnK hi0
 obtain⟨w3,hw3⟩:=ZnM (w2.alloc (pObj x0 y0))
 obtain⟨G,hG⟩:=ZnM w2.heap.size
 have HG3:Hid (w3.heap[G]?=some (pObj x0 y0)):=by show _=_;rw[<- hw3,<- hG];exact Zm1 w2 _
 have hk3:Keeps (fun _=>True) w2 w3:=by rw[<- hw3];exact(Keeps.refl _ w2).alloc _
 have HR3:Hid (w3.heap[w.heap.size]?=some (pObj ZnG ZnG)):=(hk3.block _ (ZnF HR2.out) trivial).trans HR2.out
 have HRG:Hid (w.heap.size<G):=by have:=(ZnF HR2.out);show _<G;omega
 have HB3:ZnE w w3:=HB2.out.trans ((hk3.mono fun _ _ _=>trivial).toBelow HB2.out.size)
 clear hb hi hi0 hW0 hk3 HR0 HR2 HB0 HB2
 go_wp2_with fail
 clear hw3 hG
 have HKB:Hid (∀ X,Keeps (NotM G) w3 X->Below w.heap.size w X/\X.heap[w.heap.size]?=some (pObj ZnG ZnG)):=fun X hX=>by
  have:=HRG.out
  exact⟨HB3.out.trans ((hX.mono (S':=fun b=>b<w.heap.size) fun b _ hb=>by show b≠G;omega).toBelow HB3.out.size),(hX.block _ (ZnF HR3.out) (by show w.heap.size≠G;omega)).trans HR3.out⟩
 go_loopw [11] (fun iv wr=>∃ (k:Nat) (x y:ByteArray),iv=.int .i64 k/\k<=n/\Hid (IsP (totF (ms.take k)) x y)/\Hid (wr.heap[G]?=some (pObj x y))/\Hid (Keeps (NotM G) w3 wr)) (fun iv _=>n-(intOf iv).toNat)
 case atStart=>exact⟨0,x0,y0,rfl,Znb _,HI0,HG3,Keeps.refl _ _⟩
 case round=>
  obtain⟨k,x,y,rfl,hk,HI,HG,HK⟩:=hrel
  by_cases hlt:k<n
  ·obtain⟨b0,o0,rfl,hat⟩:=HAT.out Za
   obtain⟨s,t,hip,_,_,_,hcell⟩:=hat k hlt
   obtain⟨e0,e1,e2,e3,e4⟩:=hcell wr (HKB.out wr HK.out).1
   obtain⟨⟨⟨x0,x1,x2⟩,q⟩,hx⟩:∃ z,mA ms k=z:=⟨_,rfl⟩
   have HX:=ZnK hx
   rw[hx] at hip e0 e1 e2
   dsimp only at hip e0 e1 e2
   have HQ:=ZnK hip
   obtain⟨W,hW⟩:=ZnM (wr.alloc (maO (x0,x1,x2) s t))
   obtain⟨q0,hq0⟩:=ZnM wr.heap.size
   have hqb:W.heap[q0]?=some (maO (x0,x1,x2) s t):=by rw[<- hW,<- hq0];exact Zm1 wr _
   have hkw:Keeps (fun _=>True) wr W:=by rw[<- hW];exact(Keeps.refl _ wr).alloc _
   have HKW:Hid (Keeps (NotM G) w3 W):=HK.out.trans (hkw.mono fun _ _ _=>trivial)
   have HGW:Hid (W.heap[G]?=some (pObj x y)):=(hkw.block _ (ZnF HG.out) trivial).trans HG.out
   have a3:=Zn hqb 3 (v:=.string s) rfl
   have a4:=Zn hqb 4 (v:=.string t) rfl
   have g0:=Zn HGW.out 0 (v:=.string x) rfl
   have g1:=Zn HGW.out 1 (v:=.string y) rfl
   have HL1:=ZnK HI.out.limit
   have HL2:=ZnK hip.limit
   have i0':(0:Int)<=(k:Int):=Za
   have i1':(k:Int)<(n:Int):=Za
   clear hat hip hcell hx hkw hqb
   go_wp2_with fail
   refine(Zdf x y s t _ HL1.out.1 HL1.out.2 HL2.out.1 HL2.out.2 (HT.out.below (HKB.out _ HKW.out).1 ZnL)).mono ?_
   rintro e V ⟨x',y',en,rfl,hR,hb⟩
   have HKV:Hid (Keeps (NotM G) w3 V):=HKW.out.trans (hb.keepsS _)
   have HGV:Hid (V.heap[G]?=some (pObj x y)):=(hb.block _ (ZnF HGW.out)).trans HGW.out
   have HA:Hid (Ans (totF (ms.take k)+q) x' y' en):=by
    have h1:=hR.both HI.out.ok HQ.out.ok
    rwa [HI.out.rat,HQ.out.rat] at h1
   clear hb hR hW hq0 a3 a4 g0 g1 e0 e1 e2 e3 e4
   have s0:=Zn HGV.out 0 (v:=.string x) rfl
   have s1:=Zn HGV.out 1 (v:=.string y) rfl
   have f0:=Zq HGV.out 0
   have f1:=Zq HGV.out 1
   obtain⟨W7,hW7⟩:=ZnM ((V.setCell ⟨G,0,none⟩ (.string x')).setCell ⟨G,1,none⟩ (.string y'))
   have HG7:Hid (W7.heap[G]?=some (pObj x' y')):=by show _=_;rw[<- hW7];exact Zad HGV.out _ _
   have HK7:Hid (Keeps (NotM G) w3 W7):=by show Keeps _ _ _;rw[<- hW7];exact(HKV.out.setCell (p:=⟨G,0,none⟩) (fun h=>h rfl) _).setCell (p:=⟨G,1,none⟩) (fun h=>h rfl) _
   by_cases hen:en=0
   ·subst hen
    have HI2:Hid (IsP (totF (ms.take (k+1))) x' y'):=by
     have h1:=HA.out.zero rfl
     show IsP _ _ _
     rw[Zkr (by rw[HN.out];exact hlt),HX.out]
     exact h1
    go_wp2
    go_roundw
    case rel=>exact⟨k+1,x',y',by go_num,Za,HI2,HG7,HK7⟩
    case measure=>exact Zj
   ·have hen1:(en !=0)=true:=by rw[bne_iff_ne];exact hen
    have HEN:=ZnK hen
    clear hen
    obtain⟨hbb,hrr⟩:=HKB.out _ HK7.out
    have HRR:=ZnK hrr
    have HBB:=ZnK hbb
    have g0:=Zn HG7.out 0 (v:=.string x') rfl
    have g1:=Zn HG7.out 1 (v:=.string y') rfl
    have r0:=Zn hrr 0 (v:=.string ZnG) rfl
    have r1:=Zn hrr 1 (v:=.string ZnG) rfl
    have h0:=Zq hrr 0
    have h1:=Zq hrr 1
    clear hbb hrr
    go_wp2
    have hq:=Zad HRR.out (.string x') (.string y')
    have q0:=Zn hq 0 (v:=.string x') rfl
    have q1:=Zn hq 1 (v:=.string y') rfl
    exact ZmZ (v:=.tuple #[pV x' y',.bool false]) (by simp[results,Tryz.f15,go_sem,q0,q1]) rfl ⟨⟨x',y',false,rfl,fun h=>by cases h⟩,(HBB.out.setCell (p:=⟨w.heap.size,0,none⟩) ZnL _).setCell (p:=⟨w.heap.size,1,none⟩) ZnL _⟩
  ·obtain rfl:k=n:=Za
   have HI2:Hid (IsP (totF ms) x y):=by
    have h1:=HI.out
    rwa [<- HN.out,List.take_length] at h1
   obtain⟨hbb,hrr⟩:=HKB.out _ HK.out
   have HRR:=ZnK hrr
   have HBB:=ZnK hbb
   have g0:=Zn HG.out 0 (v:=.string x) rfl
   have g1:=Zn HG.out 1 (v:=.string y) rfl
   have r0:=Zn hrr 0 (v:=.string ZnG) rfl
   have r1:=Zn hrr 1 (v:=.string ZnG) rfl
   have h0:=Zq hrr 0
   have h1:=Zq hrr 1
   clear hbb hrr
   go_wp2
   have hq:=Zad HRR.out (.string x) (.string y)
   have q0:=Zn hq 0 (v:=.string x) rfl
   have q1:=Zn hq 1 (v:=.string y) rfl
   exact ZmZ (v:=.tuple #[pV x y,.bool true]) (by simp[results,Tryz.f15,go_sem,q0,q1]) rfl ⟨⟨x,y,true,rfl,fun _=>HI2.out⟩,(HBB.out.setCell (p:=⟨w.heap.size,0,none⟩) ZnL _).setCell (p:=⟨w.heap.size,1,none⟩) ZnL _⟩
theorem Zhr {b:BelP} {ms:Fl} (h:ZbD b=.ok ms):ZC b=true/\MassOk b ms/\totF ms=1:=by
 unfold ZbD at h
 by_cases hb:ZC b=true
 ·rw[if_pos hb] at h
  exact⟨hb,Zc9 hb h⟩
 ·rw[if_neg hb] at h;cases h
theorem Zga {b:BelP} {ms out:Fl} (hb:ZC b=true) (hm:MassOk b ms) (h:Zbl b ms=.ok out):totF out=totF ms:=by
 unfold Zbl at h
 by_cases hc:(ZC b && ZF b ms)=true
 ·rw[if_pos hc] at h
  exact(Zcy hb hm h).2
 ·rw[if_neg hc] at h;cases h
theorem ZgW {b:BelP} {ns:List NoteP} {k:Int} {m:Fl} {z:Rat} (h:ZbU b ns k=.ok (m,z)):totF m=1/\0<z/\z<=1:=by
 unfold ZbU at h
 by_cases hn:Zan b ns k=0
 ·rw[if_pos hn] at h
  obtain⟨h1,h2,_,_⟩:=Zhp hn
  unfold Zc0 at h
  cases hf:ZaS b ns k.toNat with
  | error e=>rw[hf] at h;cases h
  | ok r=>
   obtain⟨fs,y⟩:=r
   rw[hf] at h
   simp only[Except.ok.injEq,Prod.mk.injEq] at h
   obtain⟨_,h4,h5,h6⟩:=Zef h1 h2 hf
   obtain⟨rfl,rfl⟩:=h
   exact⟨(h4 _ ZnL).2,h5,h6⟩
 ·rw[if_neg hn] at h;cases h
theorem ZhC {r:Except Int Fl} {w w':World} {e:Ending} (h:MasA r w e w'):∃ (ms:Fl) (p:Option Addr) (n c:Nat) (k:Int),e=.returned (.tuple #[.slice p n c,.int .i64 k])/\ZT w' (.slice p n c) ms/\(k=0->r=.ok ms)/\Below w.heap.size w w':=by
 obtain⟨h,hb⟩:=h
 rcases h with ⟨ms,v,h1,h2,h3,_⟩ | ⟨k,h1,h2,h3⟩
 ·obtain⟨p,c,rfl,_,_⟩:=h3.shape rfl
  exact⟨ms,p,_,c,0,h2,h3,fun _=>h1,hb⟩
 ·exact⟨[],none,0,0,k,h3,LL.nil w',fun e=>ZnA e h2,hb⟩
theorem Zly {r:Except Int (Fl×Rat)} {w w':World} {e:Ending} (h:FilA r w e w'):∃ (ms:Fl) (p:Option Addr) (n c:Nat) (s t:ByteArray) (z:Rat) (k:Int),e=.returned (.tuple #[.slice p n c,pV s t,.int .i64 k])/\ZT w' (.slice p n c) ms/\(k=0->r=.ok (ms,z)/\IsP z s t)/\(k≠0->n=0)/\Below w.heap.size w w':=by
 obtain⟨h,hb⟩:=h
 rcases h with ⟨ms,z,v,s,t,h1,h2,h3,_,h4⟩ | ⟨k,h1,h2,h3⟩
 ·obtain⟨p,c,rfl,_,_⟩:=h3.shape rfl
  exact⟨ms,p,_,c,s,t,z,0,h2,h3,fun _=>⟨h1,h4⟩,fun e=>ZnA rfl e,hb⟩
 ·exact⟨[],none,0,0,_,_,0,k,h3,LL.nil w',fun e=>ZnA e h2,fun _=>rfl,hb⟩
theorem ZjN {z:Rat} {s t:ByteArray} (h:IsP z s t) (h0:0<z) (h1:z<=1):¬ s.toList=[48]/\sgnR z 1<=0:=by
 refine⟨fun e=>?_,?_⟩
 ·have:=h.num_zero.1 (by rw[e];rfl)
  rw[this] at h0
  exact ZnA h0 Zd
 ·unfold sgnR
  split
  ·decide
  ·split
   ·decide
   ·grind
end Go.Proofs.YtjmckebecpjjfaaGreatDoor
