/- The parts EMoves, EImprove, EImproveX, REImprove. -/
import Derived.Test.YtmpaflidennnoaaGreatDoorK004
set_option maxRecDepth 100000
set_option maxHeartbeats 8000000
set_option linter.unusedVariables false
set_option linter.unusedSimpArgs false
namespace Go.Proofs.YtmpaflidennnoaaGreatDoor
open Go.RowKit Go.Shelf
attribute [local go_sem ↓] Go.wp_at_zero Go.wp_at_succ
attribute [local go_sem] Oper.semAt_some
abbrev mvV (a b c:Int):Value:=.agg #[.int .i64 a,.int .i64 b,.int .i64 c]
abbrev mvO (a b c:Int):Obj:=.cells #[.int .i64 a,.int .i64 b,.int .i64 c] 184
def Zbp (t:TaskP) (p:List (List Int)):List Nat:=pick (mvB t p) (mvN t)
def mvJ (t:TaskP) (p:List (List Int)) (k:Nat):Nat:=(Zbp t p).getD k 0
abbrev mvAt (t:TaskP) (p:List (List Int)) (k:Nat):Value:=mvV (mvU t (mvJ t p k):Nat) (mvI t (mvJ t p k):Nat) (mvK t (mvJ t p k):Nat)
structure MoveF (t:TaskP) (p:List (List Int)) (T N Bs b rb ro rk pb po pc:Nat) (gq gp gc rq rp rc:Nat->Nat) (w:World):Prop where
 box:w.cell? ⟨Bs,0,none⟩=some (.pointer (some ⟨b,0,none⟩))
 w2:w.cell? ⟨b,2,none⟩=some (.slice (some ⟨rb,ro,none⟩) T rk)
 w3:w.cell? ⟨b,3,none⟩=some (.slice (some ⟨pb,po,none⟩) T pc)
 rate:∀ u,u<T->w.cell? ⟨rb,ro+u,none⟩=some (.slice (some ⟨rq u,rp u,none⟩) N (rc u))/\N<=rc u/\rc u<=9223372036854775807/\∀ i,i<N->w.cell? ⟨rq u,rp u+i*2,none⟩=some (.string (eR t u i).1)/\w.cell? ⟨rq u,rp u+i*2+1,none⟩=some (.string (eR t u i).2)
 plan:∀ u,u<T->w.cell? ⟨pb,po+u,none⟩=some (.slice (some ⟨gq u,gp u,none⟩) N (gc u))/\N<=gc u/\gc u<=9223372036854775807/\∀ i,i<N->w.cell? ⟨gq u,gp u+i,none⟩=some (.int .i64 (pN p u i))
 eff:EffZ w
theorem ZlM (b:Nat) (w:World):Calls Tryz.prog 146 #[.pointer (some ⟨b,0,none⟩)] w (fun e w'=>e=.returned (.func (.func 192) #[] #[.pointer (some ⟨w.heap.size,0,none⟩)])/\w'=w.alloc (wkO b)):=by
 have hmf:∀ (fn:Fn) (first cap:Array Value) (w:World),(Instr.makeFunc fn first cap).run Tryz.prog w=.ok (.func fn first cap) w:=fun _ _ _ _=>rfl
 go_enter Tryz.func146,Tryz.ntmps146
 go_wp2
 exact ZoM (by simp[results,Tryz.f146,go_sem]) rfl ⟨rfl,rfl⟩
theorem ZkH {t:TaskP} {p:List (List Int)} {T N Bs b rb ro rk pb po pc:Nat} {gq gp gc rq rp rc:Nat->Nat} {S:Nat->Prop} {w0:World} (hT:t.hours.length=T) (hN:t.sites.length=N) (hTr:t.rates.length=T) (hN24:1<=N/\N<=24) (hT8:T<=8) (hrk:T<=rk/\rk<=9223372036854775807) (hpc:T<=pc/\pc<=9223372036854775807)
  (hF:∀ V,Keeps S w0 V->MoveF t p T N Bs b rb ro rk pb po pc gq gp gc rq rp rc V) (ok:TaskOk t) :
  Iter Tryz.prog 192 #[.pointer (some ⟨Bs,0,none⟩)] (fun k=>#[mvAt t p k]) (Zbp t p).length S (fun _=>True) w0:=by
 intro n l J Jx W hK hJ hJx hY h0
 have HFF:Hid (∀ V,Keeps S W V->MoveF t p T N Bs b rb ro rk pb po pc gq gp gc rq rp rc V):=fun V hV=>hF V (hK.trans hV)
 have HY:=Zpz hY
 have HJ:=Zpz hJ
 have HOK:=Zpz ok
 have HTL:=Zpz hT
 have HNL:=Zpz hN
 have HTR:=Zpz hTr
 clear hF hY hJ hK
 have F0:=HFF.out W (Keeps.refl _ _)
 have a0:=F0.box
 have a1:=F0.w3
 obtain⟨hN1,hN2⟩:=hN24
 clear F0 hT hN hTr ok
 refine callsIn_of_wp Tryz.func192 rfl trivial ?_ rfl
 simp only[Tryz.ntmps192,Nat.reduceAdd,Nat.reduceSub,Zpy]
 gi_wp2
 clear a0 a1
 gi_loopw [12] (fun iv wr=>∃ u:Nat,iv=.int .i64 u/\u<=T/\J (pick (mvB t p) (u*N*N)).length wr/\Hid (Keeps S W wr)) (fun iv _=>T-(intOf iv).toNat)
 case atStart=>exact⟨0,rfl,ZoY _,by rw[Nat.zero_mul,Nat.zero_mul];exact h0,Keeps.refl _ _⟩
 case round=>
  obtain⟨u,rfl,hu,hJs,HN⟩:=hrel
  by_cases hlt:u<T
  ·obtain⟨b0,b1,b2,b3⟩:=(HFF.out wr HN.out).plan u hlt
   obtain⟨r0,r1,r2,r3⟩:=(HFF.out wr HN.out).rate u hlt
   have HR:Hid (∀ V,Keeps S W V->(V.cell? ⟨pb,po+u,none⟩=some (.slice (some ⟨gq u,gp u,none⟩) N (gc u))/\∀ i,i<N->V.cell? ⟨gq u,gp u+i,none⟩=some (.int .i64 (pN p u i)))/\
     V.cell? ⟨Bs,0,none⟩=some (.pointer (some ⟨b,0,none⟩))/\V.cell? ⟨b,2,none⟩=some (.slice (some ⟨rb,ro,none⟩) T rk)/\V.cell? ⟨rb,ro+u,none⟩=some (.slice (some ⟨rq u,rp u,none⟩) N (rc u))/\
     (∀ i,i<N->V.cell? ⟨rq u,rp u+i*2,none⟩=some (.string (eR t u i).1)/\V.cell? ⟨rq u,rp u+i*2+1,none⟩=some (.string (eR t u i).2))/\EffZ V):=fun V hV=>by
    have F:=HFF.out V hV
    obtain⟨c0,_,_,c1⟩:=F.plan u hlt
    obtain⟨d0,_,_,d1⟩:=F.rate u hlt
    exact⟨⟨c0,c1⟩,F.box,F.w2,d0,d1,F.eff⟩
   obtain⟨q,hq⟩:=ZpB (gq u)
   obtain⟨o,ho'⟩:=ZpB (gp u)
   obtain⟨c,hc'⟩:=ZpB (gc u)
   obtain⟨rq',hrq⟩:=ZpB (rq u)
   obtain⟨rp',hrp⟩:=ZpB (rp u)
   obtain⟨rc',hrc⟩:=ZpB (rc u)
   rw[hq,ho',hc'] at b0 HR
   rw[hrq,hrp,hrc] at HR
   rw[hc'] at b1 b2
   rw[hrc] at r1 r2
   have i0':(0:Int)<=(u:Int):=Za
   have i1':(u:Int)<(T:Int):=Za
   clear b3 hq ho' hc' hrq hrp hrc r0 r3
   gi_wp2_with fail
   clear b0
   gi_loopw [19] (fun vi wv=>∃ i:Nat,vi=.int .i64 i/\i<=N/\J (pick (mvB t p) ((u*N+i)*N)).length wv/\Hid (Keeps S W wv)) (fun vi _=>N-(intOf vi).toNat)
   case atStart=>exact⟨0,rfl,ZoY _,by rw[Nat.add_zero];exact hJs,HN⟩
   case round=>
    clear hJs HN
    obtain⟨i,rfl,hi,hJs,HN⟩:=hrel
    by_cases hlt2:i<N
    ·gi_wp2_with fail
     gi_loopw [24] (fun vi wv=>∃ k:Nat,vi=.int .i64 k/\k<=N/\J (pick (mvB t p) ((u*N+i)*N+k)).length wv/\Hid (Keeps S W wv)) (fun vi _=>N-(intOf vi).toNat)
     case atStart=>exact⟨0,rfl,ZoY _,hJs,HN⟩
     case round=>
      clear hJs HN
      obtain⟨k,rfl,hk,hJs,HN⟩:=hrel
      by_cases hlt3:k<N
      ·have hj:mvU t ((u*N+i)*N+k)=u/\mvI t ((u*N+i)*N+k)=i/\mvK t ((u*N+i)*N+k)=k:=by
        unfold mvU mvI mvK
        rw[HNL.out]
        have h0:0<N:=Za
        have e1:((u*N+i)*N+k)/N=u*N+i:=by
         rw[Zo7,Nat.mul_add_div h0,Nat.div_eq_of_lt hlt3,Nat.add_zero]
        rw[e1]
        refine⟨?_,?_,?_⟩
        ·rw[Zo7,Nat.mul_add_div h0,Nat.div_eq_of_lt hlt2,Nat.add_zero]
        ·rw[Zo7,Nat.mul_add_mod,Nat.mod_eq_of_lt hlt2]
        ·rw[Zo7,Nat.mul_add_mod,Nat.mod_eq_of_lt hlt3]
       have HJJ:=Zpz hj
       obtain⟨j,hjj⟩:=ZpB ((u*N+i)*N+k)
       have HJE:=Zpz hjj
       rw[hjj] at hJs hj HJJ
       have hmb:mvB t p j=(decide (0<pN p u i) && (decide (i≠k) && decide (rR t u k≠0))):=by
        unfold mvB
        rw[hj.1,hj.2.1,hj.2.2]
       have hrz:=Ze0 HOK.out (u:=u) (i:=k) (by rw[HTR.out];exact hlt) (by rw[HNL.out];exact hlt3)
       have HC:Hid (∀ V,Keeps S W V->V.cell? ⟨q,o+i,none⟩=some (.int .i64 (pN p u i))/\V.cell? ⟨Bs,0,none⟩=some (.pointer (some ⟨b,0,none⟩))/\V.cell? ⟨b,2,none⟩=some (.slice (some ⟨rb,ro,none⟩) T rk)/\V.cell? ⟨rb,ro+u,none⟩=some (.slice (some ⟨rq',rp',none⟩) N rc')/\
         V.cell? ⟨rq',rp'+k*2,none⟩=some (.string (eR t u k).1)/\V.cell? ⟨rq',rp'+k*2+1,none⟩=some (.string (eR t u k).2)/\EffZ V):=fun V hV=>by
        obtain⟨⟨_,c1⟩,c2,c3,c4,c5,c6⟩:=HR.out V hV
        exact⟨c1 i hlt2,c2,c3,c4,(c5 k hlt3).1,(c5 k hlt3).2,c6⟩
       obtain⟨x,hx⟩:=ZpB (pN p u i)
       obtain⟨⟨r1',r2'⟩,hrr⟩:∃ z,eR t u k=z:=⟨_,rfl⟩
       rw[hx] at HC hmb
       rw[hrr] at HC hrz
       dsimp only at HC hrz
       have HMB:=Zpz hmb
       have HRZ:=Zpz hrz
       have j0':(0:Int)<=(i:Int):=Za
       have j1':(i:Int)<(N:Int):=Za
       have k0':(0:Int)<=(k:Int):=Za
       have k1':(k:Int)<(N:Int):=Za
       clear hj hmb hrz hx hrr hjj
       gi_wp2_with fail
       by_cases hx0:0<x
       ·by_cases hik:i=k
        ·have hno:mvB t p j=false:=by rw[HMB.out];simp[hik]
         have hikb:((i:Int) !=(k:Int))=false:=by rw[hik];simp
         clear hik
         refine Zd7 [(1,0),(1,1),(1,2),(1,3),(1,4),(1,5),(1,6),(1,7),(1,8),(1,9),(1,10),(1,11),(1,12),(1,13),(1,14),(1,15),(1,16),(1,17),(1,18),(1,19),(1,20),(1,21),(1,22),(1,23),(1,24),(1,25),(1,26),(1,27),(1,28),(1,29),(1,30),(0,31),(0,32),(0,33)] (Keeps S W) (fun i=>i==31 || i==32 || i==33) rfl (fun _=>trivial)
          Zb Zb (fun j hj=>by have h:34<=j:=hj;simp;omega) Zi HN.out.drew ?_
         iterate 11
          refine Zbu _ rfl rfl (fun w' hS=>by obtain⟨c1,c2,c3,c4,c5,c6,z⟩:=HC.out _ hS;have z0:=z.z0;have z1:=z.z1;exact Zf) (fun _=>rfl) ?_
          simp only[Act.put,Zl]
         iterate 13
          refine ZbT rfl rfl (fun _=>rfl) ?_
          simp only[Act.put,Zl]
         iterate 2
          refine Zbu _ rfl rfl (fun w' hS=>by obtain⟨c1,c2,c3,c4,c5,c6,z⟩:=HC.out _ hS;have z0:=z.z0;have z1:=z.z1;exact Zf) (fun _=>rfl) ?_
          simp only[Act.put,Zl]
         iterate 5
          refine ZbT rfl rfl (fun _=>rfl) ?_
          simp only[Act.put,Zl]
         iterate 2
          refine ZdQ rfl rfl (.inl rfl) ?_
          simp only[Act.put,Zl]
         refine ZaX rfl rfl fun K hK=>?_
         go_simp
         refine hK _ _ (.inl rfl) ?_
         clear hK K
         refine ZcJ ?_
         have hJ3:=HJ.out _ _ _ hJs (Keeps.refl _ wr).drew
         have HN3:Hid (Keeps S W wr.drew):=HN.out.drew
         rw[show (pick (mvB t p) j).length=(pick (mvB t p) ((u*N+i)*N+(k+1))).length by rw[<- Nat.add_assoc,HJE.out,Zeh hno]] at hJ3
         gi_wp2
         go_roundw
         case rel=>exact⟨k+1,by go_num,Za,hJ3,HN3⟩
         case measure=>exact Zj
        ·have hikb:((i:Int) !=(k:Int))=true:=by rw[bne_iff_ne];omega
         rcases HRZ.out with ⟨hz1,hz2⟩ | ⟨hz1,hz2⟩
         ·have hno:mvB t p j=false:=by rw[HMB.out];simp[hz2]
          injection hz1 with e1 e2
          subst e1 e2
          clear hz2 hik
          refine Zd7 [(1,0),(1,1),(1,2),(1,3),(1,4),(1,5),(1,6),(1,7),(1,8),(1,9),(1,10),(1,11),(1,12),(1,13),(1,14),(1,15),(1,16),(1,17),(1,18),(1,19),(1,20),(1,21),(1,22),(1,23),(1,24),(1,25),(1,26),(1,27),(1,28),(1,29),(1,30),(0,31),(0,32),(0,33)] (Keeps S W) (fun i=>i==31 || i==32 || i==33) rfl (fun _=>trivial)
           Zb Zb (fun j hj=>by have h:34<=j:=hj;simp;omega) Zi HN.out.drew ?_
          iterate 26
           refine Zbu _ rfl rfl (fun w' hS=>by obtain⟨c1,c2,c3,c4,c5,c6,z⟩:=HC.out _ hS;have z0:=z.z0;have z1:=z.z1;exact Zf) (fun _=>rfl) ?_
           simp only[Act.put,Zl]
          iterate 5
           refine ZbT rfl rfl (fun _=>rfl) ?_
           simp only[Act.put,Zl]
          iterate 2
           refine ZdQ rfl rfl (.inl rfl) ?_
           simp only[Act.put,Zl]
          refine ZaX rfl rfl fun K hK=>?_
          go_simp
          refine hK _ _ (.inl rfl) ?_
          clear hK K
          refine ZcJ ?_
          have hJ3:=HJ.out _ _ _ hJs (Keeps.refl _ wr).drew
          have HN3:Hid (Keeps S W wr.drew):=HN.out.drew
          rw[show (pick (mvB t p) j).length=(pick (mvB t p) ((u*N+i)*N+(k+1))).length by rw[<- Nat.add_assoc,HJE.out,Zeh hno]] at hJ3
          gi_wp2
          go_roundw
          case rel=>exact⟨k+1,by go_num,Za,hJ3,HN3⟩
          case measure=>exact Zj
         ·have hyes:mvB t p j=true:=by rw[HMB.out];simp[hx0,hik,hz2]
          have hzt:=Zfk hz1
          have hlt4:j<mvN t:=by
           rw[<- HJE.out]
           unfold mvN
           rw[HTL.out,HNL.out]
           have h1:u*N+i+1<=T*N:=by
            have h2:(u+1)*N<=T*N:=Zpd N hlt
            rw[Nat.add_mul,Nat.one_mul] at h2
            omega
           have h3:=Zpd N h1
           rw[Nat.add_mul,Nat.one_mul] at h3
           omega
          obtain⟨hkl,hat⟩:=Zdz hlt4 hyes
          have hy:=HY.out _ _ hkl (HJ.out _ _ _ hJs (Keeps.refl _ wr).drew)
          unfold mvAt mvJ Zbp at hy
          rw[hat,HJJ.out.1,HJJ.out.2.1,HJJ.out.2.2] at hy
          obtain⟨fn,tmps,assign,body,hy,hRR⟩:=hy
          have HPY:Hid ((pick (mvB t p) ((u*N+i)*N+(k+1))).length=(pick (mvB t p) j).length+1):=by
           show _=_
           rw[<- Nat.add_assoc,HJE.out,ZeK hyes]
           simp
          have HKK:=Zpz hkl
          clear hyes hlt4 hat hJs hkl hz1 hz2 hik
          refine Zd7 [(1,0),(1,1),(1,2),(1,3),(1,4),(1,5),(1,6),(1,7),(1,8),(1,9),(1,10),(1,11),(1,12),(1,13),(1,14),(1,15),(1,16),(1,17),(1,18),(1,19),(1,20),(1,21),(1,22),(1,23),(1,24),(1,25),(1,26),(1,27),(1,28),(1,29),(1,30),(0,31),(0,32),(0,33)] (Keeps S W) (fun i=>i==31 || i==32 || i==33) rfl (fun _=>trivial)
           Zb Zb (fun j hj=>by have h:34<=j:=hj;simp;omega) Zi HN.out.drew ?_
          iterate 31
           refine Zbu _ rfl rfl (fun w' hS=>by obtain⟨c1,c2,c3,c4,c5,c6,z⟩:=HC.out _ hS;have z0:=z.z0;have z1:=z.z1;exact Zf) (fun _=>rfl) ?_
           simp only[Act.put,Zl]
          refine ZaX rfl rfl fun K hK=>?_
          go_simp
          refine⟨(fun h=>by cases h),hRR.mono ?_⟩
          rintro e W3 (⟨rfl,hJ3,hk3⟩ | ⟨rfl,hJx3⟩)
          ·have HN3:=Zpz (HN.out.drew.trans hk3)
           rw[<- HPY.out] at hJ3
           clear hk3 hy hRR
           refine hK _ _ (.inl rfl) ?_
           clear hK K
           refine ZaX rfl rfl fun K hK=>?_
           go_simp
           refine hK _ _ (.inl rfl) ?_
           clear hK K
           refine ZaX rfl rfl fun K hK=>?_
           go_simp
           refine hK _ _ (.inl rfl) ?_
           clear hK K
           refine ZcJ ?_
           gi_wp2
           go_roundw
           case rel=>exact⟨k+1,by go_num,Za,hJ3,HN3⟩
           case measure=>exact Zj
          ·clear hy hRR
           refine hK _ _ (.inl rfl) ?_
           clear hK K
           refine ZaX rfl rfl fun K hK=>?_
           go_simp
           refine hK _ _ (.inl rfl) ?_
           clear hK K
           refine ZaX rfl rfl fun K hK=>?_
           go_simp
           refine hK _ _ (.inl rfl) ?_
           clear hK K
           refine ZcJ ?_
           gi_wp2
           refine ZoM (results_none rfl _ _ _) rfl ?_
           exact⟨⟨_,rfl⟩,.inr ⟨_,HKK.out,hJx3⟩⟩
       ·have hno:mvB t p j=false:=by rw[HMB.out];simp[hx0]
        refine Zd7 [(1,0),(1,1),(1,2),(1,3),(1,4),(1,5),(1,6),(1,7),(1,8),(1,9),(1,10),(1,11),(1,12),(1,13),(1,14),(1,15),(1,16),(1,17),(1,18),(1,19),(1,20),(1,21),(1,22),(1,23),(1,24),(1,25),(1,26),(1,27),(1,28),(1,29),(1,30),(0,31),(0,32),(0,33)] (Keeps S W) (fun i=>i==31 || i==32 || i==33) rfl (fun _=>trivial)
         Zb Zb (fun j hj=>by have h:34<=j:=hj;simp;omega) Zi HN.out.drew ?_
        iterate 6
         refine Zbu _ rfl rfl (fun w' hS=>by obtain⟨c1,c2,c3,c4,c5,c6,z⟩:=HC.out _ hS;have z0:=z.z0;have z1:=z.z1;exact Zf) (fun _=>rfl) ?_
         simp only[Act.put,Zl]
        iterate 3
         refine ZbT rfl rfl (fun _=>rfl) ?_
         simp only[Act.put,Zl]
        iterate 2
         refine Zbu _ rfl rfl (fun w' hS=>by obtain⟨c1,c2,c3,c4,c5,c6,z⟩:=HC.out _ hS;have z0:=z.z0;have z1:=z.z1;exact Zf) (fun _=>rfl) ?_
         simp only[Act.put,Zl]
        iterate 13
         refine ZbT rfl rfl (fun _=>rfl) ?_
         simp only[Act.put,Zl]
        iterate 2
         refine Zbu _ rfl rfl (fun w' hS=>by obtain⟨c1,c2,c3,c4,c5,c6,z⟩:=HC.out _ hS;have z0:=z.z0;have z1:=z.z1;exact Zf) (fun _=>rfl) ?_
         simp only[Act.put,Zl]
        iterate 5
         refine ZbT rfl rfl (fun _=>rfl) ?_
         simp only[Act.put,Zl]
        iterate 2
         refine ZdQ rfl rfl (.inl rfl) ?_
         simp only[Act.put,Zl]
        refine ZaX rfl rfl fun K hK=>?_
        go_simp
        refine hK _ _ (.inl rfl) ?_
        clear hK K
        refine ZcJ ?_
        have hJ3:=HJ.out _ _ _ hJs (Keeps.refl _ wr).drew
        have HN3:Hid (Keeps S W wr.drew):=HN.out.drew
        rw[show (pick (mvB t p) j).length=(pick (mvB t p) ((u*N+i)*N+(k+1))).length by rw[<- Nat.add_assoc,HJE.out,Zeh hno]] at hJ3
        gi_wp2
        go_roundw
        case rel=>exact⟨k+1,by go_num,Za,hJ3,HN3⟩
        case measure=>exact Zj
      ·obtain rfl:k=N:=Za
       have hJ3:=hJs
       rw[show (u*k+i)*k+k=(u*k+(i+1))*k by rw[<- Nat.add_assoc,Nat.add_mul (u*k+i) 1,Nat.one_mul]] at hJ3
       clear hJs
       gi_wp2
       go_roundw
       case rel=>exact⟨i+1,by go_num,Za,hJ3,HN⟩
       case measure=>exact Zj
    ·obtain rfl:i=N:=Za
     have hJ3:=hJs
     rw[show (u*i+i)*i=(u+1)*i*i by rw[Nat.add_mul u 1,Nat.one_mul]] at hJ3
     clear hJs
     gi_wp2
     go_roundw
     case rel=>exact⟨u+1,by go_num,Za,hJ3,HN⟩
     case measure=>exact Zj
  ·obtain rfl:u=T:=Za
   have hlen:(pick (mvB t p) (u*N*N)).length=(Zbp t p).length:=by unfold Zbp mvN;rw[HTL.out,HNL.out]
   rw[hlen] at hJs
   gi_wp2
   go_end0
   exact⟨⟨_,rfl⟩,.inl hJs⟩
theorem Zg6 {t:TaskP} {p:List (List Int)} {b m n:Nat} {sv hv rv pv:Value} {gq gc:Nat->Nat} {w:World} (hW:WorkW t b m sv hv rv pv w) (hP:PlanO p t.sites.length m b pv gq gc w) (hm:Memo w m t n) (hn:n<=900000000000) (ok:PlanOk t p) (hfit:Zae (valF t p) t.sites.length) :
  Calls Tryz.prog 60 #[.pointer (some ⟨b,0,none⟩)] w (fun e w'=>∃ x y,e=.returned (pV x y)/\IsP (valR t p) x y/\Keeps (NotM m) w w'/\Memo w' m t (n+24)):=by
 obtain⟨pb,pc,_,hPW⟩:=hP.toW ok.len8.1
 refine(ZgT hW hPW hm hn ok.task ok.inn).mono ?_
 rintro e w' ⟨x,y,k,hE,hS,hk,hM⟩
 rcases hS with ⟨_,h1,rfl⟩ | ⟨h,_⟩
 ·rcases hE with ⟨_,rfl⟩ | ⟨h,_⟩
  ·exact⟨x,y,rfl,h1,hk,hM⟩
  ·exact Zpp rfl h
 ·exact Zpp hfit h
structure ImpW (t:TaskP) (b m T:Nat) (sv hv rv pv:Value) (gq gc:Nat->Nat) (G H Bs:Nat) (x0 y0:ByteArray) (w:World) (pl:List (List Int)) (n:Nat) (fl:Bool) (W:World):Prop where
 len:pl.length=T
 plan:PlanO pl t.sites.length m b pv gq gc W
 work:WorkW t b m sv hv rv pv W
 memo:Memo W m t n
 b0:W.heap[G]?=some (wkO b)
 b1:W.heap[G+1]?=some (flO fl)
 b2:W.heap[H]?=some (pObj x0 y0)
 b3:W.heap[Bs]?=some (wkO b)
 base:Keeps (NotG m T gq) w W
structure ImpD (b m T:Nat) (pv:Value) (gq:Nat->Nat) (G H Bs D:Nat) (w:World):Prop where
 bD:b<D
 mD:m<D
 gD:∀ u,u<T->gq u<G/\m<gq u/\gq u≠b
 pD:∀ x,pv.ownBlock=some x->x<D
 hs:b<G/\m<G/\G+1<H/\H<Bs/\Bs+1=D/\w.heap.size=G/\b≠m
theorem ImpW.keepD {t:TaskP} {b m T:Nat} {sv hv rv pv:Value} {gq gc:Nat->Nat} {G H Bs D:Nat} {x0 y0:ByteArray} {w:World} {pl:List (List Int)} {n:Nat} {fl:Bool} {W W':World} (h:ImpW t b m T sv hv rv pv gq gc G H Bs x0 y0 w pl n fl W) (d:ImpD b m T pv gq G H Bs D w)
  (hk:Keeps (fun x=>x<D) W W'):ImpW t b m T sv hv rv pv gq gc G H Bs x0 y0 w pl n fl W':=by
 obtain⟨s1,s2,s3,s4,s5,s6,s7⟩:=d.hs
 refine⟨h.len,⟨ZT h.plan.outer fun g hg=>?_,fun u hu=>ZT (h.plan.row u hu) fun g hg=>?_,h.plan.inj,h.plan.out⟩,h.work.keepS hk (fun x hx=>by show x<D;omega) d.bD,h.memo.stay (hk.block m h.memo.lt d.mD),hk.at h.b0 Za,hk.at h.b1 Za,hk.at h.b2 Za,hk.at h.b3 Za,h.base.via hk fun x hx _=>by show x<D;omega⟩
 ·exact hk.block g (ZoZ h.plan.outer g hg).2 (d.pD g hg)
 ·have hg':gq u=g:=by simpa[Value.ownBlock] using hg
  have:=(d.gD u (by rw[<- h.len];exact hu)).1
  exact hk.block g (ZoZ (h.plan.row u hu) g hg).2 (by show g<D;omega)
theorem PlanO.keepP {p:List (List Int)} {N m b G:Nat} {pv:Value} {gq gc:Nat->Nat} {w w':World} (h:PlanO p N m b pv gq gc w) (h1:∀ u,u<p.length->gq u<G) (h2:∀ x,pv.ownBlock=some x->x<G) (hk:Keeps (fun x=>x<G) w w'):PlanO p N m b pv gq gc w':=by
 refine⟨ZT h.outer fun g hg=>hk.block g (ZoZ h.outer g hg).2 (h2 g hg),fun u hu=>ZT (h.row u hu) fun g hg=>?_,h.inj,h.out⟩
 have hg':gq u=g:=by simpa[Value.ownBlock] using hg
 exact hk.block g (ZoZ (h.row u hu) g hg).2 (by show g<G;have:=h1 u hu;omega)
def ImpN (t:TaskP) (p:List (List Int)) (k:Nat):Prop:=∀ i,i<k->valR t (Zam t p (mvJ t p i))<=valR t p
def BoxM (t:TaskP) (p:List (List Int)) (B:Nat) (a1:Nat->Nat->Act) (k:Nat) (a':Act) (W:World):Prop:=
 ∃ A,B<=A/\a'=a1 k A/\W.heap[A]?=some (mvO (mvU t (mvJ t p k):Nat) (mvI t (mvJ t p k):Nat) (mvK t (mvJ t p k):Nat))
theorem Zfc (t:TaskP) (p:List (List Int)):(Zbp t p).length<=mvN t:=Zix _ _
theorem ImpN.no {t:TaskP} {p:List (List Int)} (h:ImpN t p (Zbp t p).length):MoveR t p none:=.no fun j hj hm=>by
 obtain⟨h1,h2⟩:=Zdz hj hm
 have:=h _ h1
 unfold mvJ Zbp at this
 rw[h2] at this
 exact this
theorem ImpN.yes {t:TaskP} {p:List (List Int)} {k:Nat} (h:ImpN t p k) (hk:k<(Zbp t p).length) (hv:valR t p<valR t (Zam t p (mvJ t p k))):MoveR t p (some (Zam t p (mvJ t p k))):=by
 obtain⟨h1,h2⟩:mvJ t p k<mvN t/\mvB t p (mvJ t p k)=true:=Zd1 (P:=mvB t p) (n:=mvN t) hk
 refine .yes _ h1 h2 hv fun i hi hm=>?_
 obtain⟨h3,h4⟩:=Zdz (Nat.lt_trans hi h1) hm
 have hlt:(pick (mvB t p) i).length<k:=by
  rcases ZoR (pick (mvB t p) i).length k with h | h
  ·exact h
  ·exfalso
   rcases ZoR k (pick (mvB t p) i).length with h5 | h5
   ·have:=ZhL h3 h5
    unfold mvJ Zbp at hi
    omega
   ·have e:k=(pick (mvB t p) i).length:=Za
    unfold mvJ Zbp at hi
    rw[e] at hi
    omega
 have:=h _ hlt
 unfold mvJ Zbp at this
 rw[h4] at this
 exact this
theorem ZbR {w:World} {g i:Nat} {cs:Array Value} {T:TypeId} (h:w.heap[g]?=some (.cells cs T (0,0))):w.cell? ⟨g,i,none⟩=cs[i]?:=by
 unfold World.cell?
 simp only[h]
 rfl
theorem ZkC {cs:Array Value} {i k:Nat} {a b x y:Value} (hne:i≠k) (ha:cs[i]?=some a) (hb:cs[k]?=some b):(((cs.setIfInBounds i x).setIfInBounds k y).setIfInBounds i a).setIfInBounds k b=cs:=by
 refine Array.ext_getElem? fun j=>?_
 simp only[Array.getElem?_setIfInBounds,Array.size_setIfInBounds]
 obtain⟨h1,e1⟩:=ZoK.1 ha
 obtain⟨h2,e2⟩:=ZoK.1 hb
 by_cases e3:k=j
 ·subst e3
  simp[h2,e2]
 ·by_cases e4:i=j
  ·subst e4
   simp[e3,h1,e1]
  ·simp[e3,e4]
def ZnO (t:TaskP) (p:List (List Int)) (b m n T:Nat) (pv:Value) (gq gc:Nat->Nat) (w:World) (e:Ending) (w':World):Prop:=
 ∃ r:Option (List (List Int)),e=.returned (.bool r.isSome)/\MoveR t p r/\PlanO (r.getD p) t.sites.length m b pv gq gc w'/\Memo w' m t (n+200000)/\Keeps (NotG m T gq) w w'
theorem Zjx {t:TaskP} {p:List (List Int)} {b m n T:Nat} {sv hv rv pv:Value} {gq gc:Nat->Nat} {w:World} (hW:WorkW t b m sv hv rv pv w) (hP:PlanO p t.sites.length m b pv gq gc w) (hm:Memo w m t n) (hn:n<=800000000000) (ok:PlanOk t p) (hT:p.length=T)
  (hfit:∀ q,PlanOk t q->Zae (valF t q) t.sites.length) :
  Calls Tryz.prog 92 #[.pointer (some ⟨b,0,none⟩)] w (ZnO t p b m n T pv gq gc w):=by
 have hT8:=ok.len8
 have hTN:=ok.task.sites
 rw[hT] at hT8
 have HTL:=Zpz hT
 have HOK:=Zpz ok
 have HFIT:=Zpz hfit
 have hmf:∀ (fn:Fn) (first cap:Array Value) (w:World),(Instr.makeFunc fn first cap).run Tryz.prog w=.ok (.func fn first cap) w:=fun _ _ _ _=>rfl
 obtain⟨G,hG⟩:=ZpB w.heap.size
 obtain⟨w1,hw1⟩:=ZpB ((w.alloc (wkO b)).alloc (flO false))
 have hb1:Below w.heap.size w w1:=by rw[<- hw1];exact((ZoL _ w).alloc ZpA _).alloc Zc _
 have g0:w1.heap[G]?=some (wkO b):=by
  rw[<- hw1,<- hG]
  exact(Zo1 _ _ _ Zc).trans (ZoO w _)
 have g1:w1.heap[G+1]?=some (flO false):=by
  rw[<- hw1,<- hG]
  have:=ZoO (w.alloc (wkO b)) (flO false)
  rwa [Zpa] at this
 have hgs:∀ u,u<T->gq u<G/\m<gq u/\gq u≠b:=fun u hu=>⟨by rw[<- hG];exact(hP.gt (by rw[hT];exact hu)).2,(hP.gt (by rw[hT];exact hu)).1,(hP.out.2 u (by rw[hT];exact hu)).1⟩
 have hbG:b<G:=by rw[<- hG];exact(Zpu hW.blk)
 have hmG:m<G:=by have:=hm.lt;omega
 have hpG:∀ x,pv.ownBlock=some x->x<G:=fun x hx=>by rw[<- hG];exact(ZoZ hP.outer x hx).2
 have hbm:=hW.ne
 have k1:=hb1.keepsS (NotM m)
 have HV1:=Zpz (Zg6 (hW.keep k1) (hP.keep k1) (hm.step hb1) Za ok (hfit p ok))
 have HI1:Hid (PlanO p t.sites.length m b pv gq gc w1/\WorkW t b m sv hv rv pv w1/\w1.heap[G]?=some (wkO b)/\w1.heap[G+1]?=some (flO false)/\Keeps (NotG m T gq) w w1):=⟨hP.keep k1,hW.keep k1,g0,g1,hb1.keepsS _⟩
 have HGS:=Zpz (Zpq hgs hpG)
 have a0:=Zn g0 0 (v:=.pointer (some ⟨b,0,none⟩)) rfl
 have HGG:=Zpz hG
 have hs1:w1.heap.size=G+2:=by rw[<- hw1];simp[hG]
 clear hW hP hm ok hT hfit hb1 g0 g1 hgs hpG k1
 refine ZcS Tryz.func92 rfl ?_
 simp only[Tryz.ntmps92,Nat.reduceAdd,Nat.reduceSub,Zpy]
 go_wp2_with fail
 refine HV1.out.mono ?_
 rintro e w2 ⟨x0,y0,rfl,hx,hk,hM⟩
 obtain⟨H,hH⟩:=ZpB w2.heap.size
 obtain⟨w3,hw3⟩:=ZpB (w2.alloc (pObj x0 y0))
 have hb3:Below w2.heap.size w2 w3:=by rw[<- hw3];exact(ZoL _ w2).alloc ZpA _
 have g3:w3.heap[H]?=some (pObj x0 y0):=by rw[<- hw3,<- hH];exact ZoO w2 _
 have k3:Keeps (NotM m) w1 w3:=hk.trans (hb3.keepsS _)
 have HX0:=Zpz hx
 have hM3:=hM.step hb3
 have hsH:G+2<=H:=by rw[<- hH,<- hs1];exact hk.size
 have hs3:w3.heap.size=H+1:=by rw[<- hw3];simp[hH]
 obtain⟨i1,i2,i3,i4,i5⟩:=HI1.out
 have HI3:Hid (PlanO p t.sites.length m b pv gq gc w3/\WorkW t b m sv hv rv pv w3/\w3.heap[G]?=some (wkO b)/\w3.heap[G+1]?=some (flO false)/\Keeps (NotG m T gq) w w3/\w3.heap[H]?=some (pObj x0 y0)/\Memo w3 m t (n+24)):=
  ⟨i1.keep k3,i2.keep k3,k3.at i3 (by show G≠m;omega),k3.at i4 (by show G+1≠m;omega),i5.trans (k3.mono fun x _ h=>h.1),g3,hM3⟩
 clear hx hk hM hb3 g3 k3 hM3 i1 i2 i3 i4 i5 HI1 HV1 a0
 have a0:=Zn HI3.out.2.2.1 0 (v:=.pointer (some ⟨b,0,none⟩)) rfl
 go_wp2_with fail
 try rw[hw3]
 try rw[hH]
 refine(ZlM b w3).mono ?_
 rintro e w4 ⟨rfl,rfl⟩
 obtain⟨Bs,hBs⟩:=ZpB w3.heap.size
 obtain⟨w5,hw5⟩:=ZpB (w3.alloc (wkO b))
 have hb5:Below w3.heap.size w3 w5:=by rw[<- hw5];exact(ZoL _ w3).alloc ZpA _
 have g5:w5.heap[Bs]?=some (wkO b):=by rw[<- hw5,<- hBs];exact ZoO w3 _
 obtain⟨i1,i2,i3,i4,i5,i6,i7⟩:=HI3.out
 have k5:=hb5.keepsS (fun _=>True)
 have HI5:Hid (ImpW t b m T sv hv rv pv gq gc G H Bs x0 y0 w p (n+24) false w5):=
  ⟨HTL.out,i1.keep (hb5.keepsS _),i2.keep (hb5.keepsS _),i7.step hb5,k5.at i3 trivial,k5.at i4 trivial,k5.at i6 trivial,g5,i5.trans (hb5.keepsS _)⟩
 obtain⟨D,hD⟩:=ZpB w5.heap.size
 have hDB:Bs+1=D:=by rw[<- hD,<- hw5];simp[hBs]
 have HD:Hid (ImpD b m T pv gq G H Bs D w):=⟨Za,Za,HGS.out.1,fun x hx=>by have:=HGS.out.2 x hx;omega,⟨hbG,hmG,Za,Za,hDB,HGG.out,hbm⟩⟩
 rw[hw5,hBs]
 clear hb5 g5 i1 i2 i3 i4 i5 i6 i7 k5 HI3 hw5 hBs hw3 hH hs1 hs3 hw1 a0 hG
 go_wp2_with fail
 refine(wpIn_wide (n:=9)).1 ?_
 refine Zhy D hD (gf:=192) (lb:=#[.pointer (some ⟨Bs,0,none⟩)]) (f:=fun k=>#[mvAt t p k]) (N:=(Zbp t p).length) (S:=fun x=>x<D/\x≠m) (T:=fun _=>True)
  rfl (enters_of Tryz.func192 Zb rfl) (fun _=>rfl) ?iter (fun _ h=>h.1) ⟨trivial,trivial⟩
  (fun k W=>ImpN t p k/\ImpW t b m T sv hv rv pv gq gc G H Bs x0 y0 w p (n+24+24*k) false W)
  (fun c k W=>c=.ret/\MoveR t p (some (Zam t p (mvJ t p k)))/\ImpW t b m T sv hv rv pv gq gc G H Bs x0 y0 w (Zam t p (mvJ t p k)) (n+24+24*(k+1)) true W) ?ci ?cx ?start
  (BoxM t p (D+2) ?a1) ?cb ?assign ?body ?done ?stop
 case ci=>exact fun k W1 W2 h hk=>⟨h.1,h.2.keepD HD.out (hk.mono fun x _ (hx:x<D)=>⟨trivial,Za,Za⟩)⟩
 case cx=>exact fun c k W1 W2 h hk=>⟨h.1,h.2.1,h.2.2.keepD HD.out (hk.mono fun x _ (hx:x<D)=>⟨trivial,Za,Za⟩)⟩
 case start=>exact⟨fun i hi=>Zpp hi (Zpb _),HI5.out⟩
 case cb=>
  rintro k a' W1 W2 ⟨A,h1,h2,h3⟩ hk
  exact⟨A,h1,h2,hk.at h3 ⟨Za,Za⟩⟩
 case iter=>
  have hTp:=HTL.out
  subst hTp
  obtain⟨sb,so,sc,hb,ho,hc,rb,ro,rk,cv,rq,rp,rc,k1,k2,k3,hA⟩:=HI5.out.work.open HOK.out.task
  obtain⟨pb,pc,hpv,hPW⟩:=HI5.out.plan.toW hT8.1
  have hTH:=HOK.out.teams
  have hTR:=HOK.out.task.rates
  refine ZkH (T:=p.length) (N:=t.sites.length) (b:=b) (rb:=rb) (ro:=ro) (rk:=rk) (pb:=pb) (po:=0) (pc:=pc) (gq:=gq) (gp:=fun _=>0) (gc:=gc) (rq:=rq) (rp:=rp) (rc:=rc) hTH.symm rfl (by rw[hTR];exact hTH.symm) hTN hT8.2 (by rw[hTH,<- hTR];exact k3) hPW.cap (fun V hV=>?_) HOK.out.task
  have hk:Keeps (NotM m) w5 V:=hV.mono fun x hx hs=>⟨by rw[<- hD];exact hx,hs⟩
  have A:=hA V hk
  have hP':=hPW.keep hk
  exact⟨Zn (hk.at HI5.out.b3 (by have:=HD.out.hs;show Bs≠m;omega)) 0 rfl,by rw[hTH,<- hTR];exact A.w2,by rw[<- hpv];exact A.w3,fun u hu=>A.at'.rate u (by rw[hTR,<- hTH];exact hu),fun u hu=>hP'.at' u hu,A.at'.eff⟩
 case assign=>
  intro l k W hk hW
  obtain⟨A,hA⟩:=ZpB W.heap.size
  obtain⟨V,hV⟩:=ZpB (W.alloc (mvO (mvU t (mvJ t p k):Nat) (mvI t (mvJ t p k):Nat) (mvK t (mvJ t p k):Nat)))
  have h1:V.heap[A]?=some (mvO (mvU t (mvJ t p k):Nat) (mvI t (mvJ t p k):Nat) (mvK t (mvJ t p k):Nat)):=by rw[<- hV,<- hA];exact ZoO W _
  have hkk:Keeps (fun _=>True) W V:=by rw[<- hV];exact(Keeps.refl _ W).alloc _
  gi_wp2
  try simp only[hV,hA]
  refine⟨hkk,A,Za,?_,h1⟩
  clear hkk h1 hV hA hW
  exact rfl
 case body=>
  have hfn:∀ k,Fence.wide.fn k:=fun _=>trivial
  rintro l k a' W hk ⟨hN,hI⟩ ⟨A,hA,rfl,hA0⟩ hW
  obtain⟨j1,j2⟩:mvJ t p k<mvN t/\mvB t p (mvJ t p k)=true:=Zd1 (P:=mvB t p) (n:=mvN t) hk
  have HMV:Hid (PlanOk t (Zam t p (mvJ t p k))):=HOK.out.moved j1 j2
  obtain⟨j,hj⟩:=ZpB (mvJ t p k)
  rw[hj] at j1 j2 hA0 HMV
  obtain⟨l1,l2,l3⟩:=ZkD j1
  unfold mvB at j2
  simp only[Zpj,Zpk] at j2
  obtain⟨m1,m2,_⟩:=j2
  have hmvd:Zam t p j=bump (bump p (mvU t j) (mvI t j) (-1)) (mvU t j) (mvK t j) 1:=rfl
  obtain⟨u,hu⟩:=ZpB (mvU t j)
  obtain⟨i,hi⟩:=ZpB (mvI t j)
  obtain⟨q',hq'⟩:=ZpB (mvK t j)
  rw[hu,hi,hq'] at hmvd hA0
  rw[hu,hi] at m1
  rw[hi,hq'] at m2
  rw[hu] at l1
  rw[hi] at l2
  rw[hq'] at l3
  obtain⟨N,hNN⟩:=ZpB t.sites.length
  have hup:u<p.length:=by rw[HOK.out.teams];exact l1
  obtain⟨pb,pc,hpv,hPW⟩:=hI.plan.toW (by rw[hI.len];exact hT8.1)
  obtain⟨p1,p2,p3,p4⟩:=hPW.at' u hup
  have p5:=p4 i l2
  have p6:=p4 q' l3
  rw[Nat.zero_add] at p1 p5 p6
  obtain⟨cur,hcur⟩:∃ cur,W.heap[gq u]?=some (.cells cur 3 (0,0)):=by
   obtain⟨_,h2⟩:=hI.plan.row u hup
   rcases h2 with ⟨h,_⟩ | ⟨g,_,cur,hv,_,hg,_⟩
   ·cases h
   ·injection hv with e1
    injection e1 with e1
    injection e1 with e1
    rw[e1]
    exact⟨cur,hg⟩
  have hfz:∀ z,W.drew.frozen? ⟨gq u,z,none⟩=false:=fun z=>World.ownsRow.frozenAt (hI.plan.row u hup) z
  have hpn:=(HOK.out.hour u i hup l2).1
  have hpq:=(HOK.out.hour u q' hup l3).1
  have HPN:=Zpz (Zpq hu (Zpq hi hq'))
  have hgu:=HD.out.gD u (by rw[<- HTL.out];exact hup)
  obtain⟨c,hc⟩:=ZpB (pN p u i)
  obtain⟨d,hd⟩:=ZpB (pN p u q')
  obtain⟨q,hq⟩:=ZpB (gq u)
  obtain⟨qc,hqc⟩:=ZpB (gc u)
  obtain⟨L,hL⟩:=ZpB p.length
  have HCD:=Zpz (Zpq hc (Zpq hd hq))
  rw[hc] at p5 hpn m1
  rw[hd] at p6 hpq
  rw[hq] at p1 p5 p6 hcur hfz hgu
  rw[hqc,hNN] at p1
  rw[hqc,hNN] at p2
  rw[hqc] at p3
  have hwb:=hI.work.blk
  rw[hpv,hL] at hwb
  have HI:=Zpz hI
  have HN:=Zpz hN
  have HKK:=Zpz hk
  have i0':(0:Int)<=(u:Int):=Za
  have i1':(u:Int)<(L:Int):=Za
  have i2':(0:Int)<=(i:Int):=Za
  have i3':(i:Int)<(N:Int):=Za
  have i4':(0:Int)<=(q':Int):=Za
  have i5':(q':Int)<(N:Int):=Za
  have n1:L<=pc/\pc<=9223372036854775807:=by rw[<- hL];exact hPW.cap
  have eW1:IntKind.i64.wrap (c-1)=c-1:=Zpm _ Za
  have eW2:IntKind.i64.wrap (d+1)=d+1:=Zpm _ Za
  have eW3:IntKind.i64.wrap (c-1+1)=c:=by rw[Zpm _ Za];omega
  have eW5:IntKind.i64.wrap c=c:=Zpm _ Za
  have eW6:IntKind.i64.wrap d=d:=Zpm _ Za
  have eW4:IntKind.i64.wrap (d+1-1)=d:=by rw[Zpm _ Za];omega
  clear hI hN hk hPW p4 hu hi hq' hc hd hq hqc hNN hpv
  gi_wp2_with fail
  refine ZaO [(true,0),(true,1),(true,2),(true,3),(true,4),(true,5),(true,6),(true,7),(true,8)] (fun V=>V=W.drew) (fun _=>false)
   Zb Zb (fun _ _=>rfl) Zi (fun _ _ h=>h) rfl ?_
  have b0:W.drew.cell? ⟨G,0,none⟩=some (.pointer (some ⟨b,0,none⟩)):=Zn HI.out.b0 0 rfl
  have b1:W.drew.cell? ⟨b,3,none⟩=some (.slice (some ⟨pb,0,none⟩) L pc):=Zn hwb 3 rfl
  have b2:W.drew.cell? ⟨A,0,none⟩=some (.int .i64 u):=Zn hA0 0 rfl
  have b3:W.drew.cell? ⟨A,1,none⟩=some (.int .i64 i):=Zn hA0 1 rfl
  have b4:W.drew.cell? ⟨A,2,none⟩=some (.int .i64 q'):=Zn hA0 2 rfl
  have b5:W.drew.cell? ⟨pb,u,none⟩=some (.slice (some ⟨q,0,none⟩) N qc):=p1
  have b6:W.drew.cell? ⟨q,i,none⟩=some (.int .i64 c):=p5
  iterate 9
   refine Zr _ rfl rfl (fun w' hS=>by subst hS;exact Zf) ?_
   simp only[Act.put,Zl]
  refine ZI ?_
  obtain⟨W5,hW5⟩:=ZpB ((W.setCell ⟨q,i,none⟩ (.int .i64 (c-1))).drew)
  have k5:Keeps (fun x=>x≠q) W W5:=by rw[<- hW5];exact((Keeps.refl _ W).setCell (p:=⟨q,i,none⟩) Zc _).drew
  have q5:W5.heap[q]?=some (.cells (cur.setIfInBounds i (.int .i64 (c-1))) 3 (0,0)):=by rw[<- hW5];exact ZoQ hcur _
  have e5:cur[i]?=some (.int .i64 c):=(ZbR hcur).symm.trans p5
  have e6:cur[q']?=some (.int .i64 d):=(ZbR hcur).symm.trans p6
  have hP5:PlanO (bump p u i (-1)) t.sites.length m b pv gq gc W5:=by
   have h:=HI.out.plan.store hup l2 (-1) (x:=c-1) (by rw[HCD.out.1];omega)
   rw[HCD.out.2.2] at h
   rw[<- hW5]
   exact h.keep (Keeps.refl _ _).drew
  obtain⟨s1,s2,s3,s4,s5,s6,s7⟩:=HD.out.hs
  have hAq:A≠q:=Za
  have c4:W5.cell? ⟨A,2,none⟩=some (.int .i64 q'):=Zn (k5.at hA0 hAq) 2 rfl
  have c6:W5.cell? ⟨q,q',none⟩=some (.int .i64 d):=by
   rw[ZbR q5,Array.getElem?_setIfInBounds,if_neg Za]
   exact e6
  have f6:W5.frozen? ⟨q,q',none⟩=false:=by
   have:=World.ownsRow.frozenAt (hP5.row u (by rw[Zad];exact hup)) q'
   rwa [HCD.out.2.2] at this
  obtain⟨W6,hW6⟩:=ZpB (W5.setCell ⟨q,q',none⟩ (.int .i64 (d+1)))
  have k6:Keeps (fun x=>x≠q) W W6:=by rw[<- hW6];exact k5.setCell (p:=⟨q,q',none⟩) Zc _
  have q6:W6.heap[q]?=some (.cells ((cur.setIfInBounds i (.int .i64 (c-1))).setIfInBounds q' (.int .i64 (d+1))) 3 (0,0)):=by rw[<- hW6];exact ZoQ q5 _
  have hP6:PlanO (Zam t p j) t.sites.length m b pv gq gc W6:=by
   have h:=hP5.store (u:=u) (i:=q') (by rw[Zad];exact hup) l3 1 (x:=d+1) (by rw[Zbo (.inr fun e=>m2 e.symm),HCD.out.2.1])
   rw[HCD.out.2.2] at h
   rw[hmvd,<- hW6]
   exact h
  have hW6w:=HI.out.work.keepS k6 (fun x hx=>by show x≠q;omega) (fun e=>hgu.2.2 e.symm)
  have hM6:=HI.out.memo.stay (k6.block m HI.out.memo.lt (by show m≠q;omega))
  have HK6:=Zpz k6
  have HQ6:=Zpz (Zpq q6 (Zpq e5 e6))
  have HS6:=Zpz (Zpq hP6 (Zpq hW6w hM6))
  have g6:W6.heap[G]?=some (wkO b):=k6.at HI.out.b0 Za
  have h6:W6.heap[H]?=some (pObj x0 y0):=k6.at HI.out.b2 Za
  clear hP5 hP6 hW6w hM6 q5 q6 e5 e6 k5 k6
  gi_wp2_with fail
  have hbd:Below W6.heap.size W6 W6.drew:=(ZoL _ W6).drew
  have HVC:=Zpz (Zg6 (HS6.out.2.1.keep (hbd.keepsS _)) (HS6.out.1.keep (hbd.keepsS _)) (HS6.out.2.2.step hbd) (by
   have h1:k<(Zbp t p).length:=HKK.out
   have h2:=Zfc t p
   have h3:mvN t<=8*24*24:=by
    unfold mvN
    exact Nat.mul_le_mul (Nat.mul_le_mul HOK.out.task.teams.2 HOK.out.task.sites.2) HOK.out.task.sites.2
   omega) HMV.out (HFIT.out _ HMV.out))
  refine ZaO [(true,0),(true,2),(false,1),(false,3),(true,4)] (fun V=>V.heap[G]?=some (wkO b)/\V.heap[H]?=some (pObj x0 y0)) (fun _=>false)
   Zb Zb (fun _ _=>rfl) Zi (fun _ _ h=>h) ⟨g6,h6⟩ ?_
  iterate 2
   refine Zr _ rfl rfl (fun w' hS=>by obtain⟨h1,h2⟩:=hS;have a0:=Zn h1 0 (v:=.pointer (some ⟨b,0,none⟩)) rfl;have e0:=Zn h2 0 (v:=.string x0) rfl;have e1:=Zn h2 1 (v:=.string y0) rfl;exact Zf) ?_
   simp only[Act.put,Zl]
  refine Zt rfl rfl fun K hK=>?_
  go_simp
  go_at_call 60
  refine HVC.out.mono ?_
  rintro e V2 ⟨x,y,rfl,hx,hk,hM⟩
  have HX:=Zpz hx
  have HM:=Zpz hM
  have HK:=Zpz hk
  have g7:V2.heap[G]?=some (wkO b):=hk.at g6 (by show G≠m;omega)
  have h7:V2.heap[H]?=some (pObj x0 y0):=hk.at h6 (by show H≠m;omega)
  refine hK _ _ (.inr ⟨g7,h7⟩) ?_
  clear hK K hx hM hk HVC b0 b1 b2 b3 b4 b5 b6 c4 c6 f6
  obtain⟨g,hg⟩:=ZpB (sgnR (valR t (Zam t p j)) (valR t p))
  refine Zt rfl rfl fun K hK=>?_
  go_simp
  go_at_call 22
  refine(ZbC HX.out HX0.out hg _).mono ?_
  rintro e V3 ⟨rfl,hb⟩
  have hkk:Keeps (NotM m) W6 V3:=(((Keeps.refl (NotM m) W6).drew.trans HK.out).trans (hb.keepsS _))
  have hM3:=HM.out.step hb
  refine hK _ _ (.inr ⟨hkk.at g6 (by show G≠m;omega),hkk.at h6 (by show H≠m;omega)⟩) ?_
  clear hK K
  have HKK3:=Zpz hkk
  have HM3:=Zpz hM3
  have hsz3:=hkk.size
  clear hb g7 h7 hkk hM3 HM HK
  iterate 1
   refine Zr _ rfl rfl (fun w' hS=>Zf) ?_
   simp only[Act.put,Zl]
  refine ZI ?_
  by_cases hlt:valR t p<valR t (Zam t p j)
  ·have hge:(0:Int)<g:=by rw[<- hg];exact Zby (Rat.not_le.2 hlt)
   have HLT:=Zpz hlt
   clear hlt hg
   have r0:V3.heap[G+1]?=some (flO false):=HKK3.out.at (HK6.out.at HI.out.b1 Za) (by show G+1≠m;omega)
   have d0:=Zn r0 0 (v:=.bool false) rfl
   have f0:=Zo r0 0
   obtain⟨V4,hV4⟩:=ZpB (V3.setCell ⟨G+1,0,none⟩ (.bool true))
   have k4:Keeps (fun x=>x≠G+1) V3 V4:=by rw[<- hV4];exact(Keeps.refl _ V3).setCell (p:=⟨G+1,0,none⟩) Zc _
   have r4:V4.heap[G+1]?=some (flO true):=by rw[<- hV4];exact ZoQ r0 _
   gi_wp2
   have hP3:=HS6.out.1.keep HKK3.out
   have hW3:=HS6.out.2.1.keep HKK3.out
   have hkW:Keeps (fun x=>x≠q/\x≠m/\x≠G+1) W V4:=((HK6.out.mono fun x _ hx=>hx.1).trans (HKK3.out.mono fun x _ hx=>hx.2.1)).trans (k4.mono fun x _ hx=>hx.2.2)
   refine⟨hkW.mono fun x _ hx=>⟨Za,Za,Za⟩,rfl,?_,?_⟩
   ·rw[<- hj] at HLT
    exact HN.out.yes HKK.out HLT.out
   ·rw[hj]
    refine⟨by rw[Zbc];exact HI.out.len,⟨ZT hP3.outer fun x hx=>k4.block x (ZoZ hP3.outer x hx).2 (fun e=>?_),fun v hv=>ZT (hP3.row v hv) fun x hx=>k4.block x (ZoZ (hP3.row v hv) x hx).2 (fun e=>?_),hP3.inj,hP3.out⟩,
     hW3.keepS k4 (fun x hx=>by show x≠G+1;omega) Za,(HM3.out.stay (k4.block m HM3.out.lt (by show m≠G+1;omega))).mono Za,hkW.at HI.out.b0 ⟨Za,Za,Za⟩,r4,hkW.at HI.out.b2 ⟨Za,Za,Za⟩,hkW.at HI.out.b3 ⟨Za,Za,Za⟩,
     HI.out.base.via hkW fun x hx hs=>⟨fun e=>hs.2 u (by rw[<- HTL.out];exact hup) (by rw[HCD.out.2.2];exact e),hs.1,Za⟩⟩
    ·have:=HGS.out.2 x hx
     omega
    ·have hx':gq v=x:=by simpa[Value.ownBlock] using hx
     have:=(HGS.out.1 v (by rw[<- HTL.out,<- Zbc (t:=t) (p:=p) j];exact hv)).1
     omega
  ·have hge:¬ (0:Int)<g:=by rw[<- hg];exact ZbA (Rat.not_lt.1 hlt)
   have HLT:=Zpz (Rat.not_lt.1 hlt)
   clear hlt hg
   have q3:V3.heap[q]?=some (.cells ((cur.setIfInBounds i (.int .i64 (c-1))).setIfInBounds q' (.int .i64 (d+1))) 3 (0,0)):=HKK3.out.at HQ6.out.1 (by show q≠m;omega)
   have hA3:V3.heap[A]?=some (mvO u i q'):=HKK3.out.at (HK6.out.at hA0 hAq) (by show A≠m;omega)
   obtain⟨z1,_⟩:=ZoK.1 HQ6.out.2.1
   obtain⟨z2,_⟩:=ZoK.1 HQ6.out.2.2
   have d0:=Zn hA3 1 (v:=.int .i64 i) rfl
   have d1:V3.cell? ⟨q,i,none⟩=some (.int .i64 (c-1)):=by
    rw[ZbR q3,Array.getElem?_setIfInBounds,if_neg Za,Array.getElem?_setIfInBounds,if_pos rfl,if_pos z1]
   have d2:=Zo q3 i
   obtain⟨V4,hV4⟩:=ZpB (V3.setCell ⟨q,i,none⟩ (.int .i64 c))
   have k4:Keeps (fun x=>x≠q) V3 V4:=by rw[<- hV4];exact(Keeps.refl _ V3).setCell (p:=⟨q,i,none⟩) Zc _
   have q4:V4.heap[q]?=some (.cells (((cur.setIfInBounds i (.int .i64 (c-1))).setIfInBounds q' (.int .i64 (d+1))).setIfInBounds i (.int .i64 c)) 3 (0,0)):=by rw[<- hV4];exact ZoQ q3 _
   have d3:=Zn (k4.at hA3 hAq) 2 (v:=.int .i64 q') rfl
   have d4:V4.cell? ⟨q,q',none⟩=some (.int .i64 (d+1)):=by
    rw[ZbR q4,Array.getElem?_setIfInBounds,if_neg Za,Array.getElem?_setIfInBounds,if_pos rfl,if_pos (by simpa using z2)]
   have d5:=Zo q4 q'
   obtain⟨V5,hV5⟩:=ZpB (V4.setCell ⟨q,q',none⟩ (.int .i64 d))
   have k5:Keeps (fun x=>x≠q) V3 V5:=by rw[<- hV5];exact k4.setCell (p:=⟨q,q',none⟩) Zc _
   have q5:V5.heap[q]?=some (.cells cur 3 (0,0)):=by
    rw[<- hV5,ZoQ q4,ZkC m2 HQ6.out.2.1 HQ6.out.2.2]
   gi_wp2
   have hkW:Keeps (NotM m) W V5:=by
    have h1:Keeps (fun x=>x≠q/\x≠m) W V5:=((HK6.out.mono fun x _ hx=>hx.1).trans (HKK3.out.mono fun x _ hx=>hx.2)).trans (k5.mono fun x _ hx=>hx.1)
    refine⟨h1.os,h1.tape,h1.output,h1.size,fun x hx hs=>?_⟩
    by_cases e:x=q
    ·rw[e,q5,hcur]
    ·exact h1.block x hx ⟨e,hs⟩
   refine⟨hkW.mono fun x _ hx=>by show x≠m;omega,fun z hz=>?_,⟨HI.out.len,HI.out.plan.keep hkW,HI.out.work.keep hkW,(HM3.out.stay (k5.block m HM3.out.lt (by show m≠q;omega))).mono Za,hkW.at HI.out.b0 (by show G≠m;omega),hkW.at HI.out.b1 (by show G+1≠m;omega),hkW.at HI.out.b2 (by show H≠m;omega),hkW.at HI.out.b3 (by show Bs≠m;omega),HI.out.base.trans (hkW.mono fun x _ hs=>hs.1)⟩⟩
   rcases ZoR z k with h9 | h9
   ·exact HN.out z h9
   ·obtain rfl:z=k:=Za
    rw[hj]
    exact HLT.out
 case done=>
  rintro W ⟨hN,hI⟩ hdef
  have HI:=Zpz hI
  have HN:=Zpz hN
  have r0:=hI.b1
  have d0:=Zn r0 0 (v:=.bool false) rfl
  have f0:=Zo r0 0
  obtain⟨V4,hV4⟩:=ZpB (W.setCell ⟨G+1,0,none⟩ (.bool false))
  have k4:Keeps (fun x=>x≠G+1) W V4:=by rw[<- hV4];exact(Keeps.refl _ W).setCell (p:=⟨G+1,0,none⟩) Zc _
  have r4:V4.heap[G+1]?=some (flO false):=by rw[<- hV4];exact ZoQ r0 _
  obtain⟨s1,s2,s3,s4,s5,s6,s7⟩:=HD.out.hs
  have bd:=k4.at hdef (show D≠G+1 by omega)
  have HK4:=Zpz k4
  clear hN hI
  go_wp2
  unfold Calm bodyPostM
  refine⟨Zc,.inl ⟨_,_,rfl,run_takeDeferred bd,?_⟩⟩
  have kF:Keeps (fun x=>x<D/\x≠G+1) W (V4.putObj D (.deferred none)):=(HK4.out.mono fun x _ hx=>hx.2).putObj (by show ¬ (D<D/\D≠G+1);omega) _
  have e0:(V4.putObj D (.deferred none)).cell? ⟨G+1,0,none⟩=some (.bool false):=Zn ((Zo4 Za).trans r4) 0 rfl
  refine⟨.bool false,by simp[results,Tryz.f92,go_sem,e0],none,rfl,HN.out.no,HI.out.plan.keepP (G:=G) (fun v hv=>(HGS.out.1 v (by rw[<- HTL.out];exact hv)).1) HGS.out.2 (kF.mono fun x _ (hx:x<G)=>⟨Za,Za⟩),(HI.out.memo.stay (kF.block m HI.out.memo.lt ⟨Za,Za⟩)).mono ?_,HI.out.base.via kF fun x hx _=>⟨Za,Za⟩⟩
  have h2:=Zfc t p
  have h3:mvN t<=8*24*24:=by
   unfold mvN
   exact Nat.mul_le_mul (Nat.mul_le_mul HOK.out.task.teams.2 HOK.out.task.sites.2) HOK.out.task.sites.2
  omega
 case stop=>
  rintro c k W hk ⟨rfl,hR,hI⟩ hdef
  refine(wpIn_wide (n:=9)).2 ?_
  have HI:=Zpz hI
  have r0:=hI.b1
  obtain⟨s1,s2,s3,s4,s5,s6,s7⟩:=HD.out.hs
  go_wp2
  unfold Calm bodyPostM
  refine⟨Zc,.inl ⟨_,_,rfl,run_takeDeferred hdef,?_⟩⟩
  have kF:Keeps (fun x=>x<D) W (W.putObj D (.deferred none)):=(Keeps.refl _ W).putObj (by show ¬ D<D;omega) _
  have e0:(W.putObj D (.deferred none)).cell? ⟨G+1,0,none⟩=some (.bool true):=Zn ((Zo4 Za).trans r0) 0 rfl
  refine⟨.bool true,by simp[results,Tryz.f92,go_sem,e0],some (Zam t p (mvJ t p k)),rfl,hR,HI.out.plan.keepP (G:=G) (fun v hv=>(HGS.out.1 v (by rw[<- HI.out.len];exact hv)).1) HGS.out.2 (kF.mono fun x _ (hx:x<G)=>by show x<D;omega),(HI.out.memo.stay (kF.block m HI.out.memo.lt (by show m<D;omega))).mono ?_,HI.out.base.via kF fun x hx _=>by show x<D;omega⟩
  have h2:=Zfc t p
  have h3:mvN t<=8*24*24:=by
   unfold mvN
   exact Nat.mul_le_mul (Nat.mul_le_mul HOK.out.task.teams.2 HOK.out.task.sites.2) HOK.out.task.sites.2
  omega
end Go.Proofs.YtmpaflidennnoaaGreatDoor
namespace Go.Proofs.YtmpaflidennnoaaGreatDoor
open Go.RowKit Go.Shelf
attribute [local go_sem ↓] Go.wp_at_zero Go.wp_at_succ
theorem Zbq.mono {a c:Nat} {Q:World->Prop} {w:World} (h:Zbq a Q w) (hc:a<=c):Zbq c Q w:=by
 obtain⟨w1,h1,h2,h3⟩:=h
 exact⟨w1,h1,h2,Za⟩
def ZeD (t:TaskP) (p:List (List Int)) (R b m Gm:Nat) (pv:Value) (gq gc:Nat->Nat) (n:Int) (W:World):Prop:=
 n=0/\∃ q k,ImproveR t R p q k/\PlanOk t q/\PlanO q t.sites.length m b pv gq gc W/\W.heap[Gm]?=some (inO (k:Nat))
theorem Zi6 {t:TaskP} {p:List (List Int)} {b m T R Gm Gr Gw:Nat} {sv hv rv pv:Value} {gq gc:Nat->Nat} {w:World} (hW:WorkW t b m sv hv rv pv w) (hP:PlanO p t.sites.length m b pv gq gc w) (hm:Memo w m t 0) (ok:PlanOk t p) (hT:p.length=T) (hR:R<=64)
  (hfit:∀ q,PlanOk t q->Zae (valF t q) t.sites.length) (h1:w.heap[Gm]?=some (inO 0)) (h2:w.heap[Gr]?=some (inO R)) (h3:w.heap[Gw]?=some (wkO b))
  (hE:Zbq Gm (TaskIn t sv hv rv) w) (hne:(Gm<m/\Gr<m/\Gm≠Gr)/\Gw≠m/\(∀ u,u<T->gq u≠Gw)/\b≠Gm) :
  Calls Tryz.prog 91 #[.pointer (some ⟨Gm,0,none⟩),.pointer (some ⟨Gr,0,none⟩),.pointer (some ⟨Gw,0,none⟩)] w (ZgO (ZeD t p R b m Gm pv gq gc) (fun x=>NotG m T gq x/\x≠Gm) w):=by
 have hgm:∀ u,u<T->m<gq u:=fun u hu=>(hP.gt (by rw[hT];exact hu)).1
 have hpo:∀ x,pv.ownBlock=some x->m<x:=fun x hx=>(ZoZ hP.outer x hx).1
 obtain⟨⟨n1,n2,n3⟩,n4,n5,n6⟩:=hne
 have HG:=Zpz (Zpq hgm (Zpq hpo n5))
 have HFIT:=Zpz hfit
 have HTL:=Zpz hT
 have HI:Hid (WorkW t b m sv hv rv pv w/\PlanO p t.sites.length m b pv gq gc w/\Memo w m t 0/\w.heap[Gm]?=some (inO 0)/\w.heap[Gr]?=some (inO R)/\w.heap[Gw]?=some (wkO b)/\Keeps (fun x=>NotG m T gq x/\x≠Gm) w w):=⟨hW,hP,hm,h1,h2,h3,Keeps.refl _ _⟩
 have HEL:=Zpz hE
 have HOK:=Zpz ok
 have hGwm:Gw≠Gm:=fun e=>by
  subst e
  rw[h1] at h3
  cases h3
 clear hW hP hm ok hT hfit h1 h2 h3 hgm hpo n5 hE
 go_enter Tryz.func91,Tryz.ntmps91
 go_wp2_with fail
 go_loopg [] 65 (fun gf wr=>∃ (pl:List (List Int)) (k:Nat),Hid (k<=R/\R-k<gf/\PlanOk t pl/\pl.length=T/\∀ n q r,ImproveR t n pl q r->ImproveR t (n+k) p q (r+k))/\Hid (WorkW t b m sv hv rv pv wr/\PlanO pl t.sites.length m b pv gq gc wr/\Memo wr m t (200000*k)/\wr.heap[Gm]?=some (inO (k:Nat))/\wr.heap[Gr]?=some (inO R)/\wr.heap[Gw]?=some (wkO b)/\Keeps (fun x=>NotG m T gq x/\x≠Gm) w wr))
 case atStart=>exact⟨p,0,⟨ZoY _,Za,HOK.out,HTL.out,fun n q r h=>h⟩,HI⟩
 case round=>
  clear HI
  obtain⟨pl,k,HR,HI⟩:=hrel
  obtain⟨i1,i2,i3,i4,i5,i6,i7⟩:=HI.out
  have a0:=Zn i4 0 (v:=.int .i64 (k:Nat)) rfl
  have a1:=Zn i5 0 (v:=.int .i64 R) rfl
  have a2:=Zn i6 0 (v:=.pointer (some ⟨b,0,none⟩)) rfl
  obtain⟨j1,j2,j3,j4,j5⟩:=HR.out
  by_cases hlt:(k:Int)<(R:Int)
  ·have hcall:=Zjx i1 i2 i3 Za j3 j4 HFIT.out
   have HC:=Zpz hcall
   clear i1 i2 i3 i4 i5 i6 i7 hcall j3 j4 j5
   go_wp2_with fail
   refine HC.out.mono ?_
   rintro e w2 ⟨r,rfl,hM,hP2,hm2,hk⟩
   have hI:=HI.out
   have HM:=Zpz hM
   have hW2:WorkW t b m sv hv rv pv w2:=hI.1.keepS hk (fun x hx=>⟨Za,fun u hu e=>by have:=HG.out.1 u hu;omega⟩) ⟨hI.1.ne,fun u hu e=>(hI.2.1.out.2 u (by rw[HR.out.2.2.2.1];exact hu)).1 e.symm⟩
   have hg:∀ {x o},wr.heap[x]?=some o->x<m\/x=Gw->w2.heap[x]?=some o:=fun {x o} h hx=>hk.at h ⟨Za,fun u hu e=>by
    have h1:=HG.out.1 u hu
    have h2:=HG.out.2.2 u hu
    omega⟩
   have b0:=hg hI.2.2.2.1 (.inl n1)
   have b1:=hg hI.2.2.2.2.1 (.inl n2)
   have b2:=hg hI.2.2.2.2.2.1 (.inr rfl)
   have hk2:Keeps (fun x=>NotG m T gq x/\x≠Gm) w w2:=hI.2.2.2.2.2.2.trans (hk.mono fun x _ h=>h.1)
   cases r with
   | none=>
    have HQ:Hid (ZeD t p R b m Gm pv gq gc 0 w2):=by
     have hR:=HR.out.2.2.2.2 (R-k) pl 0 (by
      rw[show R-k=(R-k-1)+1 by omega]
      exact .rest HM.out)
     rw[show R-k+k=R by omega,Nat.zero_add] at hR
     exact⟨rfl,pl,k,hR,HR.out.2.2.1,hP2,b0⟩
    have HK2:=Zpz hk2
    clear hM hP2 hm2 hk hI hW2 hg hk2 a0 a1 a2 HC b0 b1 b2
    go_wp2
    exact ZoM (results_none rfl _ _ _) rfl ⟨0,.inl ⟨rfl,rfl⟩,HQ.out,HK2.out⟩
   | some q=>
    obtain⟨y1,y2,y3⟩:=HM.out.plan HR.out.2.2.1
    obtain⟨gk',rfl⟩:∃ z,gk=z+1:=⟨gk-1,Za⟩
    have HNX:Hid (k+1<=R/\R-(k+1)<gk'/\PlanOk t q/\q.length=T/\∀ n q' r,ImproveR t n q q' r->ImproveR t (n+(k+1)) p q' (r+(k+1))):=
     ⟨Za,Za,y1,by rw[y1.teams,<- HR.out.2.2.1.teams];exact HR.out.2.2.2.1,fun n q' r h=>by
      have:=HR.out.2.2.2.2 _ _ _ (.more HM.out h)
      rw[show n+(k+1)=n+1+k by omega,show r+(k+1)=r+1+k by omega]
      exact this⟩
    have d0:=Zn b0 0 (v:=.int .i64 (k:Nat)) rfl
    have f0:=Zo b0 0
    have eW:IntKind.i64.wrap ((k:Int)+1)=(k:Int)+1:=Zpm _ Za
    obtain⟨V,hV⟩:=ZpB (w2.setCell ⟨Gm,0,none⟩ (.int .i64 ((k:Int)+1)))
    have ek:((k+1:Nat):Int)=(k:Int)+1:=Za
    have k9:Keeps (fun x=>x≠Gm) w2 V:=by rw[<- hV];exact(Keeps.refl _ w2).setCell (p:=⟨Gm,0,none⟩) Zc _
    have HV:Hid (WorkW t b m sv hv rv pv V/\PlanO q t.sites.length m b pv gq gc V/\Memo V m t (200000*(k+1))/\V.heap[Gm]?=some (inO ((k+1:Nat):Int))/\V.heap[Gr]?=some (inO R)/\V.heap[Gw]?=some (wkO b)/\Keeps (fun x=>NotG m T gq x/\x≠Gm) w V):=by
     have hP3:PlanO q t.sites.length m b pv gq gc w2:=hP2
     refine⟨?_,?_,(hm2.stay (k9.block m hm2.lt (by show m≠Gm;omega))).mono Za,by rw[<- hV,ek];exact ZoQ b0 _,k9.at b1 (Ne.symm n3),k9.at b2 hGwm,hk2.trans (k9.mono fun x _ h=>h.2)⟩
     ·refine⟨k9.at hW2.blk n6,hW2.ne,?_⟩
      exact(HEL.out.keepS (hk2.trans (k9.mono fun x _ h=>h.2)) (fun x hx=>⟨⟨Za,fun u hu e=>by have:=HG.out.1 u hu;omega⟩,Za⟩)).mono Za
     ·refine⟨ZT hP3.outer fun x hx=>k9.block x (ZoZ hP3.outer x hx).2 (fun e=>?_),fun v hv=>ZT (hP3.row v hv) fun x hx=>k9.block x (ZoZ (hP3.row v hv) x hx).2 (fun e=>?_),hP3.inj,hP3.out⟩
      ·have:=HG.out.2.1 x hx
       omega
      ·have hx':gq v=x:=by simpa[Value.ownBlock] using hx
       have:=(hP3.gt hv).1
       omega
    clear hM hP2 hm2 hk hI hW2 hg hk2 a0 a1 a2 HC b0 b1 b2 k9 y1 y2 y3
    clear ek
    go_wp2
    go_roundg gk'
    case measure=>omega
    case rel=>exact⟨q,k+1,HNX,by first | exact HV | (rw[hV];exact HV)⟩
  ·obtain rfl:k=R:=Za
   have HQ:Hid (ZeD t p k b m Gm pv gq gc 0 wr):=by
    have hR:=j5 0 pl 0 (.stop pl)
    rw[Nat.zero_add] at hR
    exact⟨rfl,pl,k,hR,j3,i2,i4⟩
   have HK7:=Zpz i7
   clear i1 i2 i3 i4 i5 i6 i7
   go_wp2
   exact ZoM (results_none rfl _ _ _) rfl ⟨0,.inl ⟨rfl,rfl⟩,HQ.out,HK7.out⟩
def Zgk (t:TaskP) (p:List (List Int)) (R:Int) (w:World) (e:Ending) (w':World):Prop:=
 ((¬ (PlanOk t p/\0<=R/\R<=64)/\e=.returned (.tuple #[.slice none 0 0,.int .i64 0,.int .i64 2]))\/
  ((PlanOk t p/\0<=R/\R<=64)/\∃ q k pv,ImproveR t R.toNat p q k/\PlanOk t q/\IIL w' pv q/\e=.returned (.tuple #[pv,.int .i64 (k:Nat),.int .i64 0])))/\Below w.heap.size w w'
theorem Zjk {t:TaskP} {p:List (List Int)} {R:Int} {sv hv rv pv:Value} {w:World} (hT:TaskIn t sv hv rv w) (hz:LimT t) (hI:IIL w pv p) (hsm:TaskOk t->t.sites.length<=4/\t.hours.length<=3) :
  Calls Tryz.prog 39 #[.agg #[sv,hv,rv],pv,.int .i64 R] w (Zgk t p R w):=by
 obtain⟨ps,cs,rfl,_⟩:=hT.sites.shape rfl
 obtain⟨ph,ch,rfl,_⟩:=hT.hours.shape rfl
 obtain⟨pr,cr,rfl,_⟩:=hT.rates.shape rfl
 obtain⟨pp,pc,rfl,_⟩:=hI.shape rfl
 obtain⟨ns,hns⟩:=ZpB t.sites.length
 obtain⟨nh,hnh⟩:=ZpB t.hours.length
 obtain⟨nr,hnr⟩:=ZpB t.rates.length
 obtain⟨np,hnp⟩:=ZpB p.length
 rw[hns,hnh,hnr] at hT ⊢
 rw[hnp] at hI ⊢
 have HT:=Zpz hT
 have HI:=Zpz hI
 have HZ:=Zpz hz
 have HSM:=Zpz hsm
 have HNP:=Zpz hnp
 have hmf:∀ (fn:Fn) (first cap:Array Value) (w:World),(Instr.makeFunc fn first cap).run Tryz.prog w=.ok (.func fn first cap) w:=fun _ _ _ _=>rfl
 obtain⟨G,hG⟩:=ZpB w.heap.size
 obtain⟨w1,hw1⟩:=ZpB ((((w.alloc (efO (.slice ps ns cs) (.slice ph nh ch) (.slice pr nr cr))).alloc (inO R)).alloc (inO 0)))
 have HE1:Hid (Env w.heap.size w [(G+1+1,inO 0),(G+1,inO R),(G,efO (.slice ps ns cs) (.slice ph nh ch) (.slice pr nr cr))] [] w1):=by
  rw[<- hw1,<- hG]
  exact(((Env.start w).push _ rfl).push _ Zc).push _ Zc
 have HGG:=Zpz hG
 have e0:=HE1.out.cell 2 0 (v:=.slice ps ns cs) rfl rfl
 have e1:=HE1.out.cell 2 1 (v:=.slice ph nh ch) rfl rfl
 have e2:=HE1.out.cell 2 2 (v:=.slice pr nr cr) rfl rfl
 clear hT hI hz hns hnh hnr hnp hsm
 go_enter Tryz.func39,Tryz.ntmps39
 go_wp2_with fail
 refine(Zeo (HT.out.below HE1.out.base ZpA) HZ.out (IIL.stay2 HI.out HE1.out.base ZpA)).mono ?_
 rintro e w2 ⟨hE,hb⟩
 have HE2:=Zpz (HE1.out.step hb)
 clear hb HE1 e0 e1 e2 hw1 hG
 rcases hE with ⟨hok,rfl⟩ | ⟨hok,rfl⟩
 rotate_left
 ·have HNO:Hid (¬ (PlanOk t p/\0<=R/\R<=64)):=fun h=>hok h.1
  clear hok
  have d0:=HE2.out.cell 0 0 (v:=.int .i64 0) rfl rfl
  have f0:=HE2.out.free 0 0 rfl
  have HS9:=Zpz (HE2.out.store 0 0 (.int .i64 0) rfl)
  go_wp2
  have q0:=HS9.out.cell 0 0 (v:=.int .i64 0) rfl rfl
  exact ZoM (v:=.tuple #[.slice none 0 0,.int .i64 0,.int .i64 2]) (by simp[results,Tryz.f39,go_sem,q0]) rfl ⟨.inl ⟨HNO.out,rfl⟩,HS9.out.base⟩
 have HOK:=Zpz hok
 have r0:=HE2.out.cell 1 0 (v:=.int .i64 R) rfl rfl
 clear hok
 go_wp2_with fail
 refine(Zcq R 0 64 _).mono ?_
 rintro e w3 ⟨rfl,hb⟩
 have HE3:=Zpz (HE2.out.step hb)
 clear hb HE2 r0
 by_cases hU:0<=R/\R<=64
 rotate_left
 ·have HNO:Hid (¬ (PlanOk t p/\0<=R/\R<=64)):=fun h=>hU h.2
  have hw:(decide ((0:Int)<=R) && decide (R<=64))=false:=by
   rw[<- Bool.not_eq_true]
   simp only[Zpj,Zpk]
   exact hU
  rw[hw]
  clear hU hw
  have d0:=HE3.out.cell 0 0 (v:=.int .i64 0) rfl rfl
  have f0:=HE3.out.free 0 0 rfl
  have HS9:=Zpz (HE3.out.store 0 0 (.int .i64 0) rfl)
  go_wp2
  have q0:=HS9.out.cell 0 0 (v:=.int .i64 0) rfl rfl
  exact ZoM (v:=.tuple #[.slice none 0 0,.int .i64 0,.int .i64 2]) (by simp[results,Tryz.f39,go_sem,q0]) rfl ⟨.inl ⟨HNO.out,rfl⟩,HS9.out.base⟩
 have hw:(decide ((0:Int)<=R) && decide (R<=64))=true:=by simp;exact hU
 rw[hw]
 clear hw
 have HYES:Hid (PlanOk t p/\0<=R/\R<=64):=⟨HOK.out,hU⟩
 obtain⟨R,rfl⟩:∃ n:Nat,R=n:=⟨R.toNat,Za⟩
 have e0:=HE3.out.cell 2 0 (v:=.slice ps ns cs) rfl rfl
 have e1:=HE3.out.cell 2 1 (v:=.slice ph nh ch) rfl rfl
 have e2:=HE3.out.cell 2 2 (v:=.slice pr nr cr) rfl rfl
 go_wp2_with fail
 have hT3:=HT.out.below HE3.out.base ZpA
 refine(ZgD hT3 (IIL.stay2 HI.out HE3.out.base ZpA) HOK.out.len8.2 HOK.out.task.sites (fun u h=>HOK.out.row u h)).mono ?_
 rintro e w4 ⟨b,m,pv,gq,gc,rfl,hW,hP,hM,hm,hb1,hb⟩
 obtain⟨q,hq⟩:=ZpB w4.heap.size
 obtain⟨w5,hw5⟩:=ZpB (w4.alloc (wkO b))
 have hE4:=HE3.out.step hb
 have HE5:Hid (Env w.heap.size w [(q,wkO b),(G+1+1,inO 0),(G+1,inO R),(G,efO (.slice ps ns cs) (.slice ph nh ch) (.slice pr nr cr))] [] w5):=by rw[<- hw5];exact hE4.push _ hq.symm
 have hb5:Below w4.heap.size w4 w5:=by rw[<- hw5];exact(ZoL _ w4).alloc ZpA _
 have hsG:G+3<=w3.heap.size:=by
  have:=HE3.out.lt 0 rfl
  omega
 have hTR:Calls Tryz.prog 50 #[.func (.func 91) #[] #[.pointer (some ⟨G+1+1,0,none⟩),.pointer (some ⟨G+1,0,none⟩),.pointer (some ⟨q,0,none⟩)]] w5 (Zej (ZeD t p R b m (G+1+1) pv gq gc) (fun x=>NotG m np gq x/\x≠G+1+1) w5):=by
  have hal:Below w5.heap.size w5 (w5.alloc (erO 0)):=(ZoL _ w5).alloc ZpA _
  have hE6:=HE5.out.step hal
  have h46:Below w4.heap.size w4 (w5.alloc (erO 0)):=hb5.trans (hal.mono hb5.size)
  have hgs:∀ u,u<np->gq u<w4.heap.size:=fun u hu=>(hP.gt (by rw[HNP.out];exact hu)).2
  have hpo:∀ x,pv.ownBlock=some x->x<w4.heap.size:=fun x hx=>(ZoZ hP.outer x hx).2
  have h45:=hb5.size
  have hmV:=hM.lt
  refine ZeI (enters_of Tryz.func91 Zb rfl) (fun x hx=>⟨⟨Za,fun u hu e=>by have:=hgs u hu;omega⟩,by have:=hb.size;omega⟩) (fun n W W' hQ hk=>?_) ?_
  ·obtain⟨h0,r,k,h1,h2,h3,h4⟩:=hQ
   refine⟨h0,r,k,h1,h2,h3.keepG (fun e=>by have:=hpo _ e;omega) (fun u hu e=>?_) hk,hk.at h4 (by have:=hb.size;show G+1+1≠_;omega)⟩
   have:=hgs u (by rw[h2.teams,<- HOK.out.teams,HNP.out] at hu;exact hu)
   omega
  ·have hbw:Below w.heap.size w (w5.alloc (erO 0)):=hE6.base
   refine Zi6 (hW.keep (h46.keepsS _)) (hP.keep (h46.keepsS _)) (hM.step h46) HOK.out HNP.out Za (fun r hr=>ZgE hr.task hr.inn (HSM.out hr.task).1 (HSM.out hr.task).2) (hE6.block 1 rfl) (hE6.block 2 rfl) (hE6.block 0 rfl) ⟨w,HT.out,hbw,by have:=HGG.out;omega⟩
    ⟨⟨Za,Za,Za⟩,Za,fun u hu e=>by have:=hgs u hu;omega,Za⟩
 have HTR:=Zpz hTR
 have HWB:=Zpz (Zpq hW.blk hW.ne)
 have hgm:∀ u,u<np->m<gq u/\gq u≠b:=fun u hu=>⟨(hP.gt (by rw[HNP.out];exact hu)).1,(hP.out.2 u (by rw[HNP.out];exact hu)).1⟩
 have hbl:=(Zpu hW.blk)
 have hgs2:∀ u,u<np->gq u<w4.heap.size:=fun u hu=>(hP.gt (by rw[HNP.out];exact hu)).2
 have HGM:=Zpz (Zpq hgm hgs2)
 have HB5:=Zpz hb5
 have hmV:=hM.lt
 clear hb hW hP hM hT3 hE4 HE3 hb5 hTR e0 e1 e2 hgm hgs2
 go_wp2_with fail
 try rw[hw5]
 try rw[hq]
 refine HTR.out.mono ?_
 rintro e w6 ⟨n,rfl,⟨rfl,r,k,hR,hok2,hP,hkm⟩,hk⟩
 have hSb:NotG m np gq b/\b≠G+1+1:=⟨⟨HWB.out.2,fun u hu e=>(HGM.out.1 u hu).2 e.symm⟩,Za⟩
 have hblk:=hk.at ((HB5.out.block _ hbl).trans HWB.out.1) hSb
 have hqq:=hk.at (HE5.out.block 0 rfl) ⟨⟨Za,fun u hu e=>by have:=HGM.out.2 u hu;omega⟩,Za⟩
 have HB6:Zpt w w6:=HE5.out.base.trans (hk.below_of (fun c hc=>⟨⟨by have:=HGG.out;omega,fun u hu e=>by have:=(HGM.out.1 u hu).1;have:=HGG.out;omega⟩,by have:=HGG.out;omega⟩) HE5.out.own)
 have HP6:=Zpz hP
 have HR:=Zpz (Zpq hR hok2)
 have HKM:=Zpz hkm
 have d0:=Zn hqq 0 (v:=.pointer (some ⟨b,0,none⟩)) rfl
 have d1:=Zn hblk 3 (v:=pv) rfl
 have d2:=Zn hkm 0 (v:=.int .i64 (k:Nat)) rfl
 have f2:=Zo hkm 0
 clear hk hR hok2 hP hkm hSb hblk hqq HTR HE5
 go_wp2
 refine ZP [(1,0),(1,1),(1,2),(1,3),(1,4),(1,5),(0,6),(0,7)] (fun V=>V=w6.drew) (fun i=>i==6 || i==7)
  Zb Zb (fun j hj=>by have h:8<=j:=hj;simp;omega) Zi rfl ?_
 have d0':w6.drew.cell? ⟨q,0,none⟩=some (.pointer (some ⟨b,0,none⟩)):=d0
 have d1':w6.drew.cell? ⟨b,3,none⟩=some pv:=d1
 have d2':w6.drew.cell? ⟨G+1+1,0,none⟩=some (.int .i64 (k:Nat)):=d2
 have f2':w6.drew.frozen? ⟨G+1+1,0,none⟩=false:=f2
 have HB7:Hid (Below w.heap.size w w6.drew):=HB6.out.drew
 have HP7:Hid (PlanO r t.sites.length m b pv gq gc w6.drew):=HP6.out.keep (Keeps.refl _ w6).drew
 have HK7:Hid (w6.drew.heap[G+1+1]?=some (inO (k:Nat))):=HKM.out
 obtain⟨w7,hw7⟩:=ZpB w6.drew
 rw[hw7] at d0' d1' d2' f2' HB7 HP7 HK7 ⊢
 clear hw7 d0 d1 d2 f2
 iterate 6
  refine Zx _ rfl rfl (fun w' hS=>by subst hS;exact Zf) ?_
  simp only[Act.put,Zl]
 refine ZB rfl rfl fun K hK=>?_
 go_simp
 obtain⟨w8,hw8⟩:=ZpB (w7.setCell ⟨G+1+1,0,none⟩ (.int .i64 (k:Nat)))
 have hb8:Below w7.heap.size w7 w7:=ZoL _ _
 have HB8:Zpt w w8:=by rw[<- hw8];exact HB7.out.setCell (p:=⟨G+1+1,0,none⟩) (by have:=HGG.out;show w.heap.size<=G+1+1;omega) _
 have e0:w8.heap[G+1+1]?=some (inO (k:Nat)):=by rw[<- hw8];exact ZoQ HK7.out _
 have HI8:Hid (IIL w8 pv r):=by
  refine(HP7.out.keepG (g:=G+1+1) (fun e=>?_) (fun u hu e=>?_) (by rw[<- hw8];exact(Keeps.refl _ w7).setCell (p:=⟨G+1+1,0,none⟩) Zc _)).toIIL
  ·have:=(ZoZ HP7.out.outer _ e).1
   omega
  ·have:=(HP7.out.gt hu).1
   omega
 rw[hw8]
 refine hK _ _ (.inl rfl) ?_
 clear hK K
 refine ZB rfl rfl fun K hK=>?_
 go_simp
 refine hK _ _ (.inl rfl) ?_
 clear hK K
 refine ZF ?_
 go_wp2
 have q0:=Zn e0 0 (v:=.int .i64 (k:Nat)) rfl
 exact ZoM (v:=.tuple #[pv,.int .i64 (k:Nat),.int .i64 0]) (by simp[results,Tryz.f39,go_sem,q0]) rfl ⟨.inr ⟨HYES.out,r,k,pv,HR.out.1,HR.out.2,HI8.out,rfl⟩,HB8.out⟩
def ZcM (t:TaskP) (p:List (List Int)) (r:Nat) (q:List (List Int)):Prop:=∀ n s k,ImproveR t n q s k->ImproveR t (r+n) p s (r+k)
theorem ZcM.start (t:TaskP) (p:List (List Int)):ZcM t p 0 p:=fun n s k h=>by rw[Nat.zero_add,Nat.zero_add];exact h
theorem ZcM.step {t:TaskP} {p q s:List (List Int)} {r:Nat} (h:ZcM t p r q) (hm:MoveR t q (some s)):ZcM t p (r+1) s:=fun n u k g=>by
 have:=h (n+1) u (k+1) (.more hm g)
 rwa [show r+(n+1)=r+1+n by omega,show r+(k+1)=r+1+k by omega] at this
theorem ZcM.stop {t:TaskP} {p q:List (List Int)} {r:Nat} (h:ZcM t p r q):ImproveR t r p q r:=h 0 q 0 (.stop q)
theorem ZcM.rest {t:TaskP} {p q:List (List Int)} {r n:Nat} (h:ZcM t p r q) (hm:MoveR t q none) (hn:r<n):ImproveR t n p q r:=by
 have:=h (n-r-1+1) q 0 (.rest hm)
 rwa [show r+(n-r-1+1)=n by omega,Nat.add_zero] at this
theorem Zjg {t:TaskP} {p:List (List Int)} {R:Int} {sv hv rv pv:Value} {w:World} (hT:TaskIn t sv hv rv w) (hz:LimT t) (hI:IIL w pv p) (hsm:TaskOk t->t.sites.length<=4/\t.hours.length<=3) :
  Calls Tryz.prog 40 #[.agg #[sv,hv,rv],pv,.int .i64 R] w (Zgk t p R w):=by
 have HT:=Zpz hT
 have HZ:=Zpz hz
 have HI:=Zpz hI
 have HSM:=Zpz hsm
 obtain⟨ps,cs,rfl,_⟩:=hT.sites.shape rfl
 obtain⟨ph,ch,rfl,_⟩:=hT.hours.shape rfl
 obtain⟨pr,cr,rfl,_⟩:=hT.rates.shape rfl
 obtain⟨T,hTl⟩:=ZpB p.length
 obtain⟨pp,pc,rfl,hpc1,hpc2⟩:=hI.shape hTl
 obtain⟨N,hns⟩:=ZpB t.sites.length
 obtain⟨nh,hnh⟩:=ZpB t.hours.length
 obtain⟨nr,hnr⟩:=ZpB t.rates.length
 rw[hns,hnh,hnr] at HT ⊢
 have HTT:=Zpz hTl
 have HNN:=Zpz hns
 obtain⟨G,hG⟩:=ZpB w.heap.size
 have HGG:=Zpz hG
 have HE0:Hid (Env w.heap.size w [(G,efO (.slice ps N cs) (.slice ph nh ch) (.slice pr nr cr))] [] (w.alloc (efO (.slice ps N cs) (.slice ph nh ch) (.slice pr nr cr)))):=(Env.start w).push _ hG.symm
 clear hT hz hI hsm hns hnh hnr hTl
 go_enter Tryz.func40,Tryz.ntmps40
 go_wp2_with fail
 refine(Zl5 (HT.out.below HE0.out.base ZpA) HZ.out (IIL.stay2 HI.out HE0.out.base ZpA)).mono ?_
 rintro e wa ⟨r,rfl,hr,hb⟩
 have HE1:=Zpz (HE0.out.step hb)
 have HRR:=Zpz hr
 clear hb hr HE0
 try rw[hG]
 clear hG
 cases r with
 | false=>
  have HNO:Hid (¬ PlanOk t p):=fun k=>by have:=HRR.out.2 k;cases this
  clear HRR
  go_wp2
  exact ZoM (v:=.tuple #[.slice none 0 0,.int .i64 0,.int .i64 2]) (by simp[results,Tryz.f40,go_sem]) rfl ⟨.inl ⟨fun h=>HNO.out h.1,rfl⟩,HE1.out.base⟩
 | true=>
 have HOK:Hid (PlanOk t p):=HRR.out.1 rfl
 clear HRR
 go_wp2_with fail
 refine(ZdH R 0 64 _).mono ?_
 rintro e wb ⟨rfl,hb⟩
 have HE2:=Zpz (HE1.out.step hb)
 clear hb HE1
 obtain⟨rq,hrq⟩:=ZpB ((decide (0<=R) && decide (R<=64)))
 rw[hrq]
 cases rq with
 | false=>
  have HNO:Hid (¬ (0<=R/\R<=64)):=fun k=>by rw[decide_eq_true k.1,decide_eq_true k.2] at hrq;cases hrq
  clear hrq
  go_wp2
  exact ZoM (v:=.tuple #[.slice none 0 0,.int .i64 0,.int .i64 2]) (by simp[results,Tryz.f40,go_sem]) rfl ⟨.inl ⟨fun h=>HNO.out h.2,rfl⟩,HE2.out.base⟩
 | true=>
 have hR:0<=R/\R<=64:=by
  rw[Zpj,Zpk,Zpk] at hrq
  exact hrq
 clear hrq
 obtain⟨Rn,rfl⟩:=Int.eq_ofNat_of_zero_le hR.1
 have HRR:Hid (Rn<=64):=by show Rn<=64;omega
 obtain⟨b,hb⟩:=ZpB wb.heap.size
 obtain⟨w2,hw2⟩:=ZpB (wb.alloc (smO 0))
 have HEF:=Zpz (HE2.out.block 0 rfl)
 have HS:=Zpz (smIn HT.out HE2.out.base hb hw2)
 have hm:b+1=w2.heap.size:=by rw[<- hw2,Zpa,hb]
 obtain⟨m,rfl⟩:∃ m,m=b:=⟨_,rfl⟩
 have HIP:Hid (IIL w2 (.slice pp T pc) p):=IIL.stay2 HI.out HS.out.now ZpA
 obtain⟨i0,hi,hz0,hz1,hz2⟩:=info_parts ZcQ
 obtain⟨i1,hi',hz0',hz1',hz2'⟩:=info_parts Zdb
 have HP0:Hid (PlanO (p.take 0) N m m (.slice none 0 0) (fun _=>0) (fun _=>0) w2):=⟨World.ownsRow_nil _ _ _ _,fun u hu=>by simp at hu,fun u v hu=>by simp at hu,by simp[Value.ownBlock],fun u hu=>by simp at hu⟩
 have hpl:T<=8:=by rw[<- HTT.out,HOK.out.teams];exact HOK.out.task.teams.2
 have hT0:1<=T:=by rw[<- HTT.out,HOK.out.teams];exact HOK.out.task.teams.1
 have hN24:1<=N/\N<=24:=by rw[<- HNN.out];exact HOK.out.task.sites
 have HROW:Hid (∀ u (h:u<p.length),p[u].length=N):=by rw[<- HNN.out];exact HOK.out.row
 go_wp2_with fail
 try rw[hb]
 try rw[hw2]
 clear hw2 hb HE2
 go_loopw [11,12] (fun pvv iv wr=>∃ (k:Nat) (gq gc:Nat->Nat),iv=.int .i64 k/\k<=T/\Hid (PlanO (p.take k) N m m pvv gq gc wr)/\Zpt w2 wr) (fun _ iv _=>T-(intOf iv).toNat)
 case atStart=>exact⟨0,_,_,rfl,ZoY _,HP0,ZoL _ _⟩
 case round=>
  obtain⟨k,gq,gc,rfl,hk,HK,HB⟩:=hrel
  clear HP0
  by_cases hlt:k<T
  ·have hkl:((p.take k)).length=k:=by rw[Zpr,HTT.out];omega
   have hkp:k<p.length:=by rw[HTT.out];exact hlt
   have HKL:=Zpz hkl
   obtain⟨b0,o0,_,hv9,_,_,hb0,hat⟩:=ZaR (IIL.stay2 HIP.out HB.out ZpA) Za
   injection hv9 with z1 z2 z3
   subst z1
   obtain⟨v,d1,d2⟩:=hat k hkp
   have hlen:=HROW.out k hkp
   obtain⟨l,hl⟩:=ZpB (p[k])
   rw[hl] at d2 hlen
   obtain⟨rb,ro,rc,rfl,e1,e2,e3,e4⟩:=ZaR d2 Za
   rw[hlen] at d1
   have HLL:=Zpz (Zpq hl hlen)
   obtain⟨pq,pn,pcap,rfl⟩:∃ p n c,u11=Value.slice p n c:=by
    obtain⟨_,h2⟩:=HK.out.outer
    rcases h2 with ⟨h2,_⟩ | ⟨g,cap,_,h2,_⟩
    ·exact⟨_,_,_,h2⟩
    ·exact⟨_,_,_,h2⟩
   have hml:=Za8 l
   have HB0:Below wr.heap.size wr (wr.alloc (.cells #[] 3)):=(ZoL wr.heap.size wr).alloc ZpA _
   have HC1:∀ j u,(ints l)[j]?=some u->(wr.alloc (.cells #[] 3)).cell? ((⟨rb,ro,none⟩:Addr).add j)=some u:=fun j u hu=>by
    have hj:j<l.length:=by
     have:=(Zo9.1 hu).1
     simpa[Za8] using this
    rw[Zcy hj] at hu
    have h9:=e4 j hj
    unfold IntR at h9
    rw[Zpn] at h9
    rw[Addr.add_lit,<- hu,HB0.cell (p:=⟨rb,ro+j,none⟩) e3,h9]
    simp[List.getD,hj]
   have d1':=(HB0.cell (p:=⟨b0,o0+k*1,none⟩) hb0).trans d1
   rw[Zpn] at d1'
   have hwm:m+1<=wr.heap.size:=by rw[hm];exact HB.out.size
   obtain⟨q0,hq0⟩:=ZpB wr.heap.size
   have HQ0:=Zpz hq0
   have i0':(0:Int)<=(k:Int):=Za
   have i1':(k:Int)<(T:Int):=Za
   clear hat hb0 d2 e4 hl hkl z2 z3 hq0 d1
   go_wp2_with (first | (at_builtin;refine wpList_append_lies _ rfl (.tmp 35) (.tmp 39) 23 rfl (m+1) 3 i1 (.int .i64 0) 1 8 Tryz.underlying23 hi' hz0' hz1' hz2' rfl Zd _ 0 [] rfl (World.ownsRow_lit wr #[] 0 hwm (by simp[maxLen]) rfl) ⟨rb,ro,none⟩ N rc (ints l) rfl (by rw[hml,hlen,Zpn]) HC1 (Zdm _) Za (by unfold maxLen;omega) Za (by simp;omega) (wr.heap.size+1) Zc ?_;intro g cap' V2 hown1 hgrow1 hat1 hlt1;rw[Nat.zero_add,Zps] at hown1;obtain⟨V3,hV3⟩:=ZpB (V2.alloc (.cells #[.slice (some ⟨g,0,none⟩) N cap'] 23));have hfacts:CopyF p N m T k wr V2 V3 q0 g cap' pq pn pcap gq gc l:=(by subst hV3;exact Znu HK.out HQ0.out hgrow1 hat1 hown1 hlt1 hwm);obtain⟨hown2,hnews,hb3,hrow3,hp3,hgo,hgp,hm3,hg3⟩:=hfacts) | (at_builtin;refine wpList_append_lies _ rfl (.tmp 34) (.tmp 41) 29 rfl (m+1) 23 i0 (.slice none 0 0) 1 24 Tryz.underlying29 hi hz0 hz1 hz2 rfl Zd (.slice pq pn pcap) _ _ rfl hown2 ⟨V2.heap.size,0,none⟩ 1 1 [.slice (some ⟨g,0,none⟩) N cap'] rfl rfl hnews (by simp[Value.oneCell']) Zd (by rw[HKL.out];unfold maxLen;omega) (by rw[HKL.out];omega) hm3 V3.heap.size rfl ?_;intro g2 cap2 V4 hown4 hgrow4 hor4 hlt4))
   have hsn:=hp3.snoc hrow3 hg3 hgo hgp Za hown4 hgrow4 (by
    rcases hor4 with h | h
    ·exact .inl (by rw[h];rfl)
    ·exact .inr ⟨g2,rfl,Za⟩)
   have hb4:Below w2.heap.size w2 V4:=(HB.out.trans (hb3.mono HB.out.size)).grown hgrow4 Za (fun x hx=>by have:=(ZoZ hp3.outer x hx).1;omega)
   have e9:p.take k++[l]=p.take (k+1):=by
    rw[List.take_add_one,Zo6 hkp,HLL.out.1]
    rfl
   rw[e9] at hsn
   have hmin:min k p.length=(p.take k).length:=by rw[Zpr]
   rw[hmin]
   refine⟨⟨k+1,_,_,by go_num,Za,hsn,hb4⟩,?_⟩
   simp[intOf]
   omega
  ·obtain rfl:k=T:=Za
   have e:p.take k=p:=by rw[<- HTT.out,List.take_length]
   rw[e] at HK
   have HP1:Hid (PlK m p N u11 wr):=PlK.ofO HK.out (by rw[HTT.out];omega) ZpA
   have HK1:Hid (Keeps (NotM m) w2 wr/\wr.heap[m]?=some (smO 0)):=⟨HB.out.keepsS _,(HB.out.block m Za).trans HS.out.sm⟩
   clear HK HB e HIP
   go_wp2_with fail
   go_loopw [11,13] (fun qv rv wv=>∃ (r:Nat) (q:List (List Int)),rv=.int .i64 r/\r<=Rn/\Hid (ZcM t p r q)/\Hid (PlanOk t q)/\Hid (PlK m q N qv wv)/\Hid (Keeps (NotM m) w2 wv/\wv.heap[m]?=some (smO 0))) (fun _ rv _=>Rn-(intOf rv).toNat)
   case atStart=>exact⟨0,p,rfl,ZoY _,ZcM.start t p,HOK,HP1,HK1⟩
   case round=>
    obtain⟨r,q,rfl,hr,HIT,HOQ,HPQ,HKQ⟩:=hrel
    clear HP1 HK1
    have g0:=(HS.out.keep _ HKQ.out.1).2 _ _ HEF.out
    have HBQ:Zpt w wr:=(HS.out.keep _ HKQ.out.1).1
    by_cases hlt:r<Rn
    ·have e0:=Zn g0 0 (v:=.slice ps N cs) rfl
     have e1:=Zn g0 1 (v:=.slice ph nh ch) rfl
     have e2:=Zn g0 2 (v:=.slice pr nr cr) rfl
     have HLT:=Zpz hlt
     have HNS:Hid (t.sites.length=N):=HNN.out
     go_wp2_with fail
     refine(ZlJ (HS.out.task.keep HKQ.out.1) (by rw[HNS.out];exact HPQ.out) HKQ.out.2 HOQ.out (fun q hq=>ZgE hq.task hq.inn (HSM.out hq.task).1 (HSM.out hq.task).2)).mono ?_
     rintro e w5 ⟨z,pv',rfl,hM,hPV,hk5⟩
     have HM:=Zpz hM
     have HPV:=Zpz hPV
     have HK5:=Zpz hk5
     have s0:=Zn hk5.2 0 (v:=.int .i64 0) rfl
     clear hM hPV hk5 g0 e0 e1 e2
     cases z with
     | none=>
      have HR:=Zpz (HIT.out.rest HM.out HLT.out)
      have hiil:=(HPQ.out.keep HK5.out.1).iil _ (Keeps.refl _ _)
      have HBE:Zpt w w5:=(HS.out.keep _ (HKQ.out.1.trans HK5.out.1)).1
      have HIQ:=Zpz hiil
      clear hiil
      go_wp2
      exact ZoM (v:=.tuple #[u11,.int .i64 r,.int .i64 0]) (by simp[results,Tryz.f40,go_sem]) rfl ⟨.inr ⟨⟨HOK.out,Za,by have:=HRR.out;omega⟩,q,r,_,HR.out,HOQ.out,HIQ.out,rfl⟩,HBE.out⟩
     | some q'=>
      have HIT2:=Zpz (HIT.out.step HM.out)
      have HOQ2:=Zpz (HM.out.plan HOQ.out).1
      have HPQ2:Hid (PlK m q' N pv' w5):=by
       have:=HPV.out q' rfl
       rw[HNS.out] at this
       exact this
      have HKQ2:Hid (Keeps (NotM m) w2 w5/\w5.heap[m]?=some (smO 0)):=⟨HKQ.out.1.trans HK5.out.1,HK5.out.2⟩
      go_wp2
      go_roundw
      case rel=>exact⟨r+1,q',by go_num,Za,HIT2,HOQ2,HPQ2,HKQ2⟩
      case measure=>exact Zj
    ·obtain rfl:r=Rn:=Za
     have HR:=Zpz HIT.out.stop
     have hiil:=HPQ.out.iil _ (Keeps.refl _ _)
     have HIQ:=Zpz hiil
     clear hiil g0
     go_wp2
     exact ZoM (v:=.tuple #[u11,.int .i64 r,.int .i64 0]) (by simp[results,Tryz.f40,go_sem]) rfl ⟨.inr ⟨⟨HOK.out,Za,by have:=HRR.out;omega⟩,q,r,_,HR.out,HOQ.out,HIQ.out,rfl⟩,HBQ.out⟩
end Go.Proofs.YtmpaflidennnoaaGreatDoor
