/- The parts EMoves, EImprove of a proof, put together by program (merge7.py). -/
import Derived.Test.YtmpaflidennnoaaGreatDoorH01
import Derived.Test.YtmpaflidennnoaaGreatDoorH26
import Derived.Test.YtmpaflidennnoaaGreatDoorK001
set_option maxRecDepth 100000
set_option maxHeartbeats 8000000
set_option linter.unusedVariables false
set_option linter.unusedSimpArgs false
namespace Go.Proofs.YtmpaflidennnoaaGreatDoor
open Go.RowKit Go.Shelf
attribute [local go_sem ↓] Go.wp_at_zero Go.wp_at_succ
attribute [local go_sem] Oper.semAt_some
abbrev mvV (a b c:Int):Value:=.agg #[.int .i64 a,.int .i64 b,.int .i64 c]
abbrev mvO (a b c:Int):Obj:=.cells #[.int .i64 a,.int .i64 b,.int .i64 c] 184
def ZaX (t:TaskP) (p:List (List Int)):List Nat:=pick (mvB t p) (mvN t)
def mvJ (t:TaskP) (p:List (List Int)) (k:Nat):Nat:=(ZaX t p).getD k 0
abbrev mvAt (t:TaskP) (p:List (List Int)) (k:Nat):Value:=mvV (mvU t (mvJ t p k):Nat) (mvI t (mvJ t p k):Nat) (mvK t (mvJ t p k):Nat)
structure MoveF (t:TaskP) (p:List (List Int)) (T N Bs b rb ro rk pb po pc:Nat) (gq gp gc rq rp rc:Nat→Nat) (w:World):Prop where
 box:w.cell? ⟨Bs,0,none⟩=some (.pointer (some ⟨b,0,none⟩))
 w2:w.cell? ⟨b,2,none⟩=some (.slice (some ⟨rb,ro,none⟩) T rk)
 w3:w.cell? ⟨b,3,none⟩=some (.slice (some ⟨pb,po,none⟩) T pc)
 rate:∀ u,u<T→w.cell? ⟨rb,ro+u,none⟩=some (.slice (some ⟨rq u,rp u,none⟩) N (rc u))∧N≤rc u∧rc u≤9223372036854775807∧∀ i,i<N→w.cell? ⟨rq u,rp u+i*2,none⟩=some (.string (eR t u i).1)∧w.cell? ⟨rq u,rp u+i*2+1,none⟩=some (.string (eR t u i).2)
 plan:∀ u,u<T→w.cell? ⟨pb,po+u,none⟩=some (.slice (some ⟨gq u,gp u,none⟩) N (gc u))∧N≤gc u∧gc u≤9223372036854775807∧∀ i,i<N→w.cell? ⟨gq u,gp u+i,none⟩=some (.int .i64 (pN p u i))
 eff:EffZ w
theorem Zk2 (b:Nat) (w:World):Calls Tryz.prog 146 #[.pointer (some ⟨b,0,none⟩)] w (fun e w'=>e=.returned (.func (.func 192) #[] #[.pointer (some ⟨w.heap.size,0,none⟩)])∧w'=w.alloc (wkO b)):=by
 have hmf:∀ (fn:Fn) (first cap:Array Value) (w:World),(Instr.makeFunc fn first cap).run Tryz.prog w=.ok (.func fn first cap) w:=fun _ _ _ _=>rfl
 go_enter Tryz.func146,Tryz.ntmps146
 go_wp2
 exact bodyPost_ret (by simp[results,Tryz.f146,go_sem]) rfl ⟨rfl,rfl⟩
theorem ZjS {t:TaskP} {p:List (List Int)} {T N Bs b rb ro rk pb po pc:Nat} {gq gp gc rq rp rc:Nat→Nat} {S:Nat→Prop} {w0:World} (hT:t.hours.length=T) (hN:t.sites.length=N) (hTr:t.rates.length=T) (hN24:1≤N∧N≤24) (hT8:T≤8) (hrk:T≤rk∧rk≤9223372036854775807) (hpc:T≤pc∧pc≤9223372036854775807)
  (hF:∀ V,Keeps S w0 V→MoveF t p T N Bs b rb ro rk pb po pc gq gp gc rq rp rc V) (ok:TaskOk t) :
  Iter Tryz.prog 192 #[.pointer (some ⟨Bs,0,none⟩)] (fun k=>#[mvAt t p k]) (ZaX t p).length S (fun _=>True) w0:=by
 intro n l J Jx W hK hJ hJx hY h0
 have HFF:Hid (∀ V,Keeps S W V→MoveF t p T N Bs b rb ro rk pb po pc gq gp gc rq rp rc V):=fun V hV=>hF V (hK.trans hV)
 have HY:=Lib.hid hY
 have HJ:=Lib.hid hJ
 have HOK:=Lib.hid ok
 have HTL:=Lib.hid hT
 have HNL:=Lib.hid hN
 have HTR:=Lib.hid hTr
 clear hF hY hJ hK
 have F0:=HFF.out W (Keeps.refl _ _)
 have a0:=F0.box
 have a1:=F0.w3
 obtain⟨hN1,hN2⟩:=hN24
 clear F0 hT hN hTr ok
 refine callsIn_of_wp Tryz.func192 rfl trivial ?_ rfl
 simp only[Tryz.ntmps192,List.size_toArray,List.length_cons,List.length_nil,Nat.reduceAdd,Nat.reduceSub,Array.replicate_succ,Array.replicate_zero,List.push_toArray,List.append_toArray,List.nil_append,List.cons_append]
 gi_wp2
 clear a0 a1
 gi_loopw [12] (fun iv wr=>∃ u:Nat,iv=.int .i64 u∧u≤T∧J (pick (mvB t p) (u*N*N)).length wr∧Hid (Keeps S W wr)) (fun iv _=>T-(intOf iv).toNat)
 case atStart=>exact⟨0,rfl,Nat.zero_le _,by rw[Nat.zero_mul,Nat.zero_mul];exact h0,Keeps.refl _ _⟩
 case round=>
  obtain⟨u,rfl,hu,hJs,HN⟩:=hrel
  by_cases hlt:u<T
  ·obtain⟨b0,b1,b2,b3⟩:=(HFF.out wr HN.out).plan u hlt
   obtain⟨r0,r1,r2,r3⟩:=(HFF.out wr HN.out).rate u hlt
   have HR:Hid (∀ V,Keeps S W V→(V.cell? ⟨pb,po+u,none⟩=some (.slice (some ⟨gq u,gp u,none⟩) N (gc u))∧∀ i,i<N→V.cell? ⟨gq u,gp u+i,none⟩=some (.int .i64 (pN p u i)))∧
     V.cell? ⟨Bs,0,none⟩=some (.pointer (some ⟨b,0,none⟩))∧V.cell? ⟨b,2,none⟩=some (.slice (some ⟨rb,ro,none⟩) T rk)∧V.cell? ⟨rb,ro+u,none⟩=some (.slice (some ⟨rq u,rp u,none⟩) N (rc u))∧
     (∀ i,i<N→V.cell? ⟨rq u,rp u+i*2,none⟩=some (.string (eR t u i).1)∧V.cell? ⟨rq u,rp u+i*2+1,none⟩=some (.string (eR t u i).2))∧EffZ V):=fun V hV=>by
    have F:=HFF.out V hV
    obtain⟨c0,_,_,c1⟩:=F.plan u hlt
    obtain⟨d0,_,_,d1⟩:=F.rate u hlt
    exact⟨⟨c0,c1⟩,F.box,F.w2,d0,d1,F.eff⟩
   obtain⟨q,hq⟩:∃ z,gq u=z:=⟨_,rfl⟩
   obtain⟨o,ho'⟩:∃ z,gp u=z:=⟨_,rfl⟩
   obtain⟨c,hc'⟩:∃ z,gc u=z:=⟨_,rfl⟩
   obtain⟨rq',hrq⟩:∃ z,rq u=z:=⟨_,rfl⟩
   obtain⟨rp',hrp⟩:∃ z,rp u=z:=⟨_,rfl⟩
   obtain⟨rc',hrc⟩:∃ z,rc u=z:=⟨_,rfl⟩
   rw[hq,ho',hc'] at b0 HR
   rw[hrq,hrp,hrc] at HR
   rw[hc'] at b1 b2
   rw[hrc] at r1 r2
   have i0':(0:Int)≤(u:Int):=by omega
   have i1':(u:Int)<(T:Int):=by omega
   clear b3 hq ho' hc' hrq hrp hrc r0 r3
   gi_wp2_with fail
   clear b0
   gi_loopw [19] (fun vi wv=>∃ i:Nat,vi=.int .i64 i∧i≤N∧J (pick (mvB t p) ((u*N+i)*N)).length wv∧Hid (Keeps S W wv)) (fun vi _=>N-(intOf vi).toNat)
   case atStart=>exact⟨0,rfl,Nat.zero_le _,by rw[Nat.add_zero];exact hJs,HN⟩
   case round=>
    clear hJs HN
    obtain⟨i,rfl,hi,hJs,HN⟩:=hrel
    by_cases hlt2:i<N
    ·gi_wp2_with fail
     gi_loopw [24] (fun vi wv=>∃ k:Nat,vi=.int .i64 k∧k≤N∧J (pick (mvB t p) ((u*N+i)*N+k)).length wv∧Hid (Keeps S W wv)) (fun vi _=>N-(intOf vi).toNat)
     case atStart=>exact⟨0,rfl,Nat.zero_le _,hJs,HN⟩
     case round=>
      clear hJs HN
      obtain⟨k,rfl,hk,hJs,HN⟩:=hrel
      by_cases hlt3:k<N
      ·have hj:mvU t ((u*N+i)*N+k)=u∧mvI t ((u*N+i)*N+k)=i∧mvK t ((u*N+i)*N+k)=k:=by
        unfold mvU mvI mvK
        rw[HNL.out]
        have h0:0<N:=by omega
        have e1:((u*N+i)*N+k)/N=u*N+i:=by
         rw[Nat.mul_comm,Nat.mul_add_div h0,Nat.div_eq_of_lt hlt3,Nat.add_zero]
        rw[e1]
        refine⟨?_,?_,?_⟩
        ·rw[Nat.mul_comm,Nat.mul_add_div h0,Nat.div_eq_of_lt hlt2,Nat.add_zero]
        ·rw[Nat.mul_comm,Nat.mul_add_mod,Nat.mod_eq_of_lt hlt2]
        ·rw[Nat.mul_comm,Nat.mul_add_mod,Nat.mod_eq_of_lt hlt3]
       have HJJ:=Lib.hid hj
       obtain⟨j,hjj⟩:∃ j,(u*N+i)*N+k=j:=⟨_,rfl⟩
       have HJE:=Lib.hid hjj
       rw[hjj] at hJs hj HJJ
       have hmb:mvB t p j=(decide (0<pN p u i) && (decide (i≠k) && decide (rR t u k≠0))):=by
        unfold mvB
        rw[hj.1,hj.2.1,hj.2.2]
       have hrz:=ZeH HOK.out (u:=u) (i:=k) (by rw[HTR.out];exact hlt) (by rw[HNL.out];exact hlt3)
       have HC:Hid (∀ V,Keeps S W V→V.cell? ⟨q,o+i,none⟩=some (.int .i64 (pN p u i))∧V.cell? ⟨Bs,0,none⟩=some (.pointer (some ⟨b,0,none⟩))∧V.cell? ⟨b,2,none⟩=some (.slice (some ⟨rb,ro,none⟩) T rk)∧V.cell? ⟨rb,ro+u,none⟩=some (.slice (some ⟨rq',rp',none⟩) N rc')∧
         V.cell? ⟨rq',rp'+k*2,none⟩=some (.string (eR t u k).1)∧V.cell? ⟨rq',rp'+k*2+1,none⟩=some (.string (eR t u k).2)∧EffZ V):=fun V hV=>by
        obtain⟨⟨_,c1⟩,c2,c3,c4,c5,c6⟩:=HR.out V hV
        exact⟨c1 i hlt2,c2,c3,c4,(c5 k hlt3).1,(c5 k hlt3).2,c6⟩
       obtain⟨x,hx⟩:∃ z,pN p u i=z:=⟨_,rfl⟩
       obtain⟨⟨r1',r2'⟩,hrr⟩:∃ z,eR t u k=z:=⟨_,rfl⟩
       rw[hx] at HC hmb
       rw[hrr] at HC hrz
       dsimp only at HC hrz
       have HMB:=Lib.hid hmb
       have HRZ:=Lib.hid hrz
       have j0':(0:Int)≤(i:Int):=by omega
       have j1':(i:Int)<(N:Int):=by omega
       have k0':(0:Int)≤(k:Int):=by omega
       have k1':(k:Int)<(N:Int):=by omega
       clear hj hmb hrz hx hrr hjj
       gi_wp2_with fail
       by_cases hx0:0<x
       ·by_cases hik:i=k
        ·have hno:mvB t p j=false:=by rw[HMB.out];simp[hik]
         have hikb:((i:Int) !=(k:Int))=false:=by rw[hik];simp
         clear hik
         refine Zdx [(1,0),(1,1),(1,2),(1,3),(1,4),(1,5),(1,6),(1,7),(1,8),(1,9),(1,10),(1,11),(1,12),(1,13),(1,14),(1,15),(1,16),(1,17),(1,18),(1,19),(1,20),(1,21),(1,22),(1,23),(1,24),(1,25),(1,26),(1,27),(1,28),(1,29),(1,30),(0,31),(0,32),(0,33)] (Keeps S W) (fun i=>i==31 || i==32 || i==33) rfl (fun _=>trivial)
          (by kernel_rfl) (by kernel_rfl) (fun j hj=>by have h:34≤j:=hj;simp;omega) (fun _ _ o _ _ h=>by cases o<;>exact h) HN.out.drew ?_
         iterate 11
          refine ZaZ _ rfl rfl (fun w' hS=>by obtain⟨c1,c2,c3,c4,c5,c6,z⟩:=HC.out _ hS;have z0:=z.z0;have z1:=z.z1;go_simp;rfl) (fun _=>rfl) ?_
          simp only[Znc,Znd,Zne,Act.put,Znf,Zng,Znh]
         iterate 13
          refine Zbp rfl rfl (fun _=>rfl) ?_
          simp only[Znc,Znd,Zne,Act.put,Znf,Zng,Znh]
         iterate 2
          refine ZaZ _ rfl rfl (fun w' hS=>by obtain⟨c1,c2,c3,c4,c5,c6,z⟩:=HC.out _ hS;have z0:=z.z0;have z1:=z.z1;go_simp;rfl) (fun _=>rfl) ?_
          simp only[Znc,Znd,Zne,Act.put,Znf,Zng,Znh]
         iterate 5
          refine Zbp rfl rfl (fun _=>rfl) ?_
          simp only[Znc,Znd,Zne,Act.put,Znf,Zng,Znh]
         iterate 2
          refine Zdi rfl rfl (.inl rfl) ?_
          simp only[Znc,Znd,Zne,Act.put,Znf,Zng,Znh]
         refine Zaz rfl rfl fun K hK=>?_
         go_simp
         refine hK _ _ (.inl rfl) ?_
         clear hK K
         refine Zcj ?_
         have hJ3:=HJ.out _ _ _ hJs (Keeps.refl _ wr).drew
         have HN3:Hid (Keeps S W wr.drew):=HN.out.drew
         rw[show (pick (mvB t p) j).length=(pick (mvB t p) ((u*N+i)*N+(k+1))).length by rw[← Nat.add_assoc,HJE.out,ZdP hno]] at hJ3
         gi_wp2
         go_roundw
         case rel=>exact⟨k+1,by go_num,by omega,hJ3,HN3⟩
         case measure=>simp[intOf];omega
        ·have hikb:((i:Int) !=(k:Int))=true:=by rw[bne_iff_ne];omega
         rcases HRZ.out with ⟨hz1,hz2⟩ | ⟨hz1,hz2⟩
         ·have hno:mvB t p j=false:=by rw[HMB.out];simp[hz2]
          injection hz1 with e1 e2
          subst e1 e2
          clear hz2 hik
          refine Zdx [(1,0),(1,1),(1,2),(1,3),(1,4),(1,5),(1,6),(1,7),(1,8),(1,9),(1,10),(1,11),(1,12),(1,13),(1,14),(1,15),(1,16),(1,17),(1,18),(1,19),(1,20),(1,21),(1,22),(1,23),(1,24),(1,25),(1,26),(1,27),(1,28),(1,29),(1,30),(0,31),(0,32),(0,33)] (Keeps S W) (fun i=>i==31 || i==32 || i==33) rfl (fun _=>trivial)
           (by kernel_rfl) (by kernel_rfl) (fun j hj=>by have h:34≤j:=hj;simp;omega) (fun _ _ o _ _ h=>by cases o<;>exact h) HN.out.drew ?_
          iterate 26
           refine ZaZ _ rfl rfl (fun w' hS=>by obtain⟨c1,c2,c3,c4,c5,c6,z⟩:=HC.out _ hS;have z0:=z.z0;have z1:=z.z1;go_simp;rfl) (fun _=>rfl) ?_
           simp only[Znc,Znd,Zne,Act.put,Znf,Zng,Znh]
          iterate 5
           refine Zbp rfl rfl (fun _=>rfl) ?_
           simp only[Znc,Znd,Zne,Act.put,Znf,Zng,Znh]
          iterate 2
           refine Zdi rfl rfl (.inl rfl) ?_
           simp only[Znc,Znd,Zne,Act.put,Znf,Zng,Znh]
          refine Zaz rfl rfl fun K hK=>?_
          go_simp
          refine hK _ _ (.inl rfl) ?_
          clear hK K
          refine Zcj ?_
          have hJ3:=HJ.out _ _ _ hJs (Keeps.refl _ wr).drew
          have HN3:Hid (Keeps S W wr.drew):=HN.out.drew
          rw[show (pick (mvB t p) j).length=(pick (mvB t p) ((u*N+i)*N+(k+1))).length by rw[← Nat.add_assoc,HJE.out,ZdP hno]] at hJ3
          gi_wp2
          go_roundw
          case rel=>exact⟨k+1,by go_num,by omega,hJ3,HN3⟩
          case measure=>simp[intOf];omega
         ·have hyes:mvB t p j=true:=by rw[HMB.out];simp[hx0,hik,hz2]
          have hzt:=ZeJ hz1
          have hlt4:j<mvN t:=by
           rw[← HJE.out]
           unfold mvN
           rw[HTL.out,HNL.out]
           have h1:u*N+i+1≤T*N:=by
            have h2:(u+1)*N≤T*N:=Nat.mul_le_mul_right N hlt
            rw[Nat.add_mul,Nat.one_mul] at h2
            omega
           have h3:=Nat.mul_le_mul_right N h1
           rw[Nat.add_mul,Nat.one_mul] at h3
           omega
          obtain⟨hkl,hat⟩:=Zde hlt4 hyes
          have hy:=HY.out _ _ hkl (HJ.out _ _ _ hJs (Keeps.refl _ wr).drew)
          unfold mvAt mvJ ZaX at hy
          rw[hat,HJJ.out.1,HJJ.out.2.1,HJJ.out.2.2] at hy
          obtain⟨fn,tmps,assign,body,hy,hRR⟩:=hy
          have HPY:Hid ((pick (mvB t p) ((u*N+i)*N+(k+1))).length=(pick (mvB t p) j).length+1):=by
           show _=_
           rw[← Nat.add_assoc,HJE.out,Zea hyes]
           simp
          have HKK:=Lib.hid hkl
          clear hyes hlt4 hat hJs hkl hz1 hz2 hik
          refine Zdx [(1,0),(1,1),(1,2),(1,3),(1,4),(1,5),(1,6),(1,7),(1,8),(1,9),(1,10),(1,11),(1,12),(1,13),(1,14),(1,15),(1,16),(1,17),(1,18),(1,19),(1,20),(1,21),(1,22),(1,23),(1,24),(1,25),(1,26),(1,27),(1,28),(1,29),(1,30),(0,31),(0,32),(0,33)] (Keeps S W) (fun i=>i==31 || i==32 || i==33) rfl (fun _=>trivial)
           (by kernel_rfl) (by kernel_rfl) (fun j hj=>by have h:34≤j:=hj;simp;omega) (fun _ _ o _ _ h=>by cases o<;>exact h) HN.out.drew ?_
          iterate 31
           refine ZaZ _ rfl rfl (fun w' hS=>by obtain⟨c1,c2,c3,c4,c5,c6,z⟩:=HC.out _ hS;have z0:=z.z0;have z1:=z.z1;go_simp;rfl) (fun _=>rfl) ?_
           simp only[Znc,Znd,Zne,Act.put,Znf,Zng,Znh]
          refine Zaz rfl rfl fun K hK=>?_
          go_simp
          refine⟨(fun h=>by cases h),hRR.mono ?_⟩
          rintro e W3 (⟨rfl,hJ3,hk3⟩ | ⟨rfl,hJx3⟩)
          ·have HN3:=Lib.hid (HN.out.drew.trans hk3)
           rw[← HPY.out] at hJ3
           clear hk3 hy hRR
           refine hK _ _ (.inl rfl) ?_
           clear hK K
           refine Zaz rfl rfl fun K hK=>?_
           go_simp
           refine hK _ _ (.inl rfl) ?_
           clear hK K
           refine Zaz rfl rfl fun K hK=>?_
           go_simp
           refine hK _ _ (.inl rfl) ?_
           clear hK K
           refine Zcj ?_
           gi_wp2
           go_roundw
           case rel=>exact⟨k+1,by go_num,by omega,hJ3,HN3⟩
           case measure=>simp[intOf];omega
          ·clear hy hRR
           refine hK _ _ (.inl rfl) ?_
           clear hK K
           refine Zaz rfl rfl fun K hK=>?_
           go_simp
           refine hK _ _ (.inl rfl) ?_
           clear hK K
           refine Zaz rfl rfl fun K hK=>?_
           go_simp
           refine hK _ _ (.inl rfl) ?_
           clear hK K
           refine Zcj ?_
           gi_wp2
           refine bodyPost_ret (results_none rfl _ _ _) rfl ?_
           exact⟨⟨_,rfl⟩,.inr ⟨_,HKK.out,hJx3⟩⟩
       ·have hno:mvB t p j=false:=by rw[HMB.out];simp[hx0]
        refine Zdx [(1,0),(1,1),(1,2),(1,3),(1,4),(1,5),(1,6),(1,7),(1,8),(1,9),(1,10),(1,11),(1,12),(1,13),(1,14),(1,15),(1,16),(1,17),(1,18),(1,19),(1,20),(1,21),(1,22),(1,23),(1,24),(1,25),(1,26),(1,27),(1,28),(1,29),(1,30),(0,31),(0,32),(0,33)] (Keeps S W) (fun i=>i==31 || i==32 || i==33) rfl (fun _=>trivial)
         (by kernel_rfl) (by kernel_rfl) (fun j hj=>by have h:34≤j:=hj;simp;omega) (fun _ _ o _ _ h=>by cases o<;>exact h) HN.out.drew ?_
        iterate 6
         refine ZaZ _ rfl rfl (fun w' hS=>by obtain⟨c1,c2,c3,c4,c5,c6,z⟩:=HC.out _ hS;have z0:=z.z0;have z1:=z.z1;go_simp;rfl) (fun _=>rfl) ?_
         simp only[Znc,Znd,Zne,Act.put,Znf,Zng,Znh]
        iterate 3
         refine Zbp rfl rfl (fun _=>rfl) ?_
         simp only[Znc,Znd,Zne,Act.put,Znf,Zng,Znh]
        iterate 2
         refine ZaZ _ rfl rfl (fun w' hS=>by obtain⟨c1,c2,c3,c4,c5,c6,z⟩:=HC.out _ hS;have z0:=z.z0;have z1:=z.z1;go_simp;rfl) (fun _=>rfl) ?_
         simp only[Znc,Znd,Zne,Act.put,Znf,Zng,Znh]
        iterate 13
         refine Zbp rfl rfl (fun _=>rfl) ?_
         simp only[Znc,Znd,Zne,Act.put,Znf,Zng,Znh]
        iterate 2
         refine ZaZ _ rfl rfl (fun w' hS=>by obtain⟨c1,c2,c3,c4,c5,c6,z⟩:=HC.out _ hS;have z0:=z.z0;have z1:=z.z1;go_simp;rfl) (fun _=>rfl) ?_
         simp only[Znc,Znd,Zne,Act.put,Znf,Zng,Znh]
        iterate 5
         refine Zbp rfl rfl (fun _=>rfl) ?_
         simp only[Znc,Znd,Zne,Act.put,Znf,Zng,Znh]
        iterate 2
         refine Zdi rfl rfl (.inl rfl) ?_
         simp only[Znc,Znd,Zne,Act.put,Znf,Zng,Znh]
        refine Zaz rfl rfl fun K hK=>?_
        go_simp
        refine hK _ _ (.inl rfl) ?_
        clear hK K
        refine Zcj ?_
        have hJ3:=HJ.out _ _ _ hJs (Keeps.refl _ wr).drew
        have HN3:Hid (Keeps S W wr.drew):=HN.out.drew
        rw[show (pick (mvB t p) j).length=(pick (mvB t p) ((u*N+i)*N+(k+1))).length by rw[← Nat.add_assoc,HJE.out,ZdP hno]] at hJ3
        gi_wp2
        go_roundw
        case rel=>exact⟨k+1,by go_num,by omega,hJ3,HN3⟩
        case measure=>simp[intOf];omega
      ·obtain rfl:k=N:=by omega
       have hJ3:=hJs
       rw[show (u*k+i)*k+k=(u*k+(i+1))*k by rw[← Nat.add_assoc,Nat.add_mul (u*k+i) 1,Nat.one_mul]] at hJ3
       clear hJs
       gi_wp2
       go_roundw
       case rel=>exact⟨i+1,by go_num,by omega,hJ3,HN⟩
       case measure=>simp[intOf];omega
    ·obtain rfl:i=N:=by omega
     have hJ3:=hJs
     rw[show (u*i+i)*i=(u+1)*i*i by rw[Nat.add_mul u 1,Nat.one_mul]] at hJ3
     clear hJs
     gi_wp2
     go_roundw
     case rel=>exact⟨u+1,by go_num,by omega,hJ3,HN⟩
     case measure=>simp[intOf];omega
  ·obtain rfl:u=T:=by omega
   have hlen:(pick (mvB t p) (u*N*N)).length=(ZaX t p).length:=by unfold ZaX mvN;rw[HTL.out,HNL.out]
   rw[hlen] at hJs
   gi_wp2
   go_end0
   exact⟨⟨_,rfl⟩,.inl hJs⟩
theorem Zd1 {t:TaskP} {p:List (List Int)} {b m n:Nat} {sv hv rv pv:Value} {gq gc:Nat→Nat} {w:World} (hW:WorkW t b m sv hv rv pv w) (hP:PlanO p t.sites.length m b pv gq gc w) (hm:Memo w m t n) (hn:n≤900000000000) (ok:PlanOk t p) (hfit:ZT (valF t p) t.sites.length) :
  Calls Tryz.prog 60 #[.pointer (some ⟨b,0,none⟩)] w (fun e w'=>∃ x y,e=.returned (pV x y)∧IsP (valR t p) x y∧Keeps (NotM m) w w'∧Memo w' m t (n+24)):=by
 obtain⟨pb,pc,_,hPW⟩:=hP.toW ok.len8.1
 refine(Zgf hW hPW hm hn ok.task ok.inn).mono ?_
 rintro e w' ⟨x,y,k,hE,hS,hk,hM⟩
 rcases hS with ⟨_,h1,rfl⟩ | ⟨h,_⟩
 ·rcases hE with ⟨_,rfl⟩ | ⟨h,_⟩
  ·exact⟨x,y,rfl,h1,hk,hM⟩
  ·exact absurd rfl h
 ·exact absurd hfit h
structure ImpW (t:TaskP) (b m T:Nat) (sv hv rv pv:Value) (gq gc:Nat→Nat) (G H Bs:Nat) (x0 y0:ByteArray) (w:World) (pl:List (List Int)) (n:Nat) (fl:Bool) (W:World):Prop where
 len:pl.length=T
 plan:PlanO pl t.sites.length m b pv gq gc W
 work:WorkW t b m sv hv rv pv W
 memo:Memo W m t n
 b0:W.heap[G]?=some (wkO b)
 b1:W.heap[G+1]?=some (flO fl)
 b2:W.heap[H]?=some (pObj x0 y0)
 b3:W.heap[Bs]?=some (wkO b)
 base:Keeps (NotG m T gq) w W
structure ImpD (b m T:Nat) (pv:Value) (gq:Nat→Nat) (G H Bs D:Nat) (w:World):Prop where
 bD:b<D
 mD:m<D
 gD:∀ u,u<T→gq u<G∧m<gq u∧gq u≠b
 pD:∀ x,pv.ownBlock=some x→x<D
 hs:b<G∧m<G∧G+1<H∧H<Bs∧Bs+1=D∧w.heap.size=G∧b≠m
theorem ImpW.keepD {t:TaskP} {b m T:Nat} {sv hv rv pv:Value} {gq gc:Nat→Nat} {G H Bs D:Nat} {x0 y0:ByteArray} {w:World} {pl:List (List Int)} {n:Nat} {fl:Bool} {W W':World} (h:ImpW t b m T sv hv rv pv gq gc G H Bs x0 y0 w pl n fl W) (d:ImpD b m T pv gq G H Bs D w)
  (hk:Keeps (fun x=>x<D) W W'):ImpW t b m T sv hv rv pv gq gc G H Bs x0 y0 w pl n fl W':=by
 obtain⟨s1,s2,s3,s4,s5,s6,s7⟩:=d.hs
 refine⟨h.len,⟨ZJ h.plan.outer fun g hg=>?_,fun u hu=>ZJ (h.plan.row u hu) fun g hg=>?_,h.plan.inj,h.plan.out⟩,h.work.keepS hk (fun x hx=>by show x<D;omega) d.bD,h.memo.stay (hk.block m h.memo.lt d.mD),hk.at h.b0 (by omega),hk.at h.b1 (by omega),hk.at h.b2 (by omega),hk.at h.b3 (by omega),h.base.via hk fun x hx _=>by show x<D;omega⟩
 ·exact hk.block g (World.ownsRow.lt h.plan.outer g hg).2 (d.pD g hg)
 ·have hg':gq u=g:=by simpa[Value.ownBlock] using hg
  have:=(d.gD u (by rw[← h.len];exact hu)).1
  exact hk.block g (World.ownsRow.lt (h.plan.row u hu) g hg).2 (by show g<D;omega)
theorem PlanO.keepP {p:List (List Int)} {N m b G:Nat} {pv:Value} {gq gc:Nat→Nat} {w w':World} (h:PlanO p N m b pv gq gc w) (h1:∀ u,u<p.length→gq u<G) (h2:∀ x,pv.ownBlock=some x→x<G) (hk:Keeps (fun x=>x<G) w w'):PlanO p N m b pv gq gc w':=by
 refine⟨ZJ h.outer fun g hg=>hk.block g (World.ownsRow.lt h.outer g hg).2 (h2 g hg),fun u hu=>ZJ (h.row u hu) fun g hg=>?_,h.inj,h.out⟩
 have hg':gq u=g:=by simpa[Value.ownBlock] using hg
 exact hk.block g (World.ownsRow.lt (h.row u hu) g hg).2 (by show g<G;have:=h1 u hu;omega)
def ImpN (t:TaskP) (p:List (List Int)) (k:Nat):Prop:=∀ i,i<k→valR t (ZaB t p (mvJ t p i))≤valR t p
def BoxM (t:TaskP) (p:List (List Int)) (B:Nat) (a1:Nat→Nat→Act) (k:Nat) (a':Act) (W:World):Prop:=
 ∃ A,B≤A∧a'=a1 k A∧W.heap[A]?=some (mvO (mvU t (mvJ t p k):Nat) (mvI t (mvJ t p k):Nat) (mvK t (mvJ t p k):Nat))
theorem Ze0 (t:TaskP) (p:List (List Int)):(ZaX t p).length≤mvN t:=Zh6 _ _
theorem ImpN.no {t:TaskP} {p:List (List Int)} (h:ImpN t p (ZaX t p).length):MoveR t p none:=.no fun j hj hm=>by
 obtain⟨h1,h2⟩:=Zde hj hm
 have:=h _ h1
 unfold mvJ ZaX at this
 rw[h2] at this
 exact this
theorem ImpN.yes {t:TaskP} {p:List (List Int)} {k:Nat} (h:ImpN t p k) (hk:k<(ZaX t p).length) (hv:valR t p<valR t (ZaB t p (mvJ t p k))):MoveR t p (some (ZaB t p (mvJ t p k))):=by
 obtain⟨h1,h2⟩:mvJ t p k<mvN t∧mvB t p (mvJ t p k)=true:=Zdz (P:=mvB t p) (n:=mvN t) hk
 refine .yes _ h1 h2 hv fun i hi hm=>?_
 obtain⟨h3,h4⟩:=Zde (Nat.lt_trans hi h1) hm
 have hlt:(pick (mvB t p) i).length<k:=by
  rcases Nat.lt_or_ge (pick (mvB t p) i).length k with h | h
  ·exact h
  ·exfalso
   rcases Nat.lt_or_ge k (pick (mvB t p) i).length with h5 | h5
   ·have:=Zhm h3 h5
    unfold mvJ ZaX at hi
    omega
   ·have e:k=(pick (mvB t p) i).length:=by omega
    unfold mvJ ZaX at hi
    rw[e] at hi
    omega
 have:=h _ hlt
 unfold mvJ ZaX at this
 rw[h4] at this
 exact this
theorem Zbl {w:World} {g i:Nat} {cs:Array Value} {T:TypeId} (h:w.heap[g]?=some (.cells cs T (0,0))):w.cell? ⟨g,i,none⟩=cs[i]?:=by
 unfold World.cell?
 simp only[h]
 rfl
theorem Zks {cs:Array Value} {i k:Nat} {a b x y:Value} (hne:i≠k) (ha:cs[i]?=some a) (hb:cs[k]?=some b):(((cs.setIfInBounds i x).setIfInBounds k y).setIfInBounds i a).setIfInBounds k b=cs:=by
 refine Array.ext_getElem? fun j=>?_
 simp only[Array.getElem?_setIfInBounds,Array.size_setIfInBounds]
 obtain⟨h1,e1⟩:=Array.getElem?_eq_some_iff.1 ha
 obtain⟨h2,e2⟩:=Array.getElem?_eq_some_iff.1 hb
 by_cases e3:k=j
 ·subst e3
  simp[h2,e2]
 ·by_cases e4:i=j
  ·subst e4
   simp[e3,h1,e1]
  ·simp[e3,e4]
def Zmj (t:TaskP) (p:List (List Int)) (b m n T:Nat) (pv:Value) (gq gc:Nat→Nat) (w:World) (e:Ending) (w':World):Prop:=
 ∃ r:Option (List (List Int)),e=.returned (.bool r.isSome)∧MoveR t p r∧PlanO (r.getD p) t.sites.length m b pv gq gc w'∧Memo w' m t (n+200000)∧Keeps (NotG m T gq) w w'
theorem Zjl {t:TaskP} {p:List (List Int)} {b m n T:Nat} {sv hv rv pv:Value} {gq gc:Nat→Nat} {w:World} (hW:WorkW t b m sv hv rv pv w) (hP:PlanO p t.sites.length m b pv gq gc w) (hm:Memo w m t n) (hn:n≤800000000000) (ok:PlanOk t p) (hT:p.length=T)
  (hfit:∀ q,PlanOk t q→ZT (valF t q) t.sites.length) :
  Calls Tryz.prog 92 #[.pointer (some ⟨b,0,none⟩)] w (Zmj t p b m n T pv gq gc w):=by
 have hT8:=ok.len8
 have hTN:=ok.task.sites
 rw[hT] at hT8
 have HTL:=Lib.hid hT
 have HOK:=Lib.hid ok
 have HFIT:=Lib.hid hfit
 have hmf:∀ (fn:Fn) (first cap:Array Value) (w:World),(Instr.makeFunc fn first cap).run Tryz.prog w=.ok (.func fn first cap) w:=fun _ _ _ _=>rfl
 obtain⟨G,hG⟩:∃ g,w.heap.size=g:=⟨_,rfl⟩
 obtain⟨w1,hw1⟩:∃ z,(w.alloc (wkO b)).alloc (flO false)=z:=⟨_,rfl⟩
 have hb1:Below w.heap.size w w1:=by rw[← hw1];exact((Below.refl _ w).alloc (Nat.le_refl _) _).alloc (by simp) _
 have g0:w1.heap[G]?=some (wkO b):=by
  rw[← hw1,← hG]
  exact(Below.heap_alloc _ _ _ (by simp)).trans (World.alloc_heap_new w _)
 have g1:w1.heap[G+1]?=some (flO false):=by
  rw[← hw1,← hG]
  have:=World.alloc_heap_new (w.alloc (wkO b)) (flO false)
  rwa [World.size_alloc] at this
 have hgs:∀ u,u<T→gq u<G∧m<gq u∧gq u≠b:=fun u hu=>⟨by rw[← hG];exact(hP.gt (by rw[hT];exact hu)).2,(hP.gt (by rw[hT];exact hu)).1,(hP.out.2 u (by rw[hT];exact hu)).1⟩
 have hbG:b<G:=by rw[← hG];exact(Array.getElem?_eq_some_iff.1 hW.blk).1
 have hmG:m<G:=by have:=hm.lt;omega
 have hpG:∀ x,pv.ownBlock=some x→x<G:=fun x hx=>by rw[← hG];exact(World.ownsRow.lt hP.outer x hx).2
 have hbm:=hW.ne
 have k1:=hb1.keepsS (NotM m)
 have HV1:=Lib.hid (Zd1 (hW.keep k1) (hP.keep k1) (hm.step hb1) (by omega) ok (hfit p ok))
 have HI1:Hid (PlanO p t.sites.length m b pv gq gc w1∧WorkW t b m sv hv rv pv w1∧w1.heap[G]?=some (wkO b)∧w1.heap[G+1]?=some (flO false)∧Keeps (NotG m T gq) w w1):=⟨hP.keep k1,hW.keep k1,g0,g1,hb1.keepsS _⟩
 have HGS:=Lib.hid (And.intro hgs hpG)
 have a0:=Za g0 0 (v:=.pointer (some ⟨b,0,none⟩)) rfl
 have HGG:=Lib.hid hG
 have hs1:w1.heap.size=G+2:=by rw[← hw1];simp[hG]
 clear hW hP hm ok hT hfit hb1 g0 g1 hgs hpG k1
 refine ZbO Tryz.func92 rfl ?_
 simp only[Tryz.ntmps92,List.size_toArray,List.length_cons,List.length_nil,Nat.reduceAdd,Nat.reduceSub,Array.replicate_succ,Array.replicate_zero,List.push_toArray,List.append_toArray,List.nil_append,List.cons_append]
 go_wp2_with fail
 refine HV1.out.mono ?_
 rintro e w2 ⟨x0,y0,rfl,hx,hk,hM⟩
 obtain⟨H,hH⟩:∃ g,w2.heap.size=g:=⟨_,rfl⟩
 obtain⟨w3,hw3⟩:∃ z,w2.alloc (pObj x0 y0)=z:=⟨_,rfl⟩
 have hb3:Below w2.heap.size w2 w3:=by rw[← hw3];exact(Below.refl _ w2).alloc (Nat.le_refl _) _
 have g3:w3.heap[H]?=some (pObj x0 y0):=by rw[← hw3,← hH];exact World.alloc_heap_new w2 _
 have k3:Keeps (NotM m) w1 w3:=hk.trans (hb3.keepsS _)
 have HX0:=Lib.hid hx
 have hM3:=hM.step hb3
 have hsH:G+2≤H:=by rw[← hH,← hs1];exact hk.size
 have hs3:w3.heap.size=H+1:=by rw[← hw3];simp[hH]
 obtain⟨i1,i2,i3,i4,i5⟩:=HI1.out
 have HI3:Hid (PlanO p t.sites.length m b pv gq gc w3∧WorkW t b m sv hv rv pv w3∧w3.heap[G]?=some (wkO b)∧w3.heap[G+1]?=some (flO false)∧Keeps (NotG m T gq) w w3∧w3.heap[H]?=some (pObj x0 y0)∧Memo w3 m t (n+24)):=
  ⟨i1.keep k3,i2.keep k3,k3.at i3 (by show G≠m;omega),k3.at i4 (by show G+1≠m;omega),i5.trans (k3.mono fun x _ h=>h.1),g3,hM3⟩
 clear hx hk hM hb3 g3 k3 hM3 i1 i2 i3 i4 i5 HI1 HV1 a0
 have a0:=Za HI3.out.2.2.1 0 (v:=.pointer (some ⟨b,0,none⟩)) rfl
 go_wp2_with fail
 try rw[hw3]
 try rw[hH]
 refine(Zk2 b w3).mono ?_
 rintro e w4 ⟨rfl,rfl⟩
 obtain⟨Bs,hBs⟩:∃ g,w3.heap.size=g:=⟨_,rfl⟩
 obtain⟨w5,hw5⟩:∃ z,w3.alloc (wkO b)=z:=⟨_,rfl⟩
 have hb5:Below w3.heap.size w3 w5:=by rw[← hw5];exact(Below.refl _ w3).alloc (Nat.le_refl _) _
 have g5:w5.heap[Bs]?=some (wkO b):=by rw[← hw5,← hBs];exact World.alloc_heap_new w3 _
 obtain⟨i1,i2,i3,i4,i5,i6,i7⟩:=HI3.out
 have k5:=hb5.keepsS (fun _=>True)
 have HI5:Hid (ImpW t b m T sv hv rv pv gq gc G H Bs x0 y0 w p (n+24) false w5):=
  ⟨HTL.out,i1.keep (hb5.keepsS _),i2.keep (hb5.keepsS _),i7.step hb5,k5.at i3 trivial,k5.at i4 trivial,k5.at i6 trivial,g5,i5.trans (hb5.keepsS _)⟩
 obtain⟨D,hD⟩:∃ g,w5.heap.size=g:=⟨_,rfl⟩
 have hDB:Bs+1=D:=by rw[← hD,← hw5];simp[hBs]
 have HD:Hid (ImpD b m T pv gq G H Bs D w):=⟨by omega,by omega,HGS.out.1,fun x hx=>by have:=HGS.out.2 x hx;omega,⟨hbG,hmG,by omega,by omega,hDB,HGG.out,hbm⟩⟩
 rw[hw5,hBs]
 clear hb5 g5 i1 i2 i3 i4 i5 i6 i7 k5 HI3 hw5 hBs hw3 hH hs1 hs3 hw1 a0 hG
 go_wp2_with fail
 refine(wpIn_wide (n:=9)).1 ?_
 refine Zg2 D hD (gf:=192) (lb:=#[.pointer (some ⟨Bs,0,none⟩)]) (f:=fun k=>#[mvAt t p k]) (N:=(ZaX t p).length) (S:=fun x=>x<D∧x≠m) (T:=fun _=>True)
  rfl (enters_of Tryz.func192 (by kernel_rfl) rfl) (fun _=>rfl) ?iter (fun _ h=>h.1) ⟨trivial,trivial⟩
  (fun k W=>ImpN t p k∧ImpW t b m T sv hv rv pv gq gc G H Bs x0 y0 w p (n+24+24*k) false W)
  (fun c k W=>c=.ret∧MoveR t p (some (ZaB t p (mvJ t p k)))∧ImpW t b m T sv hv rv pv gq gc G H Bs x0 y0 w (ZaB t p (mvJ t p k)) (n+24+24*(k+1)) true W) ?ci ?cx ?start
  (BoxM t p (D+2) ?a1) ?cb ?assign ?body ?done ?stop
 case ci=>exact fun k W1 W2 h hk=>⟨h.1,h.2.keepD HD.out (hk.mono fun x _ (hx:x<D)=>⟨trivial,by omega,by omega⟩)⟩
 case cx=>exact fun c k W1 W2 h hk=>⟨h.1,h.2.1,h.2.2.keepD HD.out (hk.mono fun x _ (hx:x<D)=>⟨trivial,by omega,by omega⟩)⟩
 case start=>exact⟨fun i hi=>absurd hi (Nat.not_lt_zero _),HI5.out⟩
 case cb=>
  rintro k a' W1 W2 ⟨A,h1,h2,h3⟩ hk
  exact⟨A,h1,h2,hk.at h3 ⟨by omega,by omega⟩⟩
 case iter=>
  have hTp:=HTL.out
  subst hTp
  obtain⟨sb,so,sc,hb,ho,hc,rb,ro,rk,cv,rq,rp,rc,k1,k2,k3,hA⟩:=HI5.out.work.open HOK.out.task
  obtain⟨pb,pc,hpv,hPW⟩:=HI5.out.plan.toW hT8.1
  have hTH:=HOK.out.teams
  have hTR:=HOK.out.task.rates
  refine ZjS (T:=p.length) (N:=t.sites.length) (b:=b) (rb:=rb) (ro:=ro) (rk:=rk) (pb:=pb) (po:=0) (pc:=pc) (gq:=gq) (gp:=fun _=>0) (gc:=gc) (rq:=rq) (rp:=rp) (rc:=rc) hTH.symm rfl (by rw[hTR];exact hTH.symm) hTN hT8.2 (by rw[hTH,← hTR];exact k3) hPW.cap (fun V hV=>?_) HOK.out.task
  have hk:Keeps (NotM m) w5 V:=hV.mono fun x hx hs=>⟨by rw[← hD];exact hx,hs⟩
  have A:=hA V hk
  have hP':=hPW.keep hk
  exact⟨Za (hk.at HI5.out.b3 (by have:=HD.out.hs;show Bs≠m;omega)) 0 rfl,by rw[hTH,← hTR];exact A.w2,by rw[← hpv];exact A.w3,fun u hu=>A.at'.rate u (by rw[hTR,← hTH];exact hu),fun u hu=>hP'.at' u hu,A.at'.eff⟩
 case assign=>
  intro l k W hk hW
  obtain⟨A,hA⟩:∃ A,W.heap.size=A:=⟨_,rfl⟩
  obtain⟨V,hV⟩:∃ V,W.alloc (mvO (mvU t (mvJ t p k):Nat) (mvI t (mvJ t p k):Nat) (mvK t (mvJ t p k):Nat))=V:=⟨_,rfl⟩
  have h1:V.heap[A]?=some (mvO (mvU t (mvJ t p k):Nat) (mvI t (mvJ t p k):Nat) (mvK t (mvJ t p k):Nat)):=by rw[← hV,← hA];exact World.alloc_heap_new W _
  have hkk:Keeps (fun _=>True) W V:=by rw[← hV];exact(Keeps.refl _ W).alloc _
  gi_wp2
  try simp only[hV,hA]
  refine⟨hkk,A,by omega,?_,h1⟩
  clear hkk h1 hV hA hW
  exact rfl
 case body=>
  have hfn:∀ k,Fence.wide.fn k:=fun _=>trivial
  rintro l k a' W hk ⟨hN,hI⟩ ⟨A,hA,rfl,hA0⟩ hW
  obtain⟨j1,j2⟩:mvJ t p k<mvN t∧mvB t p (mvJ t p k)=true:=Zdz (P:=mvB t p) (n:=mvN t) hk
  have HMV:Hid (PlanOk t (ZaB t p (mvJ t p k))):=HOK.out.moved j1 j2
  obtain⟨j,hj⟩:∃ j,mvJ t p k=j:=⟨_,rfl⟩
  rw[hj] at j1 j2 hA0 HMV
  obtain⟨l1,l2,l3⟩:=ZkH j1
  unfold mvB at j2
  simp only[Bool.and_eq_true,decide_eq_true_eq] at j2
  obtain⟨m1,m2,_⟩:=j2
  have hmvd:ZaB t p j=bump (bump p (mvU t j) (mvI t j) (-1)) (mvU t j) (mvK t j) 1:=rfl
  obtain⟨u,hu⟩:∃ u,mvU t j=u:=⟨_,rfl⟩
  obtain⟨i,hi⟩:∃ u,mvI t j=u:=⟨_,rfl⟩
  obtain⟨q',hq'⟩:∃ u,mvK t j=u:=⟨_,rfl⟩
  rw[hu,hi,hq'] at hmvd hA0
  rw[hu,hi] at m1
  rw[hi,hq'] at m2
  rw[hu] at l1
  rw[hi] at l2
  rw[hq'] at l3
  obtain⟨N,hNN⟩:∃ n,t.sites.length=n:=⟨_,rfl⟩
  have hup:u<p.length:=by rw[HOK.out.teams];exact l1
  obtain⟨pb,pc,hpv,hPW⟩:=hI.plan.toW (by rw[hI.len];exact hT8.1)
  obtain⟨p1,p2,p3,p4⟩:=hPW.at' u hup
  have p5:=p4 i l2
  have p6:=p4 q' l3
  rw[Nat.zero_add] at p1 p5 p6
  obtain⟨cur,hcur⟩:∃ cur,W.heap[gq u]?=some (.cells cur 3 (0,0)):=by
   obtain⟨_,h2⟩:=hI.plan.row u hup
   rcases h2 with ⟨h,_⟩ | ⟨g,_,cur,hv,_,hg,_⟩
   ·cases h
   ·injection hv with e1
    injection e1 with e1
    injection e1 with e1
    rw[e1]
    exact⟨cur,hg⟩
  have hfz:∀ z,W.drew.frozen? ⟨gq u,z,none⟩=false:=fun z=>World.ownsRow.frozenAt (hI.plan.row u hup) z
  have hpn:=(HOK.out.hour u i hup l2).1
  have hpq:=(HOK.out.hour u q' hup l3).1
  have HPN:=Lib.hid (And.intro hu (And.intro hi hq'))
  have hgu:=HD.out.gD u (by rw[← HTL.out];exact hup)
  obtain⟨c,hc⟩:∃ c,pN p u i=c:=⟨_,rfl⟩
  obtain⟨d,hd⟩:∃ c,pN p u q'=c:=⟨_,rfl⟩
  obtain⟨q,hq⟩:∃ q,gq u=q:=⟨_,rfl⟩
  obtain⟨qc,hqc⟩:∃ q,gc u=q:=⟨_,rfl⟩
  obtain⟨L,hL⟩:∃ L,p.length=L:=⟨_,rfl⟩
  have HCD:=Lib.hid (And.intro hc (And.intro hd hq))
  rw[hc] at p5 hpn m1
  rw[hd] at p6 hpq
  rw[hq] at p1 p5 p6 hcur hfz hgu
  rw[hqc,hNN] at p1
  rw[hqc,hNN] at p2
  rw[hqc] at p3
  have hwb:=hI.work.blk
  rw[hpv,hL] at hwb
  have HI:=Lib.hid hI
  have HN:=Lib.hid hN
  have HKK:=Lib.hid hk
  have i0':(0:Int)≤(u:Int):=by omega
  have i1':(u:Int)<(L:Int):=by omega
  have i2':(0:Int)≤(i:Int):=by omega
  have i3':(i:Int)<(N:Int):=by omega
  have i4':(0:Int)≤(q':Int):=by omega
  have i5':(q':Int)<(N:Int):=by omega
  have n1:L≤pc∧pc≤9223372036854775807:=by rw[← hL];exact hPW.cap
  have eW1:IntKind.i64.wrap (c-1)=c-1:=IntWalk.i64_in _ (by omega)
  have eW2:IntKind.i64.wrap (d+1)=d+1:=IntWalk.i64_in _ (by omega)
  have eW3:IntKind.i64.wrap (c-1+1)=c:=by rw[IntWalk.i64_in _ (by omega)];omega
  have eW5:IntKind.i64.wrap c=c:=IntWalk.i64_in _ (by omega)
  have eW6:IntKind.i64.wrap d=d:=IntWalk.i64_in _ (by omega)
  have eW4:IntKind.i64.wrap (d+1-1)=d:=by rw[IntWalk.i64_in _ (by omega)];omega
  clear hI hN hk hPW p4 hu hi hq' hc hd hq hqc hNN hpv
  gi_wp2_with fail
  refine Zab [(true,0),(true,1),(true,2),(true,3),(true,4),(true,5),(true,6),(true,7),(true,8)] (fun V=>V=W.drew) (fun _=>false)
   (by kernel_rfl) (by kernel_rfl) (fun _ _=>rfl) (fun _ _ o _ _ h=>by cases o<;>exact h) (fun _ _ h=>h) rfl ?_
  have b0:W.drew.cell? ⟨G,0,none⟩=some (.pointer (some ⟨b,0,none⟩)):=Za HI.out.b0 0 rfl
  have b1:W.drew.cell? ⟨b,3,none⟩=some (.slice (some ⟨pb,0,none⟩) L pc):=Za hwb 3 rfl
  have b2:W.drew.cell? ⟨A,0,none⟩=some (.int .i64 u):=Za hA0 0 rfl
  have b3:W.drew.cell? ⟨A,1,none⟩=some (.int .i64 i):=Za hA0 1 rfl
  have b4:W.drew.cell? ⟨A,2,none⟩=some (.int .i64 q'):=Za hA0 2 rfl
  have b5:W.drew.cell? ⟨pb,u,none⟩=some (.slice (some ⟨q,0,none⟩) N qc):=p1
  have b6:W.drew.cell? ⟨q,i,none⟩=some (.int .i64 c):=p5
  iterate 9
   refine Zi _ rfl rfl (fun w' hS=>by subst hS;go_simp;rfl) ?_
   simp only[Znc,Znd,Zne,Act.put,Znf,Zng,Znh]
  refine Zt ?_
  obtain⟨W5,hW5⟩:∃ z,(W.setCell ⟨q,i,none⟩ (.int .i64 (c-1))).drew=z:=⟨_,rfl⟩
  have k5:Keeps (fun x=>x≠q) W W5:=by rw[← hW5];exact((Keeps.refl _ W).setCell (p:=⟨q,i,none⟩) (by simp) _).drew
  have q5:W5.heap[q]?=some (.cells (cur.setIfInBounds i (.int .i64 (c-1))) 3 (0,0)):=by rw[← hW5];exact Joins.block_setCell hcur _
  have e5:cur[i]?=some (.int .i64 c):=(Zbl hcur).symm.trans p5
  have e6:cur[q']?=some (.int .i64 d):=(Zbl hcur).symm.trans p6
  have hP5:PlanO (bump p u i (-1)) t.sites.length m b pv gq gc W5:=by
   have h:=HI.out.plan.store hup l2 (-1) (x:=c-1) (by rw[HCD.out.1];omega)
   rw[HCD.out.2.2] at h
   rw[← hW5]
   exact h.keep (Keeps.refl _ _).drew
  obtain⟨s1,s2,s3,s4,s5,s6,s7⟩:=HD.out.hs
  have hAq:A≠q:=by omega
  have c4:W5.cell? ⟨A,2,none⟩=some (.int .i64 q'):=Za (k5.at hA0 hAq) 2 rfl
  have c6:W5.cell? ⟨q,q',none⟩=some (.int .i64 d):=by
   rw[Zbl q5,Array.getElem?_setIfInBounds,if_neg (by omega)]
   exact e6
  have f6:W5.frozen? ⟨q,q',none⟩=false:=by
   have:=World.ownsRow.frozenAt (hP5.row u (by rw[ZV];exact hup)) q'
   rwa [HCD.out.2.2] at this
  obtain⟨W6,hW6⟩:∃ z,W5.setCell ⟨q,q',none⟩ (.int .i64 (d+1))=z:=⟨_,rfl⟩
  have k6:Keeps (fun x=>x≠q) W W6:=by rw[← hW6];exact k5.setCell (p:=⟨q,q',none⟩) (by simp) _
  have q6:W6.heap[q]?=some (.cells ((cur.setIfInBounds i (.int .i64 (c-1))).setIfInBounds q' (.int .i64 (d+1))) 3 (0,0)):=by rw[← hW6];exact Joins.block_setCell q5 _
  have hP6:PlanO (ZaB t p j) t.sites.length m b pv gq gc W6:=by
   have h:=hP5.store (u:=u) (i:=q') (by rw[ZV];exact hup) l3 1 (x:=d+1) (by rw[Zbe (.inr fun e=>m2 e.symm),HCD.out.2.1])
   rw[HCD.out.2.2] at h
   rw[hmvd,← hW6]
   exact h
  have hW6w:=HI.out.work.keepS k6 (fun x hx=>by show x≠q;omega) (fun e=>hgu.2.2 e.symm)
  have hM6:=HI.out.memo.stay (k6.block m HI.out.memo.lt (by show m≠q;omega))
  have HK6:=Lib.hid k6
  have HQ6:=Lib.hid (And.intro q6 (And.intro e5 e6))
  have HS6:=Lib.hid (And.intro hP6 (And.intro hW6w hM6))
  have g6:W6.heap[G]?=some (wkO b):=k6.at HI.out.b0 (by omega)
  have h6:W6.heap[H]?=some (pObj x0 y0):=k6.at HI.out.b2 (by omega)
  clear hP5 hP6 hW6w hM6 q5 q6 e5 e6 k5 k6
  gi_wp2_with fail
  have hbd:Below W6.heap.size W6 W6.drew:=(Below.refl _ W6).drew
  have HVC:=Lib.hid (Zd1 (HS6.out.2.1.keep (hbd.keepsS _)) (HS6.out.1.keep (hbd.keepsS _)) (HS6.out.2.2.step hbd) (by
   have h1:k<(ZaX t p).length:=HKK.out
   have h2:=Ze0 t p
   have h3:mvN t≤8*24*24:=by
    unfold mvN
    exact Nat.mul_le_mul (Nat.mul_le_mul HOK.out.task.teams.2 HOK.out.task.sites.2) HOK.out.task.sites.2
   omega) HMV.out (HFIT.out _ HMV.out))
  refine Zab [(true,0),(true,2),(false,1),(false,3),(true,4)] (fun V=>V.heap[G]?=some (wkO b)∧V.heap[H]?=some (pObj x0 y0)) (fun _=>false)
   (by kernel_rfl) (by kernel_rfl) (fun _ _=>rfl) (fun _ _ o _ _ h=>by cases o<;>exact h) (fun _ _ h=>h) ⟨g6,h6⟩ ?_
  iterate 2
   refine Zi _ rfl rfl (fun w' hS=>by obtain⟨h1,h2⟩:=hS;have a0:=Za h1 0 (v:=.pointer (some ⟨b,0,none⟩)) rfl;have e0:=Za h2 0 (v:=.string x0) rfl;have e1:=Za h2 1 (v:=.string y0) rfl;go_simp;rfl) ?_
   simp only[Znc,Znd,Zne,Act.put,Znf,Zng,Znh]
  refine Ze rfl rfl fun K hK=>?_
  go_simp
  go_at_call 60
  refine HVC.out.mono ?_
  rintro e V2 ⟨x,y,rfl,hx,hk,hM⟩
  have HX:=Lib.hid hx
  have HM:=Lib.hid hM
  have HK:=Lib.hid hk
  have g7:V2.heap[G]?=some (wkO b):=hk.at g6 (by show G≠m;omega)
  have h7:V2.heap[H]?=some (pObj x0 y0):=hk.at h6 (by show H≠m;omega)
  refine hK _ _ (.inr ⟨g7,h7⟩) ?_
  clear hK K hx hM hk HVC b0 b1 b2 b3 b4 b5 b6 c4 c6 f6
  obtain⟨g,hg⟩:∃ g,sgnR (valR t (ZaB t p j)) (valR t p)=g:=⟨_,rfl⟩
  refine Ze rfl rfl fun K hK=>?_
  go_simp
  go_at_call 22
  refine(ZaU HX.out HX0.out hg _).mono ?_
  rintro e V3 ⟨rfl,hb⟩
  have hkk:Keeps (NotM m) W6 V3:=(((Keeps.refl (NotM m) W6).drew.trans HK.out).trans (hb.keepsS _))
  have hM3:=HM.out.step hb
  refine hK _ _ (.inr ⟨hkk.at g6 (by show G≠m;omega),hkk.at h6 (by show H≠m;omega)⟩) ?_
  clear hK K
  have HKK3:=Lib.hid hkk
  have HM3:=Lib.hid hM3
  have hsz3:=hkk.size
  clear hb g7 h7 hkk hM3 HM HK
  iterate 1
   refine Zi _ rfl rfl (fun w' hS=>by go_simp;rfl) ?_
   simp only[Znc,Znd,Zne,Act.put,Znf,Zng,Znh]
  refine Zt ?_
  by_cases hlt:valR t p<valR t (ZaB t p j)
  ·have hge:(0:Int)<g:=by rw[← hg];exact Zcu (Rat.not_le.2 hlt)
   have HLT:=Lib.hid hlt
   clear hlt hg
   have r0:V3.heap[G+1]?=some (flO false):=HKK3.out.at (HK6.out.at HI.out.b1 (by omega)) (by show G+1≠m;omega)
   have d0:=Za r0 0 (v:=.bool false) rfl
   have f0:=Zb r0 0
   obtain⟨V4,hV4⟩:∃ z,V3.setCell ⟨G+1,0,none⟩ (.bool true)=z:=⟨_,rfl⟩
   have k4:Keeps (fun x=>x≠G+1) V3 V4:=by rw[← hV4];exact(Keeps.refl _ V3).setCell (p:=⟨G+1,0,none⟩) (by simp) _
   have r4:V4.heap[G+1]?=some (flO true):=by rw[← hV4];exact Joins.block_setCell r0 _
   gi_wp2
   have hP3:=HS6.out.1.keep HKK3.out
   have hW3:=HS6.out.2.1.keep HKK3.out
   have hkW:Keeps (fun x=>x≠q∧x≠m∧x≠G+1) W V4:=((HK6.out.mono fun x _ hx=>hx.1).trans (HKK3.out.mono fun x _ hx=>hx.2.1)).trans (k4.mono fun x _ hx=>hx.2.2)
   refine⟨hkW.mono fun x _ hx=>⟨by omega,by omega,by omega⟩,rfl,?_,?_⟩
   ·rw[← hj] at HLT
    exact HN.out.yes HKK.out HLT.out
   ·rw[hj]
    refine⟨by rw[Za4];exact HI.out.len,⟨ZJ hP3.outer fun x hx=>k4.block x (World.ownsRow.lt hP3.outer x hx).2 (fun e=>?_),fun v hv=>ZJ (hP3.row v hv) fun x hx=>k4.block x (World.ownsRow.lt (hP3.row v hv) x hx).2 (fun e=>?_),hP3.inj,hP3.out⟩,
     hW3.keepS k4 (fun x hx=>by show x≠G+1;omega) (by omega),(HM3.out.stay (k4.block m HM3.out.lt (by show m≠G+1;omega))).mono (by omega),hkW.at HI.out.b0 ⟨by omega,by omega,by omega⟩,r4,hkW.at HI.out.b2 ⟨by omega,by omega,by omega⟩,hkW.at HI.out.b3 ⟨by omega,by omega,by omega⟩,
     HI.out.base.via hkW fun x hx hs=>⟨fun e=>hs.2 u (by rw[← HTL.out];exact hup) (by rw[HCD.out.2.2];exact e),hs.1,by omega⟩⟩
    ·have:=HGS.out.2 x hx
     omega
    ·have hx':gq v=x:=by simpa[Value.ownBlock] using hx
     have:=(HGS.out.1 v (by rw[← HTL.out,← Za4 (t:=t) (p:=p) j];exact hv)).1
     omega
  ·have hge:¬ (0:Int)<g:=by rw[← hg];exact Zct (Rat.not_lt.1 hlt)
   have HLT:=Lib.hid (Rat.not_lt.1 hlt)
   clear hlt hg
   have q3:V3.heap[q]?=some (.cells ((cur.setIfInBounds i (.int .i64 (c-1))).setIfInBounds q' (.int .i64 (d+1))) 3 (0,0)):=HKK3.out.at HQ6.out.1 (by show q≠m;omega)
   have hA3:V3.heap[A]?=some (mvO u i q'):=HKK3.out.at (HK6.out.at hA0 hAq) (by show A≠m;omega)
   obtain⟨z1,_⟩:=Array.getElem?_eq_some_iff.1 HQ6.out.2.1
   obtain⟨z2,_⟩:=Array.getElem?_eq_some_iff.1 HQ6.out.2.2
   have d0:=Za hA3 1 (v:=.int .i64 i) rfl
   have d1:V3.cell? ⟨q,i,none⟩=some (.int .i64 (c-1)):=by
    rw[Zbl q3,Array.getElem?_setIfInBounds,if_neg (by omega),Array.getElem?_setIfInBounds,if_pos rfl,if_pos z1]
   have d2:=Zb q3 i
   obtain⟨V4,hV4⟩:∃ z,V3.setCell ⟨q,i,none⟩ (.int .i64 c)=z:=⟨_,rfl⟩
   have k4:Keeps (fun x=>x≠q) V3 V4:=by rw[← hV4];exact(Keeps.refl _ V3).setCell (p:=⟨q,i,none⟩) (by simp) _
   have q4:V4.heap[q]?=some (.cells (((cur.setIfInBounds i (.int .i64 (c-1))).setIfInBounds q' (.int .i64 (d+1))).setIfInBounds i (.int .i64 c)) 3 (0,0)):=by rw[← hV4];exact Joins.block_setCell q3 _
   have d3:=Za (k4.at hA3 hAq) 2 (v:=.int .i64 q') rfl
   have d4:V4.cell? ⟨q,q',none⟩=some (.int .i64 (d+1)):=by
    rw[Zbl q4,Array.getElem?_setIfInBounds,if_neg (by omega),Array.getElem?_setIfInBounds,if_pos rfl,if_pos (by simpa using z2)]
   have d5:=Zb q4 q'
   obtain⟨V5,hV5⟩:∃ z,V4.setCell ⟨q,q',none⟩ (.int .i64 d)=z:=⟨_,rfl⟩
   have k5:Keeps (fun x=>x≠q) V3 V5:=by rw[← hV5];exact k4.setCell (p:=⟨q,q',none⟩) (by simp) _
   have q5:V5.heap[q]?=some (.cells cur 3 (0,0)):=by
    rw[← hV5,Joins.block_setCell q4,Zks m2 HQ6.out.2.1 HQ6.out.2.2]
   gi_wp2
   have hkW:Keeps (NotM m) W V5:=by
    have h1:Keeps (fun x=>x≠q∧x≠m) W V5:=((HK6.out.mono fun x _ hx=>hx.1).trans (HKK3.out.mono fun x _ hx=>hx.2)).trans (k5.mono fun x _ hx=>hx.1)
    refine⟨h1.os,h1.tape,h1.output,h1.size,fun x hx hs=>?_⟩
    by_cases e:x=q
    ·rw[e,q5,hcur]
    ·exact h1.block x hx ⟨e,hs⟩
   refine⟨hkW.mono fun x _ hx=>by show x≠m;omega,fun z hz=>?_,⟨HI.out.len,HI.out.plan.keep hkW,HI.out.work.keep hkW,(HM3.out.stay (k5.block m HM3.out.lt (by show m≠q;omega))).mono (by omega),hkW.at HI.out.b0 (by show G≠m;omega),hkW.at HI.out.b1 (by show G+1≠m;omega),hkW.at HI.out.b2 (by show H≠m;omega),hkW.at HI.out.b3 (by show Bs≠m;omega),HI.out.base.trans (hkW.mono fun x _ hs=>hs.1)⟩⟩
   rcases Nat.lt_or_ge z k with h9 | h9
   ·exact HN.out z h9
   ·obtain rfl:z=k:=by omega
    rw[hj]
    exact HLT.out
 case done=>
  rintro W ⟨hN,hI⟩ hdef
  have HI:=Lib.hid hI
  have HN:=Lib.hid hN
  have r0:=hI.b1
  have d0:=Za r0 0 (v:=.bool false) rfl
  have f0:=Zb r0 0
  obtain⟨V4,hV4⟩:∃ z,W.setCell ⟨G+1,0,none⟩ (.bool false)=z:=⟨_,rfl⟩
  have k4:Keeps (fun x=>x≠G+1) W V4:=by rw[← hV4];exact(Keeps.refl _ W).setCell (p:=⟨G+1,0,none⟩) (by simp) _
  have r4:V4.heap[G+1]?=some (flO false):=by rw[← hV4];exact Joins.block_setCell r0 _
  obtain⟨s1,s2,s3,s4,s5,s6,s7⟩:=HD.out.hs
  have bd:=k4.at hdef (show D≠G+1 by omega)
  have HK4:=Lib.hid k4
  clear hN hI
  go_wp2
  unfold Calm bodyPostM
  refine⟨by simp,.inl ⟨_,_,rfl,run_takeDeferred bd,?_⟩⟩
  have kF:Keeps (fun x=>x<D∧x≠G+1) W (V4.putObj D (.deferred none)):=(HK4.out.mono fun x _ hx=>hx.2).putObj (by show ¬ (D<D∧D≠G+1);omega) _
  have e0:(V4.putObj D (.deferred none)).cell? ⟨G+1,0,none⟩=some (.bool false):=Za ((World.putObj_heap_other (by omega)).trans r4) 0 rfl
  refine⟨.bool false,by simp[results,Tryz.f92,go_sem,e0],none,rfl,HN.out.no,HI.out.plan.keepP (G:=G) (fun v hv=>(HGS.out.1 v (by rw[← HTL.out];exact hv)).1) HGS.out.2 (kF.mono fun x _ (hx:x<G)=>⟨by omega,by omega⟩),(HI.out.memo.stay (kF.block m HI.out.memo.lt ⟨by omega,by omega⟩)).mono ?_,HI.out.base.via kF fun x hx _=>⟨by omega,by omega⟩⟩
  have h2:=Ze0 t p
  have h3:mvN t≤8*24*24:=by
   unfold mvN
   exact Nat.mul_le_mul (Nat.mul_le_mul HOK.out.task.teams.2 HOK.out.task.sites.2) HOK.out.task.sites.2
  omega
 case stop=>
  rintro c k W hk ⟨rfl,hR,hI⟩ hdef
  refine(wpIn_wide (n:=9)).2 ?_
  have HI:=Lib.hid hI
  have r0:=hI.b1
  obtain⟨s1,s2,s3,s4,s5,s6,s7⟩:=HD.out.hs
  go_wp2
  unfold Calm bodyPostM
  refine⟨by simp,.inl ⟨_,_,rfl,run_takeDeferred hdef,?_⟩⟩
  have kF:Keeps (fun x=>x<D) W (W.putObj D (.deferred none)):=(Keeps.refl _ W).putObj (by show ¬ D<D;omega) _
  have e0:(W.putObj D (.deferred none)).cell? ⟨G+1,0,none⟩=some (.bool true):=Za ((World.putObj_heap_other (by omega)).trans r0) 0 rfl
  refine⟨.bool true,by simp[results,Tryz.f92,go_sem,e0],some (ZaB t p (mvJ t p k)),rfl,hR,HI.out.plan.keepP (G:=G) (fun v hv=>(HGS.out.1 v (by rw[← HI.out.len];exact hv)).1) HGS.out.2 (kF.mono fun x _ (hx:x<G)=>by show x<D;omega),(HI.out.memo.stay (kF.block m HI.out.memo.lt (by show m<D;omega))).mono ?_,HI.out.base.via kF fun x hx _=>by show x<D;omega⟩
  have h2:=Ze0 t p
  have h3:mvN t≤8*24*24:=by
   unfold mvN
   exact Nat.mul_le_mul (Nat.mul_le_mul HOK.out.task.teams.2 HOK.out.task.sites.2) HOK.out.task.sites.2
  omega
end Go.Proofs.YtmpaflidennnoaaGreatDoor
