/- The parts RCurve, RPlace, RChance, RMiss, REValue. -/
import Derived.Test.YtmpaflidennnoaaGreatDoorK001
set_option maxRecDepth 100000
set_option maxHeartbeats 8000000
set_option linter.unusedVariables false
set_option linter.unusedSimpArgs false
namespace Go.Proofs.YtmpaflidennnoaaGreatDoor
open Go.RowKit Go.Shelf
attribute [local go_sem ↓] Go.wp_at_zero Go.wp_at_succ
def Zoc (bs:List BB) (w:World) (e:Ending) (w':World):Prop:=∃ r:Bool,e=.returned (.bool r)/\(r=true<->CurveP bs)/\Below w.heap.size w w'
theorem ZbK {bs:List BB} (h:¬ CurveP bs):(false=true<->CurveP bs):=⟨fun h2=>(by cases h2),fun h2=>Zpp h2 h⟩
theorem Zgx {v:Value} {bs:List BB} {w:World} (hv:BL w v bs) (hz:LimB bs):Calls Tryz.prog 113 #[v] w (Zoc bs w):=by
 obtain⟨n,hn⟩:=ZpB bs.length
 obtain⟨p,c,rfl⟩:∃ p c,v=.slice p n c:=by obtain⟨p,c,h,_⟩:=id hv;exact⟨_,_,by rw[<- hn];exact h⟩
 obtain⟨_,hcc,hnc⟩:=hv.len
 have HL:=Zpz hn
 have HZ:=Zpz hz
 by_cases h2:2<=n/\n<=64
 rotate_left
 ·have H:Hid ((decide ((2:Int)<=n) && decide ((n:Int)<=64))=false):=by show _=_;rw[Bool.and_eq_false_iff];simp only[decide_eq_false_iff_not];omega
  have HNT:Hid (¬ CurveP bs):=fun hc=>by have:=hc.len;rw[HL.out] at this;exact h2 this
  clear h2 hv hn hz
  go_enter Tryz.func113,Tryz.ntmps113
  have HE0:=Zpz (Env.start w).drew
  go_wp2_with fail
  refine ZY [(true,0),(true,1),(false,2),(true,3),(true,4),(true,5),(true,6),(true,7),(true,8),(false,9),(true,10),(true,11),(true,12),(true,13),(true,14),(true,15),(true,16),(false,17),(true,18),(true,19)] (Env w.heap.size w [] []) (fun _=>false)
   Zb Zb Zb (fun _ _=>rfl) Zi HE0.out ?_
  iterate 2
   refine Zr _ rfl rfl (fun w' hS=>Ze) ?_
   simp only[Act.put,Zl]
  refine Zt rfl rfl fun K hK=>?_
  go_simp
  go_at_call 161
  have HEC:=HE0
  refine(Zkp _ 2 64 _).mono ?_
  rintro e w1 ⟨rfl,hb⟩
  have HE1:=Zpz (HE0.out.step hb)
  refine hK _ _ (.inr HE1.out) ?_
  clear hK K hb HEC
  rw[H.out]
  iterate 2
   refine Zr _ rfl rfl (fun w' hS=>Ze) ?_
   simp only[Act.put,Zl]
  iterate 4
   refine ZR rfl rfl ?_
   simp only[Act.put,Zl]
  refine Z0 rfl rfl HE1.out ?_
  simp only[Act.put,Zl]
  iterate 1
   refine ZR rfl rfl ?_
   simp only[Act.put,Zl]
  iterate 2
   refine Zr _ rfl rfl (fun w' hS=>Ze) ?_
   simp only[Act.put,Zl]
  iterate 4
   refine ZR rfl rfl ?_
   simp only[Act.put,Zl]
  refine Z0 rfl rfl HE1.out ?_
  simp only[Act.put,Zl]
  iterate 1
   refine ZR rfl rfl ?_
   simp only[Act.put,Zl]
  iterate 1
   refine Zr _ rfl rfl (fun w' hS=>Ze) ?_
   simp only[Act.put,Zl]
  refine ZI ?_
  go_wp2
  go_ret
  exact⟨false,rfl,ZbK HNT.out,HE1.out.base⟩
 have H:Hid ((decide ((2:Int)<=n) && decide ((n:Int)<=64))=true):=by show _=_;simp;omega
 obtain⟨b,off,rfl,hbl,hat⟩:=hv.at hn Za
 have HAT:=Zpz hat
 have hfst:=fun V hV=>hat V hV 0 Za
 simp only[Nat.zero_mul,Nat.add_zero] at hfst
 obtain⟨q,hq⟩:=ZpB (bAt bs 0)
 rw[hq] at hfst
 have HQ0:=Zpz hq
 obtain⟨⟨s,t⟩,u,v⟩:=q
 dsimp only at hfst
 have HF:=Zpz hfst
 have i1':(0:Int)<(n:Int):=Za
 have H2:=Zpz h2
 clear hv hat hfst hq hn hz h2
 go_enter Tryz.func113,Tryz.ntmps113
 have HE0:=Zpz (Env.start w).drew
 go_wp2_with fail
 refine ZY [(true,0),(true,1),(false,2),(true,3),(true,4),(true,5),(true,6),(true,7),(true,8),(false,9),(true,10),(true,11),(true,12),(true,13),(true,14),(true,15),(true,16),(false,17),(true,18),(true,19)] (Env w.heap.size w [] []) (fun _=>false)
  Zb Zb Zb (fun _ _=>rfl) Zi HE0.out ?_
 iterate 2
  refine Zr _ rfl rfl (fun w' hS=>Ze) ?_
  simp only[Act.put,Zl]
 refine Zt rfl rfl fun K hK=>?_
 go_simp
 go_at_call 161
 have HEC:=HE0
 refine(Zkp _ 2 64 _).mono ?_
 rintro e w1 ⟨rfl,hb⟩
 have HE1:=Zpz (HE0.out.step hb)
 refine hK _ _ (.inr HE1.out) ?_
 clear hK K hb HEC
 rw[H.out]
 iterate 6
  refine Zr _ rfl rfl (fun w' hS=>by obtain⟨a0,a1,a2,a3⟩:=HF.out w' hS.base;exact Ze) ?_
  simp only[Act.put,Zl]
 refine Zt rfl rfl fun K hK=>?_
 go_simp
 go_at_call 53
 have HEC:=HE1
 refine(ZcC _).mono ?_
 rintro e w2 ⟨rfl,hb⟩
 have HE2:=Zpz (HE1.out.step hb)
 refine hK _ _ (.inr HE2.out) ?_
 clear hK K hb HEC
 by_cases hs1:s.toList=[48]/\t.toList=[49]
 rotate_left
 ·have hne:Hid (s.toList=[48]->¬ t.toList=[49]):=fun h1 h3=>hs1 ⟨h1,h3⟩
  have HNT:Hid (¬ CurveP bs):=fun hc=>by
   have:=hc.first
   rw[HQ0.out] at this
   simp only[Zcf,Prod.mk.injEq] at this
   obtain⟨⟨rfl,rfl⟩,_⟩:=this
   exact hs1 ⟨by decide +kernel,by decide +kernel⟩
  clear hs1
  refine Zr (.bool true) rfl rfl (fun w' hS=>by skip;go_simp;exact hne.out) ?_
  simp only[Act.put,Zl]
  iterate 2
   refine Zr _ rfl rfl (fun w' hS=>Ze) ?_
   simp only[Act.put,Zl]
  iterate 4
   refine ZR rfl rfl ?_
   simp only[Act.put,Zl]
  refine Z0 rfl rfl HE2.out ?_
  simp only[Act.put,Zl]
  iterate 1
   refine ZR rfl rfl ?_
   simp only[Act.put,Zl]
  iterate 1
   refine Zr _ rfl rfl (fun w' hS=>Ze) ?_
   simp only[Act.put,Zl]
  refine ZI ?_
  go_wp2
  go_ret
  exact⟨false,rfl,ZbK HNT.out,HE2.out.base⟩
 have hb1:(s.toList==[48])=true:=by rw[beq_iff_eq];exact hs1.1
 have hb2:(t.toList==[49])=true:=by rw[beq_iff_eq];exact hs1.2
 refine Zr (.bool false) rfl rfl (fun w' hS=>by skip;go_simp;first|done|simp[hs1.1,hs1.2]) ?_
 simp only[Act.put,Zl]
 have HS1:=Zpz hs1
 clear hs1 hb1 hb2
 iterate 6
  refine Zr _ rfl rfl (fun w' hS=>by obtain⟨a0,a1,a2,a3⟩:=HF.out w' hS.base;exact Ze) ?_
  simp only[Act.put,Zl]
 refine Zt rfl rfl fun K hK=>?_
 go_simp
 go_at_call 53
 have HEC:=HE2
 refine(ZcC _).mono ?_
 rintro e w3 ⟨rfl,hb⟩
 have HE3:=Zpz (HE2.out.step hb)
 refine hK _ _ (.inr HE3.out) ?_
 clear hK K hb HEC
 by_cases hs2:u.toList=[48]/\v.toList=[49]
 rotate_left
 ·have hne:Hid (u.toList=[48]->¬ v.toList=[49]):=fun h1 h3=>hs2 ⟨h1,h3⟩
  have HNT:Hid (¬ CurveP bs):=fun hc=>by
   have:=hc.first
   rw[HQ0.out] at this
   simp only[Zcf,Prod.mk.injEq] at this
   obtain⟨_,rfl,rfl⟩:=this
   exact hs2 ⟨by decide +kernel,by decide +kernel⟩
  clear hs2
  refine Zr (.bool true) rfl rfl (fun w' hS=>by skip;go_simp;exact hne.out) ?_
  simp only[Act.put,Zl]
  iterate 1
   refine Zr _ rfl rfl (fun w' hS=>Ze) ?_
   simp only[Act.put,Zl]
  refine ZI ?_
  go_wp2
  go_ret
  exact⟨false,rfl,ZbK HNT.out,HE3.out.base⟩
 have HF0:Hid (bAt bs 0=Zcf):=by
  rw[HQ0.out,Zd0 HS1.out.1,Zd0 HS1.out.2,Zd0 hs2.1,Zd0 hs2.2]
  first | done | rfl
 refine Zr (.bool false) rfl rfl (fun w' hS=>by skip;go_simp;first|done|simp[hs2.1,hs2.2]) ?_
 simp only[Act.put,Zl]
 clear hs2 HS1 HQ0 HF
 iterate 1
  refine Zr _ rfl rfl (fun w' hS=>Ze) ?_
  simp only[Act.put,Zl]
 refine ZI ?_
 clear HE0 HE1 HE2
 go_wp2_with fail
 go_loopw [3] (fun i wr=>∃ k:Nat,i=.int .i64 k/\k<=n/\Hid (UptoC bs k)/\Hid (Env w.heap.size w [] [] wr)) (fun i _=>n-(intOf i).toNat)
 case atStart=>exact⟨0,rfl,ZoY _,UptoC.zero bs,HE3⟩
 case round=>
  obtain⟨k,rfl,hk,HU,HE⟩:=hrel
  clear HE3
  by_cases hlt:k<n
  ·obtain⟨a0,a1,a2,a3⟩:=HAT.out wr HE.out.base k hlt
   obtain⟨q,hq⟩:=ZpB (bAt bs k)
   have HZZ:Hid ((q.1.1.size<=1000000/\q.1.2.size<=1000000)/\q.2.1.size<=1000000/\q.2.2.size<=1000000):=by rw[<- hq];exact HZ.out _ (Zkh (by rw[HL.out];exact hlt))
   rw[hq] at a0 a1 a2 a3
   have HQ:=Zpz hq
   have HFK:Hid (∀ V,Env w.heap.size w [] [] V->V.cell? ⟨b,off+k*4,none⟩=some (.string q.1.1)/\V.cell? ⟨b,off+k*4+1,none⟩=some (.string q.1.2)/\V.cell? ⟨b,off+k*4+2,none⟩=some (.string q.2.1)/\V.cell? ⟨b,off+k*4+3,none⟩=some (.string q.2.2)):=fun V hV=>by rw[<- hq];exact HAT.out V hV.base k hlt
   obtain⟨⟨s,t⟩,u,v⟩:=q
   dsimp only at a0 a1 a2 a3 HZZ HFK
   have i0':(0:Int)<=(k:Int):=Za
   have i2':(k:Int)<(n:Int):=Za
   clear hq
   go_wp2_with fail
   refine(ZgS s t HZZ.out.1.1 HZZ.out.1.2 _).mono ?_
   rintro e w1 ⟨rfl,hb⟩
   have HE1:=Zpz (HE.out.step hb)
   obtain⟨a0,a1,a2,a3⟩:=HFK.out w1 HE1.out
   clear hb
   go_wp2_with fail
   refine(ZgS u v HZZ.out.2.1 HZZ.out.2.2 _).mono ?_
   rintro e w2 ⟨rfl,hb⟩
   have HE2:=Zpz (HE1.out.step hb)
   clear hb a0 a1 a2 a3
   have HE2':=Zpz HE2.out.drew
   cases hm1:Zw 18 (s,t)
   ·have HNT:Hid (¬ CurveP bs):=Zjl (by rw[HL.out];exact hlt) (.inl (by rw[HQ.out];exact hm1))
    clear hm1
    go_wp2_with fail
    refine ZY [(true,0),(true,1),(true,2),(true,3),(true,4),(true,5),(true,6),(true,7),(true,8),(true,9),(true,10),(true,11),(false,12),(false,13),(true,14),(true,15)] (Env w.heap.size w [] []) (fun _=>false)
     Zb Zb Zb (fun _ _=>rfl) Zi HE2.out.drew ?_
    iterate 3
     refine Zr _ rfl rfl (fun w' hS=>Ze) ?_
     simp only[Act.put,Zl]
    iterate 2
     refine ZR rfl rfl ?_
     simp only[Act.put,Zl]
    iterate 2
     refine Zr _ rfl rfl (fun w' hS=>Ze) ?_
     simp only[Act.put,Zl]
    iterate 5
     refine ZR rfl rfl ?_
     simp only[Act.put,Zl]
    refine Z0 rfl rfl HE2.out.drew ?_
    simp only[Act.put,Zl]
    refine Z0 rfl rfl HE2.out.drew ?_
    simp only[Act.put,Zl]
    iterate 1
     refine ZR rfl rfl ?_
     simp only[Act.put,Zl]
    iterate 1
     refine Zr _ rfl rfl (fun w' hS=>Ze) ?_
     simp only[Act.put,Zl]
    refine ZI ?_
    go_wp2
    go_ret
    exact⟨false,rfl,ZbK HNT.out,HE2'.out.base⟩
   ·cases hm2:Zw 18 (u,v)
    ·have HNT:Hid (¬ CurveP bs):=Zjl (by rw[HL.out];exact hlt) (.inr (by rw[HQ.out];exact hm2))
     clear hm1 hm2
     go_wp2_with fail
     refine ZY [(true,0),(true,1),(true,2),(true,3),(true,4),(true,5),(true,6),(true,7),(true,8),(true,9),(true,10),(true,11),(false,12),(false,13),(true,14),(true,15)] (Env w.heap.size w [] []) (fun _=>false)
      Zb Zb Zb (fun _ _=>rfl) Zi HE2.out.drew ?_
     iterate 7
      refine Zr _ rfl rfl (fun w' hS=>Ze) ?_
      simp only[Act.put,Zl]
     iterate 5
      refine ZR rfl rfl ?_
      simp only[Act.put,Zl]
     refine Z0 rfl rfl HE2.out.drew ?_
     simp only[Act.put,Zl]
     refine Z0 rfl rfl HE2.out.drew ?_
     simp only[Act.put,Zl]
     iterate 1
      refine ZR rfl rfl ?_
      simp only[Act.put,Zl]
     iterate 1
      refine Zr _ rfl rfl (fun w' hS=>Ze) ?_
      simp only[Act.put,Zl]
     refine ZI ?_
     go_wp2
     go_ret
     exact⟨false,rfl,ZbK HNT.out,HE2'.out.base⟩
    ·obtain⟨pc,zc⟩:=ZcT hm1
     obtain⟨ph,zh⟩:=ZcT hm2
     have HSM:Hid (Zw 18 (bAt bs k).1=true/\Zw 18 (bAt bs k).2=true):=by rw[HQ.out];exact⟨hm1,hm2⟩
     have ec:cR bs k=ratP s t:=by unfold cR;rw[HQ.out]
     have eh:hR bs k=ratP u v:=by unfold hR;rw[HQ.out]
     dsimp only at pc zc ph zh
     rw[<- ec] at pc zc
     rw[<- eh] at ph zh
     obtain⟨g0,hg0⟩:=ZpB (sgnR (hR bs k) 1)
     have HG0:=Zpz hg0
     have PC:=Zpz pc
     have ZC:=Zpz zc
     have PH:=Zpz ph
     have ZH:=Zpz zh
     clear hm1 hm2 ec eh pc zc ph zh hg0
     by_cases htop:(0:Int)<g0
     ·have HNT:Hid (¬ CurveP bs):=Zoj (by rw[HL.out];exact hlt) (fun h=>by have:=ZbA h;rw[HG0.out] at this;exact this htop)
      go_wp2_with fail
      refine ZY [(true,0),(true,1),(true,2),(true,3),(true,4),(true,5),(true,6),(true,7),(true,8),(true,9),(true,10),(true,11),(false,12),(false,13),(true,14),(true,15)] (Env w.heap.size w [] []) (fun _=>false)
       Zb Zb Zb (fun _ _=>rfl) Zi HE2.out.drew ?_
      iterate 12
       refine Zr _ rfl rfl (fun w' hS=>by obtain⟨a0,a1,a2,a3⟩:=HFK.out w' hS;exact Ze) ?_
       simp only[Act.put,Zl]
      refine Zt rfl rfl fun K hK=>?_
      go_simp
      go_at_call 163
      have HEC:=HE2'
      refine(Ziz _).mono ?_
      rintro e w3 ⟨rfl,hb⟩
      have HE3:=Zpz (HE2'.out.step hb)
      refine hK _ _ (.inr HE3.out) ?_
      clear hK K hb HEC
      refine Zt rfl rfl fun K hK=>?_
      go_simp
      go_at_call 56
      have HEC:=HE3
      refine(ZbY PH.out ZfJ HG0.out _).mono ?_
      rintro e w4 ⟨rfl,hb⟩
      have HE4:=Zpz (HE3.out.step hb)
      refine hK _ _ (.inr HE4.out) ?_
      clear hK K hb HEC
      iterate 2
       refine Zr _ rfl rfl (fun w' hS=>Ze) ?_
       simp only[Act.put,Zl]
      refine ZI ?_
      go_wp2
      go_ret
      exact⟨false,rfl,ZbK HNT.out,HE4.out.base⟩
     ·have HTOP:Hid (hR bs k<=1):=Rat.not_lt.1 fun h=>htop (by rw[<- HG0.out];exact Zby (Rat.not_le.2 h))
      go_wp2_with fail
      refine ZY [(true,0),(true,1),(true,2),(true,3),(true,4),(true,5),(true,6),(true,7),(true,8),(true,9),(true,10),(true,11),(false,12),(false,13),(true,14),(true,15)] (Env w.heap.size w [] []) (fun _=>false)
       Zb Zb Zb (fun _ _=>rfl) Zi HE2.out.drew ?_
      iterate 12
       refine Zr _ rfl rfl (fun w' hS=>by obtain⟨a0,a1,a2,a3⟩:=HFK.out w' hS;exact Ze) ?_
       simp only[Act.put,Zl]
      refine Zt rfl rfl fun K hK=>?_
      go_simp
      go_at_call 163
      have HEC:=HE2'
      refine(Ziz _).mono ?_
      rintro e w3 ⟨rfl,hb⟩
      have HE3:=Zpz (HE2'.out.step hb)
      refine hK _ _ (.inr HE3.out) ?_
      clear hK K hb HEC
      refine Zt rfl rfl fun K hK=>?_
      go_simp
      go_at_call 56
      have HEC:=HE3
      refine(ZbY PH.out ZfJ HG0.out _).mono ?_
      rintro e w4 ⟨rfl,hb⟩
      have HE4:=Zpz (HE3.out.step hb)
      refine hK _ _ (.inr HE4.out) ?_
      clear hK K hb HEC
      iterate 2
       refine Zr _ rfl rfl (fun w' hS=>Ze) ?_
       simp only[Act.put,Zl]
      refine ZI ?_
      go_wp2_with fail
      clear HE HE1 HE2 HE2' HE3 htop HG0
      rcases Zo0 k with hk0 | hk0
      ·have hnk:¬ (0:Int)<(k:Int):=Za
       have hnk1:¬ (1:Int)<(k:Int):=Za
       refine ZY [(true,0),(true,1),(true,2),(true,3),(true,4),(true,5),(true,6),(true,7),(true,8),(true,9),(true,10),(true,11),(true,12),(true,13),(false,14),(true,15),(true,16),(true,17),(true,18),(true,19),(true,20),(true,21),(true,22),(true,23),(true,24),(true,25),(true,26),(true,27),(false,28),(true,29),(true,30),(true,31)] (Env w.heap.size w [] []) (fun _=>false)
        Zb Zb Zb (fun _ _=>rfl) Zi HE4.out.drew ?_
       iterate 3
        refine Zr _ rfl rfl (fun w' hS=>Ze) ?_
        simp only[Act.put,Zl]
       iterate 11
        refine ZR rfl rfl ?_
        simp only[Act.put,Zl]
       refine Z0 rfl rfl HE4.out.drew ?_
       simp only[Act.put,Zl]
       iterate 13
        refine ZR rfl rfl ?_
        simp only[Act.put,Zl]
       refine Z0 rfl rfl HE4.out.drew ?_
       simp only[Act.put,Zl]
       iterate 2
        refine ZR rfl rfl ?_
        simp only[Act.put,Zl]
       iterate 1
        refine Zr _ rfl rfl (fun w' hS=>Ze) ?_
        simp only[Act.put,Zl]
       refine ZI ?_
       go_wp2_with fail
       refine ZY [(true,0),(true,1),(true,2),(true,3),(true,4),(true,5),(true,6),(true,7),(true,8),(true,9),(true,10),(true,11),(true,13),(true,14),(true,15),(true,16),(true,17),(true,18),(true,19),(true,20),(true,21),(true,22),(false,12),(false,23),(false,24),(true,25),(true,26)] (Env w.heap.size w [] []) (fun _=>false)
        Zb Zb Zb (fun _ _=>rfl) Zi HE4.out.drew.drew ?_
       iterate 1
        refine Zr _ rfl rfl (fun w' hS=>Ze) ?_
        simp only[Act.put,Zl]
       refine Zr (.bool false) rfl rfl (fun w' hS=>by skip;go_simp;first|done|rfl|simp[hnk1]) ?_
       simp only[Act.put,Zl]
       iterate 1
        refine Zr _ rfl rfl (fun w' hS=>Ze) ?_
        simp only[Act.put,Zl]
       iterate 19
        refine ZR rfl rfl ?_
        simp only[Act.put,Zl]
       refine Z0 rfl rfl HE4.out.drew.drew ?_
       simp only[Act.put,Zl]
       refine Z0 rfl rfl HE4.out.drew.drew ?_
       simp only[Act.put,Zl]
       refine Z0 rfl rfl HE4.out.drew.drew ?_
       simp only[Act.put,Zl]
       iterate 1
        refine ZR rfl rfl ?_
        simp only[Act.put,Zl]
       iterate 1
        refine Zr _ rfl rfl (fun w' hS=>Ze) ?_
        simp only[Act.put,Zl]
       refine ZI ?_
       have HU2:Hid (UptoC bs (k+1)):=HU.out.step HSM.out HTOP.out (fun i hi=>Za) (fun i hi=>Za)
       have HE5:=Zpz HE4.out.drew.drew
       clear hk0
       go_wp2
       go_roundw
       case rel=>exact⟨k+1,by go_num,Za,HU2,HE5⟩
       case measure=>exact Zj
      ·obtain⟨j,hj⟩:∃ j,k=j+1:=⟨k-1,Za⟩
       have e1:IntKind.i64.wrap ((k:Int)-1)=(j:Int):=by rw[Zpm _ Za];omega
       obtain⟨q,hq⟩:=ZpB (bAt bs j)
       have HFJ:Hid (∀ V,Env w.heap.size w [] [] V->V.cell? ⟨b,off+j*4,none⟩=some (.string q.1.1)/\V.cell? ⟨b,off+j*4+1,none⟩=some (.string q.1.2)/\V.cell? ⟨b,off+j*4+2,none⟩=some (.string q.2.1)/\V.cell? ⟨b,off+j*4+3,none⟩=some (.string q.2.2)):=fun V hV=>by rw[<- hq];exact HAT.out V hV.base j Za
       obtain⟨sm1,sm2⟩:=HU.out.small j Za
       obtain⟨pc,zc⟩:=ZcT sm1
       obtain⟨ph,zh⟩:=ZcT sm2
       have PCJ:Hid (IsP (cR bs j) q.1.1 q.1.2/\Sz 18 (cR bs j)):=by rw[<- hq];exact⟨pc,zc⟩
       have PHJ:Hid (IsP (hR bs j) q.2.1 q.2.2/\Sz 18 (hR bs j)):=by rw[<- hq];exact⟨ph,zh⟩
       obtain⟨⟨s1,t1⟩,u1,v1⟩:=q
       dsimp only at HFJ PCJ PHJ
       have hp1:(0:Int)<(k:Int):=Za
       have j0':(0:Int)<=(j:Int):=Za
       have j1':(j:Int)<(n:Int):=Za
       have HJ:=Zpz hj
       obtain⟨m1,hm1⟩:=ZpB (sgnR (cR bs k) (cR bs j))
       obtain⟨m2,hm2⟩:=ZpB (sgnR (hR bs k) (hR bs j))
       have HM1:=Zpz hm1
       have HM2:=Zpz hm2
       clear hq sm1 sm2 pc zc ph zh hj hm1 hm2
       have HE4':=Zpz HE4.out.drew
       by_cases hup1:m1<=0
       ·have HNT:Hid (¬ CurveP bs):=Znw (i:=j) (by rw[HL.out,<- HJ.out];exact hlt) fun h=>by
         rw[<- HJ.out] at h
         have:=Zby (a:=cR bs k) (b:=cR bs j) (Rat.not_le.2 h.1)
         rw[HM1.out] at this
         omega
        refine ZY [(true,0),(true,1),(true,2),(true,3),(true,4),(true,5),(true,6),(true,7),(true,8),(true,9),(true,10),(true,11),(true,12),(true,13),(false,14),(true,15),(true,16),(true,17),(true,18),(true,19),(true,20),(true,21),(true,22),(true,23),(true,24),(true,25),(true,26),(true,27),(false,28),(true,29),(true,30),(true,31)] (Env w.heap.size w [] []) (fun _=>false)
         Zb Zb Zb (fun _ _=>rfl) Zi HE4.out.drew ?_
        iterate 14
         refine Zr _ rfl rfl (fun w' hS=>by obtain⟨a0,a1,a2,a3⟩:=HFK.out w' hS;obtain⟨b0,b1,b2,b3⟩:=HFJ.out w' hS;exact Ze) ?_
         simp only[Act.put,Zl]
        refine Zt rfl rfl fun K hK=>?_
        go_simp
        go_at_call 56
        have HEC:=HE4'
        refine(ZbY PC.out PCJ.out.1 HM1.out _).mono ?_
        rintro e w5 ⟨rfl,hb⟩
        have HE5:=Zpz (HE4'.out.step hb)
        refine hK _ _ (.inr HE5.out) ?_
        clear hK K hb HEC
        iterate 2
         refine Zr _ rfl rfl (fun w' hS=>Ze) ?_
         simp only[Act.put,Zl]
        iterate 11
         refine ZR rfl rfl ?_
         simp only[Act.put,Zl]
        refine Z0 rfl rfl HE5.out ?_
        simp only[Act.put,Zl]
        iterate 1
         refine ZR rfl rfl ?_
         simp only[Act.put,Zl]
        iterate 2
         refine Zr _ rfl rfl (fun w' hS=>Ze) ?_
         simp only[Act.put,Zl]
        refine ZI ?_
        go_wp2
        go_ret
        exact⟨false,rfl,ZbK HNT.out,HE5.out.base⟩
       by_cases hup2:m2<0
       ·have HNT:Hid (¬ CurveP bs):=Znw (i:=j) (by rw[HL.out,<- HJ.out];exact hlt) fun h=>by
         rw[<- HJ.out] at h
         have:=Zg9 (a:=hR bs k) (b:=hR bs j) (Rat.not_lt.2 h.2)
         rw[HM2.out] at this
         omega
        refine ZY [(true,0),(true,1),(true,2),(true,3),(true,4),(true,5),(true,6),(true,7),(true,8),(true,9),(true,10),(true,11),(true,12),(true,13),(false,14),(true,15),(true,16),(true,17),(true,18),(true,19),(true,20),(true,21),(true,22),(true,23),(true,24),(true,25),(true,26),(true,27),(false,28),(true,29),(true,30),(true,31)] (Env w.heap.size w [] []) (fun _=>false)
         Zb Zb Zb (fun _ _=>rfl) Zi HE4.out.drew ?_
        iterate 14
         refine Zr _ rfl rfl (fun w' hS=>by obtain⟨a0,a1,a2,a3⟩:=HFK.out w' hS;obtain⟨b0,b1,b2,b3⟩:=HFJ.out w' hS;exact Ze) ?_
         simp only[Act.put,Zl]
        refine Zt rfl rfl fun K hK=>?_
        go_simp
        go_at_call 56
        have HEC:=HE4'
        refine(ZbY PC.out PCJ.out.1 HM1.out _).mono ?_
        rintro e w5 ⟨rfl,hb⟩
        have HE5:=Zpz (HE4'.out.step hb)
        refine hK _ _ (.inr HE5.out) ?_
        clear hK K hb HEC
        iterate 13
         refine Zr _ rfl rfl (fun w' hS=>by obtain⟨a0,a1,a2,a3⟩:=HFK.out w' hS;obtain⟨b0,b1,b2,b3⟩:=HFJ.out w' hS;exact Ze) ?_
         simp only[Act.put,Zl]
        refine Zt rfl rfl fun K hK=>?_
        go_simp
        go_at_call 56
        have HEC:=HE5
        refine(ZbY PH.out PHJ.out.1 HM2.out _).mono ?_
        rintro e w6 ⟨rfl,hb⟩
        have HE6:=Zpz (HE5.out.step hb)
        refine hK _ _ (.inr HE6.out) ?_
        clear hK K hb HEC
        iterate 3
         refine Zr _ rfl rfl (fun w' hS=>Ze) ?_
         simp only[Act.put,Zl]
        refine ZI ?_
        go_wp2
        go_ret
        exact⟨false,rfl,ZbK HNT.out,HE6.out.base⟩
       have HUP:Hid (cR bs j<cR bs k/\hR bs j<=hR bs k):=⟨Rat.not_le.1 fun h=>hup1 (by rw[<- HM1.out];exact Int.not_lt.1 (ZbA h)),Rat.not_lt.1 fun h=>hup2 (by rw[<- HM2.out];exact Int.not_le.1 (Zhw h))⟩
       refine ZY [(true,0),(true,1),(true,2),(true,3),(true,4),(true,5),(true,6),(true,7),(true,8),(true,9),(true,10),(true,11),(true,12),(true,13),(false,14),(true,15),(true,16),(true,17),(true,18),(true,19),(true,20),(true,21),(true,22),(true,23),(true,24),(true,25),(true,26),(true,27),(false,28),(true,29),(true,30),(true,31)] (Env w.heap.size w [] []) (fun _=>false)
        Zb Zb Zb (fun _ _=>rfl) Zi HE4.out.drew ?_
       iterate 14
        refine Zr _ rfl rfl (fun w' hS=>by obtain⟨a0,a1,a2,a3⟩:=HFK.out w' hS;obtain⟨b0,b1,b2,b3⟩:=HFJ.out w' hS;exact Ze) ?_
        simp only[Act.put,Zl]
       refine Zt rfl rfl fun K hK=>?_
       go_simp
       go_at_call 56
       have HEC:=HE4'
       refine(ZbY PC.out PCJ.out.1 HM1.out _).mono ?_
       rintro e w5 ⟨rfl,hb⟩
       have HE5:=Zpz (HE4'.out.step hb)
       refine hK _ _ (.inr HE5.out) ?_
       clear hK K hb HEC
       iterate 13
        refine Zr _ rfl rfl (fun w' hS=>by obtain⟨a0,a1,a2,a3⟩:=HFK.out w' hS;obtain⟨b0,b1,b2,b3⟩:=HFJ.out w' hS;exact Ze) ?_
        simp only[Act.put,Zl]
       refine Zt rfl rfl fun K hK=>?_
       go_simp
       go_at_call 56
       have HEC:=HE5
       refine(ZbY PH.out PHJ.out.1 HM2.out _).mono ?_
       rintro e w6 ⟨rfl,hb⟩
       have HE6:=Zpz (HE5.out.step hb)
       refine hK _ _ (.inr HE6.out) ?_
       clear hK K hb HEC
       iterate 3
        refine Zr _ rfl rfl (fun w' hS=>Ze) ?_
        simp only[Act.put,Zl]
       refine ZI ?_
       go_wp2_with fail
       clear hup1 hup2 HM1 HM2 HE4 HE4' HE5
       rcases Zo0 j with hj0 | hj0
       ·have hnk1:¬ (1:Int)<(k:Int):=by have:=HJ.out;omega
        go_wp2_with fail
        refine ZY [(true,0),(true,1),(true,2),(true,3),(true,4),(true,5),(true,6),(true,7),(true,8),(true,9),(true,10),(true,11),(true,13),(true,14),(true,15),(true,16),(true,17),(true,18),(true,19),(true,20),(true,21),(true,22),(false,12),(false,23),(false,24),(true,25),(true,26)] (Env w.heap.size w [] []) (fun _=>false)
         Zb Zb Zb (fun _ _=>rfl) Zi HE6.out.drew ?_
        iterate 1
         refine Zr _ rfl rfl (fun w' hS=>Ze) ?_
         simp only[Act.put,Zl]
        refine Zr (.bool false) rfl rfl (fun w' hS=>by skip;go_simp;first|done|rfl|simp[hnk1]) ?_
        simp only[Act.put,Zl]
        iterate 1
         refine Zr _ rfl rfl (fun w' hS=>Ze) ?_
         simp only[Act.put,Zl]
        iterate 19
         refine ZR rfl rfl ?_
         simp only[Act.put,Zl]
        refine Z0 rfl rfl HE6.out.drew ?_
        simp only[Act.put,Zl]
        refine Z0 rfl rfl HE6.out.drew ?_
        simp only[Act.put,Zl]
        refine Z0 rfl rfl HE6.out.drew ?_
        simp only[Act.put,Zl]
        iterate 1
         refine ZR rfl rfl ?_
         simp only[Act.put,Zl]
        iterate 1
         refine Zr _ rfl rfl (fun w' hS=>Ze) ?_
         simp only[Act.put,Zl]
        refine ZI ?_
        have HU2:Hid (UptoC bs (k+1)):=HU.out.step HSM.out HTOP.out (fun i hi=>by
         obtain rfl:i=j:=by have:=HJ.out;omega
         rw[<- HJ.out]
         exact HUP.out) (fun i hi=>by have:=HJ.out;omega)
        have HE7:=Zpz HE6.out.drew
        clear hj0
        go_wp2
        go_roundw
        case rel=>exact⟨k+1,by go_num,Za,HU2,HE7⟩
        case measure=>exact Zj
       ·obtain⟨i,hi⟩:∃ i,j=i+1:=⟨j-1,Za⟩
        have e2:IntKind.i64.wrap ((k:Int)-2)=(i:Int):=by have:=HJ.out;rw[Zpm _ Za];omega
        have hp2:(1:Int)<(k:Int):=by have:=HJ.out;omega
        have hjn:j<k:=by have:=HJ.out;omega
        obtain⟨q,hq⟩:=ZpB (bAt bs i)
        have HFI:Hid (∀ V,Env w.heap.size w [] [] V->V.cell? ⟨b,off+i*4,none⟩=some (.string q.1.1)/\V.cell? ⟨b,off+i*4+1,none⟩=some (.string q.1.2)/\V.cell? ⟨b,off+i*4+2,none⟩=some (.string q.2.1)/\V.cell? ⟨b,off+i*4+3,none⟩=some (.string q.2.2)):=fun V hV=>by rw[<- hq];exact HAT.out V hV.base i Za
        obtain⟨sm1,sm2⟩:=HU.out.small i Za
        obtain⟨pc,zc⟩:=ZcT sm1
        obtain⟨ph,zh⟩:=ZcT sm2
        change IsP (cR bs i) _ _ at pc
        change Sz 18 (cR bs i) at zc
        change IsP (hR bs i) _ _ at ph
        change Sz 18 (hR bs i) at zh
        have hup:=HU.out.up i Za
        have ej:i+1=j:=hi.symm
        rw[ej] at hup
        obtain⟨⟨x1,y1,f1⟩,⟨x2,y2,f2⟩,⟨x3,y3,f3⟩,d1⟩:=Zi0 PCJ.out.1 PHJ.out.1 PC.out PH.out PCJ.out.2 PHJ.out.2 ZC.out ZH.out HUP.out.1 HUP.out.2
        obtain⟨⟨x4,y4,f4⟩,⟨x5,y5,f5⟩,⟨x6,y6,f6⟩,d2⟩:=Zi0 pc ph PCJ.out.1 PHJ.out.1 zc zh PCJ.out.2 PHJ.out.2 hup.1 hup.2
        rw[hq] at pc ph
        obtain⟨⟨s2,t2⟩,u2,v2⟩:=q
        dsimp only at HFI pc ph
        have CT1:=Zpz (fun W=>Ze8 PCJ.out.1 PHJ.out.1 PC.out PH.out f1 f2 f3 d1 W)
        have CT2:=Zpz (fun W=>Ze8 pc ph PCJ.out.1 PHJ.out.1 f4 f5 f6 d2 W)
        obtain⟨m3,hm3⟩:=ZpB (sgnR ((hR bs k-hR bs j)/(cR bs k-cR bs j)) ((hR bs j-hR bs i)/(cR bs j-cR bs i)))
        have CT3:=Zpz (fun W=>ZbY f3 f6 hm3 W)
        have l0':(0:Int)<=(i:Int):=Za
        have l1':(i:Int)<(n:Int):=Za
        have HI:=Zpz hi
        have HM3:=Zpz hm3
        clear hq sm1 sm2 pc zc ph zh hi hm3 hup ej f1 f2 f3 f4 f5 f6 d1 d2 hj0
        have HE6':=Zpz HE6.out.drew
        refine ZY [(true,0),(true,1),(true,2),(true,3),(true,4),(true,5),(true,6),(true,7),(true,8),(true,9),(true,10),(true,11),(true,13),(true,14),(true,15),(true,16),(true,17),(true,18),(true,19),(true,20),(true,21),(true,22),(false,12),(false,23),(false,24),(true,25),(true,26)] (Env w.heap.size w [] []) (fun _=>false)
         Zb Zb Zb (fun _ _=>rfl) Zi HE6.out.drew ?_
        iterate 22
         refine Zr _ rfl rfl (fun w' hS=>by obtain⟨a0,a1,a2,a3⟩:=HFK.out w' hS;obtain⟨b0,b1,b2,b3⟩:=HFJ.out w' hS;obtain⟨c0,c1,c2,c3⟩:=HFI.out w' hS;exact Ze) ?_
         simp only[Act.put,Zl]
        refine Zt rfl rfl fun K hK=>?_
        go_simp
        go_at_call 140
        have HEC:=HE6'
        refine(CT1.out _).mono ?_
        rintro e w7 ⟨rfl,hb⟩
        have HE7:=Zpz (HE6'.out.step hb)
        refine hK _ _ (.inr HE7.out) ?_
        clear hK K hb HEC
        refine Zt rfl rfl fun K hK=>?_
        go_simp
        go_at_call 140
        have HEC:=HE7
        refine(CT2.out _).mono ?_
        rintro e w8 ⟨rfl,hb⟩
        have HE8:=Zpz (HE7.out.step hb)
        refine hK _ _ (.inr HE8.out) ?_
        clear hK K hb HEC
        refine Zt rfl rfl fun K hK=>?_
        go_simp
        go_at_call 56
        have HEC:=HE8
        refine(CT3.out _).mono ?_
        rintro e w9 ⟨rfl,hb⟩
        have HE9:=Zpz (HE8.out.step hb)
        refine hK _ _ (.inr HE9.out) ?_
        clear hK K hb HEC
        iterate 2
         refine Zr _ rfl rfl (fun w' hS=>Ze) ?_
         simp only[Act.put,Zl]
        refine ZI ?_
        clear HE6 HE6' HE7 HE8
        by_cases hcc:(0:Int)<m3
        ·have HNT:Hid (¬ CurveP bs):=ZnI (i:=i) (by rw[HL.out];have:=HI.out;have:=HJ.out;omega) fun h=>by
          have e3:i+1=j:=HI.out.symm
          have e4:i+1+1=k:=by rw[e3];exact HJ.out.symm
          unfold slp at h
          rw[e4,e3] at h
          have:=ZbA h
          rw[HM3.out] at this
          exact this hcc
         go_wp2
         go_ret
         exact⟨false,rfl,ZbK HNT.out,HE9.out.base⟩
        ·have HU2:Hid (UptoC bs (k+1)):=HU.out.step HSM.out HTOP.out (fun l hl=>by
          obtain rfl:l=j:=by have:=HJ.out;omega
          rw[<- HJ.out]
          exact HUP.out) (fun l hl=>by
          obtain rfl:l=i:=by have:=HJ.out;have:=HI.out;omega
          have e3:l+1=j:=HI.out.symm
          have e4:l+1+1=k:=by rw[e3];exact HJ.out.symm
          unfold slp
          rw[e4,e3]
          exact Rat.not_lt.1 fun h=>hcc (by rw[<- HM3.out];exact Zby (Rat.not_le.2 h)))
         go_wp2
         go_roundw
         case rel=>exact⟨k+1,by go_num,Za,HU2,HE9⟩
         case measure=>exact Zj
  ·obtain rfl:k=n:=Za
   have HT:Hid (CurveP bs):=by
    have h:=HU.out
    rw[<- HL.out] at h
    exact h.curve (by rw[HL.out];exact H2.out) HF0.out
   go_wp2
   go_ret
   exact⟨true,rfl,⟨fun _=>HT.out,fun _=>rfl⟩,HE.out.base⟩
def ZlO (bs:List BB) (q:Rat) (w:World) (e:Ending) (w':World):Prop:=∃ k:Nat,e=.returned (.int .i64 k)/\Zbf bs.length (cR bs) q k/\Below w.heap.size w w'
theorem Zkz {v:Value} {bs:List BB} {w:World} {q:Rat} {s t:ByteArray} (hv:BL w v bs) (hC:CurveP bs) (hq:IsP q s t):Calls Tryz.prog 139 #[v,pV s t] w (ZlO bs q w):=by
 obtain⟨n,hn⟩:=ZpB bs.length
 obtain⟨p,c,rfl⟩:∃ p c,v=.slice p n c:=by obtain⟨p,c,h,_⟩:=id hv;exact⟨_,_,by rw[<- hn];exact h⟩
 obtain⟨_,hcc,hnc⟩:=hv.len
 have hl:=hC.len
 rw[hn] at hl
 obtain⟨b,off,rfl,hbl,hat⟩:=hv.at hn Za
 have HL:=Zpz hn
 have HAT:=Zpz hat
 have HC:=Zpz hC
 have HQ:=Zpz hq
 clear hv hat hn hC hq
 go_enter Tryz.func139,Tryz.ntmps139
 have HE0:=Zpz ((Env.start w).push (pObj s t) rfl)
 go_wp2_with fail
 go_loopw [5] (fun i wr=>∃ k:Nat,i=.int .i64 k/\k<n/\Hid (∀ j,j<k->cR bs (j+1)<=q)/\Hid (Env w.heap.size w [(w.heap.size,pObj s t)] [] wr)) (fun i _=>n-(intOf i).toNat)
 case atStart=>exact⟨0,rfl,Za,fun j hj=>Za,HE0⟩
 case round=>
  obtain⟨k,rfl,hk,HK,HE⟩:=hrel
  clear HE0
  obtain⟨m,hm⟩:∃ m,m=k+1:=⟨_,rfl⟩
  have e1:IntKind.i64.wrap ((k:Int)+1)=(m:Int):=by rw[Zpm _ Za];omega
  have HM:=Zpz hm
  by_cases hlt:m<n
  ·have h1:(m:Int)<(n:Int):=Za
   have h0:(0:Int)<=(m:Int):=Za
   obtain⟨z,hz⟩:=ZpB (bAt bs m)
   have HFM:Hid (∀ V,Env w.heap.size w [(w.heap.size,pObj s t)] [] V->V.cell? ⟨b,off+m*4,none⟩=some (.string z.1.1)/\V.cell? ⟨b,off+m*4+1,none⟩=some (.string z.1.2)/\V.cell? ⟨b,off+m*4+2,none⟩=some (.string z.2.1)/\V.cell? ⟨b,off+m*4+3,none⟩=some (.string z.2.2)):=fun V hV=>by rw[<- hz];exact HAT.out V hV.base m Za
   have pc:=(HC.out.isC (i:=m) (by rw[HL.out];exact hlt)).1
   rw[hz] at pc
   obtain⟨⟨s1,t1⟩,u1,v1⟩:=z
   dsimp only at pc HFM
   obtain⟨g,hg⟩:=ZpB (sgnR (cR bs m) q)
   have PC:=Zpz pc
   have HG:=Zpz hg
   clear hz pc hg hm
   go_wp2_with fail
   refine ZY [(true,0),(true,1),(true,2),(true,3),(true,4),(true,5),(true,6),(true,7),(true,8),(true,9),(true,10),(true,11),(true,12),(false,13),(true,14),(true,15)] (Env w.heap.size w [(w.heap.size,pObj s t)] []) (fun _=>false)
    Zb Zb Zb (fun _ _=>rfl) Zi HE.out.drew ?_
   iterate 13
    refine Zr _ rfl rfl (fun w' hS=>by have c0:=hS.cell 0 0 (v:=.string s) rfl rfl;have c1:=hS.cell 0 1 (v:=.string t) rfl rfl;obtain⟨a0,a1,a2,a3⟩:=HFM.out w' hS;exact Ze) ?_
    simp only[Act.put,Zl]
   have HE1:=Zpz HE.out.drew
   refine Zt rfl rfl fun K hK=>?_
   go_simp
   go_at_call 56
   have HEC:=HE1
   refine(ZbY PC.out HQ.out HG.out _).mono ?_
   rintro e w2 ⟨rfl,hb⟩
   have HE2:=Zpz (HE1.out.step hb)
   refine hK _ _ (.inr HE2.out) ?_
   clear hK K hb HEC
   iterate 2
    refine Zr _ rfl rfl (fun w' hS=>Ze) ?_
    simp only[Act.put,Zl]
   refine ZI ?_
   clear HE HE1
   by_cases hle:g<=0
   ·have HK2:Hid (∀ j,j<m->cR bs (j+1)<=q):=fun j hj=>by
     rcases ZoR j k with h | h
     ·exact HK.out j h
     ·obtain rfl:j=k:=by have:=HM.out;omega
      rw[<- HM.out]
      exact Rat.not_lt.1 fun h=>by
       have:=Zby (Rat.not_le.2 h)
       rw[HG.out] at this
       omega
    have hm:=HM.out
    go_wp2
    go_roundw
    case rel=>exact⟨m,by go_num,Za,HK2,HE2⟩
    case measure=>exact Zj
   ·have HP:Hid (Zbf bs.length (cR bs) q k):=⟨by rw[HL.out];exact hk,HK.out,fun _=>by
     rw[<- HM.out]
     exact Rat.not_le.1 fun h=>hle (by rw[<- HG.out];exact Int.not_lt.1 (ZbA h))⟩
    go_wp2
    go_ret
    exact⟨k,rfl,HP.out,HE2.out.base⟩
  ·have h1:¬ (m:Int)<(n:Int):=Za
   have HP:Hid (Zbf bs.length (cR bs) q k):=⟨by rw[HL.out];exact hk,HK.out,fun h=>by rw[HL.out] at h;have:=HM.out;omega⟩
   clear hm
   go_wp2_with fail
   refine ZY [(true,0),(true,1),(true,2),(true,3),(true,4),(true,5),(true,6),(true,7),(true,8),(true,9),(true,10),(true,11),(true,12),(false,13),(true,14),(true,15)] (Env w.heap.size w [(w.heap.size,pObj s t)] []) (fun _=>false)
    Zb Zb Zb (fun _ _=>rfl) Zi HE.out.drew ?_
   iterate 6
    refine Zr _ rfl rfl (fun w' hS=>Ze) ?_
    simp only[Act.put,Zl]
   iterate 7
    refine ZR rfl rfl ?_
    simp only[Act.put,Zl]
   refine Z0 rfl rfl HE.out.drew ?_
   simp only[Act.put,Zl]
   iterate 1
    refine ZR rfl rfl ?_
    simp only[Act.put,Zl]
   iterate 1
    refine Zr _ rfl rfl (fun w' hS=>Ze) ?_
    simp only[Act.put,Zl]
   refine ZI ?_
   go_wp2
   go_ret
   exact⟨k,rfl,HP.out,HE.out.drew.base⟩
theorem ZjP {v:Value} {bs:List BB} {w:World} {s t:ByteArray} (hv:BL w v bs) (hz:LimB bs) (hs:s.size<=1000000) (ht:t.size<=1000000) :
  Calls Tryz.prog 114 #[v,pV s t] w (ZL (ZbB bs s t) w):=by
 obtain⟨n,hn⟩:=ZpB bs.length
 obtain⟨p,c,rfl⟩:∃ p c,v=.slice p n c:=by obtain⟨p,c,h,_⟩:=id hv;exact⟨_,_,by rw[<- hn];exact h⟩
 obtain⟨_,hcc,hnc⟩:=hv.len
 have HL:=Zpz hn
 have HV:=Zpz hv
 have HZ:=Zpz hz
 have HSZ:Hid (s.size<=1000000/\t.size<=1000000):=⟨hs,ht⟩
 clear hv hn hz hs ht
 go_enter Tryz.func114,Tryz.ntmps114
 have HE0:Hid (Env w.heap.size w [(w.heap.size+1,pObj Zpv Zpv),(w.heap.size,pObj s t)] [] ((w.alloc (pObj s t)).alloc (pObj Zpv Zpv))):=((Env.start w).push (pObj s t) rfl).push _ Zc
 go_wp2_with fail
 refine(Zgx (HV.out.after HE0.out.base ZpA) HZ.out).mono ?_
 rintro e w1 ⟨r,rfl,hr,hb⟩
 have HE1:=Zpz (HE0.out.step hb)
 have HR:=Zpz hr
 clear hb hr HE0
 cases r
 ·have HNO:Hid (¬ (CurveP bs/\Zw 300 (s,t)=true)):=fun h=>by have:=HR.out.2 h.1;cases this
  have HA:Hid (ZbB bs s t Zpv Zpv 2):=.inl ⟨HNO.out,rfl,rfl,rfl⟩
  have r0:=HE1.out.cell 0 0 rfl rfl
  have r1:=HE1.out.cell 0 1 rfl rfl
  have f0:=HE1.out.free 0 0 rfl
  have f1:=HE1.out.free 0 1 rfl
  go_wp2
  have HE9:=Zpz (HE1.out.fill (.string Zpv) (.string Zpv))
  have q0:=HE9.out.cell 0 0 (v:=.string Zpv) rfl rfl
  have q1:=HE9.out.cell 0 1 (v:=.string Zpv) rfl rfl
  exact ZoM (v:=.tuple #[Zpw Zpv Zpv,.int .i64 2]) (by simp[results,Tryz.f114,go_sem,q0,q1]) rfl ⟨Zpv,Zpv,2,rfl,HA.out,HE9.out.base⟩
 ·have HC:=Zpz (HR.out.1 rfl)
  clear HR
  have c0:=HE1.out.cell 1 0 (v:=.string s) rfl rfl
  have c1:=HE1.out.cell 1 1 (v:=.string t) rfl rfl
  go_wp2_with fail
  refine(Zl0 s t HSZ.out.1 HSZ.out.2 _).mono ?_
  rintro e w2 ⟨rfl,hb⟩
  have HE2:=Zpz (HE1.out.step hb)
  clear hb c0 c1 HE1
  cases hsm:Zw 300 (s,t)
  ·have HNO:Hid (¬ (CurveP bs/\Zw 300 (s,t)=true)):=fun h=>by rw[hsm] at h;cases h.2
   clear hsm
   have HA:Hid (ZbB bs s t Zpv Zpv 2):=.inl ⟨HNO.out,rfl,rfl,rfl⟩
   have r0:=HE2.out.cell 0 0 rfl rfl
   have r1:=HE2.out.cell 0 1 rfl rfl
   have f0:=HE2.out.free 0 0 rfl
   have f1:=HE2.out.free 0 1 rfl
   go_wp2
   have HE9:=Zpz (HE2.out.fill (.string Zpv) (.string Zpv))
   have q0:=HE9.out.cell 0 0 (v:=.string Zpv) rfl rfl
   have q1:=HE9.out.cell 0 1 (v:=.string Zpv) rfl rfl
   exact ZoM (v:=.tuple #[Zpw Zpv Zpv,.int .i64 2]) (by simp[results,Tryz.f114,go_sem,q0,q1]) rfl ⟨Zpv,Zpv,2,rfl,HA.out,HE9.out.base⟩
  ·obtain⟨isq,hz300⟩:=ZbF hsm
   have HSM:=Zpz hsm
   obtain⟨q,hq⟩:=ZpB (ratP s t)
   dsimp only at isq hz300
   rw[hq] at isq hz300
   have HRQ:=Zpz hq
   have IQ:=Zpz isq
   have ZQ:=Zpz hz300
   have c0:=HE2.out.cell 1 0 (v:=.string s) rfl rfl
   have c1:=HE2.out.cell 1 1 (v:=.string t) rfl rfl
   clear hsm isq hz300 hq
   go_wp2_with fail
   refine(Zkz (HV.out.after HE2.out.base ZpA) HC.out IQ.out).mono ?_
   rintro e w3 ⟨k,rfl,hp,hb⟩
   have HE3:=Zpz (HE2.out.step hb)
   have hkn:=hp.1
   rw[HL.out] at hkn
   have HP:=Zpz hp
   have hln:=HC.out.len
   rw[HL.out] at hln
   obtain⟨r,hr⟩:∃ r,n=r+1:=⟨n-1,Za⟩
   have e1:IntKind.i64.wrap ((n:Int)-1)=(r:Int):=by rw[Zpm _ Za];omega
   obtain⟨b,off,rfl,hbl,hat⟩:=HV.out.at HL.out Za
   have HAT:=Zpz hat
   have k0':(0:Int)<=(k:Int):=Za
   have k1':(k:Int)<(n:Int):=Za
   obtain⟨ic,_⟩:=HC.out.isC (i:=k) (by rw[HL.out];exact hkn)
   obtain⟨ih,_⟩:=HC.out.isH (i:=k) (by rw[HL.out];exact hkn)
   obtain⟨z,hz⟩:=ZpB (bAt bs k)
   rw[hz] at ic ih
   have HFK:Hid (∀ V,Below w.heap.size w V->V.cell? ⟨b,off+k*4,none⟩=some (.string z.1.1)/\V.cell? ⟨b,off+k*4+1,none⟩=some (.string z.1.2)/\V.cell? ⟨b,off+k*4+2,none⟩=some (.string z.2.1)/\V.cell? ⟨b,off+k*4+3,none⟩=some (.string z.2.2)):=fun V hV=>by rw[<- hz];exact hat V hV k hkn
   obtain⟨⟨s1,t1⟩,u1,v1⟩:=z
   dsimp only at HFK ic ih
   have IC:=Zpz ic
   have IH:=Zpz ih
   have HRN:=Zpz hr
   clear hb hp c0 c1 HE2 hat hz ic ih hr
   by_cases hkr:k=r
   ·have bk:((k:Int)==(r:Int))=true:=by rw[beq_iff_eq,hkr]
    have HA:Hid (ZbB bs s t u1 v1 0):=.inr ⟨⟨HC.out,HSM.out⟩,rfl,hR bs k,⟨k,by rw[HRQ.out];exact HP.out,by
     unfold lin slo
     rw[if_neg (by rw[HL.out,HRN.out,hkr];omega)]
     grind⟩,IH.out⟩
    obtain⟨a0,a1,a2,a3⟩:=HFK.out w3 HE3.out.base
    clear hkr
    have r0:=HE3.out.cell 0 0 rfl rfl
    have r1:=HE3.out.cell 0 1 rfl rfl
    have f0:=HE3.out.free 0 0 rfl
    have f1:=HE3.out.free 0 1 rfl
    go_wp2
    have HE9:=Zpz (HE3.out.fill (.string u1) (.string v1))
    have q0:=HE9.out.cell 0 0 (v:=.string u1) rfl rfl
    have q1:=HE9.out.cell 0 1 (v:=.string v1) rfl rfl
    exact ZoM (v:=.tuple #[Zpw u1 v1,.int .i64 0]) (by simp[results,Tryz.f114,go_sem,q0,q1]) rfl ⟨u1,v1,0,rfl,HA.out,HE9.out.base⟩
   ·have bk:((k:Int)==(r:Int))=false:=by rw[beq_eq_false_iff_ne];omega
    obtain⟨m,hm⟩:∃ m,m=k+1:=⟨_,rfl⟩
    have e2:IntKind.i64.wrap ((k:Int)+1)=(m:Int):=by rw[Zpm _ Za];omega
    have hmn:k+1<bs.length:=by have:=HL.out;have:=HRN.out;omega
    have m0':(0:Int)<=(m:Int):=Za
    have m1':(m:Int)<(n:Int):=by have:=HL.out;omega
    obtain⟨⟨x1,y1,f1⟩,⟨x2,y2,f2⟩,⟨x3,y3,f3⟩,⟨x4,y4,f4⟩,⟨x5,y5,f5⟩,⟨x6,y6,f6⟩,f7,f8⟩:=Ze5 HC.out IQ.out.nn ZQ.out HP.out hmn
    obtain⟨ic,_⟩:=HC.out.isC (i:=k+1) hmn
    obtain⟨ih,_⟩:=HC.out.isH (i:=k+1) hmn
    obtain⟨z,hz⟩:=ZpB (bAt bs (k+1))
    rw[hz] at ic ih
    have HFM:Hid (∀ V,Below w.heap.size w V->V.cell? ⟨b,off+m*4,none⟩=some (.string z.1.1)/\V.cell? ⟨b,off+m*4+1,none⟩=some (.string z.1.2)/\V.cell? ⟨b,off+m*4+2,none⟩=some (.string z.2.1)/\V.cell? ⟨b,off+m*4+3,none⟩=some (.string z.2.2)):=fun V hV=>by rw[<- hz,hm];exact HAT.out V hV (k+1) (by have:=HL.out;omega)
    obtain⟨⟨s2,t2⟩,u2,v2⟩:=z
    dsimp only at HFM ic ih
    have CT1:=Zpz (fun W=>Zhg IQ.out IC.out f4 rfl W)
    have CT2:=Zpz (fun W=>Ze8 IC.out IH.out ic ih f1 f2 f3 f8 W)
    have CT3:=Zpz (fun W=>Zho f3 f4 f5 rfl W)
    have CT4:=Zpz (fun W=>Zko IH.out f5 f6 f7.symm W)
    have HA:Hid (ZbB bs s t x6 y6 0):=.inr ⟨⟨HC.out,HSM.out⟩,rfl,_,⟨k,by rw[HRQ.out];exact HP.out,rfl⟩,by rw[HRQ.out];exact f6⟩
    clear hz hm hmn ic ih f1 f2 f3 f4 f5 f6 f7 f8 hkr HP HC HSM HRQ IQ ZQ IC IH HRN
    go_wp2_with fail
    refine Za5 10 8 [(0,11)] [(1,0),(1,1),(1,2),(1,3),(1,4),(1,5),(0,6),(1,7),(1,8),(0,9)] (fun _ g V=>Env w.heap.size w (Zc5 (pObj Zpv Zpv) [(w.heap.size+1,pObj Zpv Zpv),(w.heap.size,pObj s t)] g) [] V) (fun i=>i==11)
     Zb Zb (fun j hj=>by have h:11<j:=hj;simp;omega) Zi rfl rfl (fun _=>rfl) (fun a V K hK=>by go_simp;exact hK) (fun j V h=>h.push _ rfl) HE3.out.drew ?_
    iterate 6
     refine Z4 _ rfl (fun z=>rfl) (fun z j g w' hS=>by have hE:=hS.bareG;have c0:=hE.cell 1 0 (v:=.string s) rfl rfl;have c1:=hE.cell 1 1 (v:=.string t) rfl rfl;obtain⟨a0,a1,a2,a3⟩:=HFK.out _ hE.base;exact Zg) ?_
     simp only[Act.put,Zl]
    refine Z6 105 _ rfl (fun z=>rfl) (fun z w'=>Zh) (fun g V hS=>?_)
    refine(CT1.out _).mono ?_
    rintro e V' ⟨rfl,hb⟩
    refine .inl ⟨_,rfl,hS.step hb,?_⟩
    clear hb hS
    simp only[Act.put,Zl]
    iterate 2
     refine Z4 _ rfl (fun z=>rfl) (fun z j g w' hS=>Zg) ?_
     simp only[Act.put,Zl]
    refine Z6 164 _ rfl (fun z=>rfl) (fun z w'=>Zh) (fun g V hS=>?_)
    refine(Zde x4 y4 0 _).mono ?_
    rintro e V' ⟨rfl,hb⟩
    refine .inl ⟨_,rfl,hS.step hb,?_⟩
    clear hb hS
    simp only[Act.put,Zl]
    refine ZbH fun G V hS=>?_
    simp only[Act.put,Zl]
    have HE8:Hid (Env w.heap.size w [(G,pObj Zpv Zpv),(w.heap.size+1,pObj Zpv Zpv),(w.heap.size,pObj s t)] [] V):=hS
    have r0:=HE8.out.cell 0 0 rfl rfl
    have r1:=HE8.out.cell 0 1 rfl rfl
    have f0:=HE8.out.free 0 0 rfl
    have f1:=HE8.out.free 0 1 rfl
    refine ZB rfl rfl fun K hK=>?_
    go_simp
    have HE4:=Zpz (HE8.out.fill (.string x4) (.string y4))
    refine hK _ _ (.inl rfl) ?_
    clear hK K r0 r1 f0 f1 HE8 HE3 hS
    refine ZF ?_
    obtain⟨w4,hZ⟩:=ZpB ((V.setCell ⟨G,0,none⟩ (.string x4)).setCell ⟨G,1,none⟩ (.string y4))
    rw[hZ] at HE4 ⊢
    clear hZ
    go_wp2_with fail
    obtain⟨W,hW⟩:=ZpB w4.drew
    have HE5:Hid (Env w.heap.size w [(w.heap.size+1,pObj Zpv Zpv),(G,pObj x4 y4),(w.heap.size,pObj s t)] [] W):=by rw[<- hW];exact HE4.out.drew.only [1,0,2] _ rfl Zd
    refine ZY [(true,0),(true,1),(true,2),(true,3),(true,4),(true,5),(true,6),(true,7),(true,8),(true,9),(true,10),(true,11),(true,12),(true,13),(true,15),(false,14),(false,16),(true,17),(true,18),(false,19),(false,20),(true,21),(true,22),(false,23),(true,24)] (fun V=>∃ o,Env w.heap.size w [(w.heap.size+1,o),(G,pObj x4 y4),(w.heap.size,pObj s t)] [] V) (fun _=>false)
     Zb Zb Zb (fun _ _=>rfl) Zi ⟨_,by rw[hW];exact HE5.out⟩ ?_
    rw[hW]
    clear hW
    iterate 15
     refine Zr _ rfl rfl (fun w' hS=>by obtain⟨o,hS⟩:=hS;have c0:=hS.cell 1 0 (v:=.string x4) rfl rfl;have c1:=hS.cell 1 1 (v:=.string y4) rfl rfl;obtain⟨a0,a1,a2,a3⟩:=HFK.out w' hS.base;obtain⟨b0,b1,b2,b3⟩:=HFM.out w' hS.base;exact Ze) ?_
     simp only[Act.put,Zl]
    refine Zt rfl rfl fun K hK=>?_
    go_simp
    go_at_call 140
    have HEC:=HE5
    refine(CT2.out _).mono ?_
    rintro e w6 ⟨rfl,hb⟩
    have HE6:=Zpz (HE5.out.step hb)
    refine hK _ _ (.inr ⟨_,HE6.out⟩) ?_
    clear hK K hb HEC
    refine Zt rfl rfl fun K hK=>?_
    go_simp
    go_at_call 86
    have HEC:=HE6
    refine(CT3.out _).mono ?_
    rintro e w7 ⟨rfl,hb⟩
    have HE7:=Zpz (HE6.out.step hb)
    refine hK _ _ (.inr ⟨_,HE7.out⟩) ?_
    clear hK K hb HEC
    iterate 2
     refine Zr _ rfl rfl (fun w' hS=>Ze) ?_
     simp only[Act.put,Zl]
    refine Zt rfl rfl fun K hK=>?_
    go_simp
    go_at_call 164
    have HEC:=HE7
    refine(Zde x5 y5 0 _).mono ?_
    rintro e w8 ⟨rfl,hb⟩
    have HE8:=Zpz (HE7.out.step hb)
    refine hK _ _ (.inr ⟨_,HE8.out⟩) ?_
    clear hK K hb HEC
    refine Zt rfl rfl fun K hK=>?_
    go_simp
    go_at_call 88
    have HEC:=HE8
    refine(CT4.out _).mono ?_
    rintro e w9 ⟨rfl,hb⟩
    have HE9:=Zpz (HE8.out.step hb)
    refine hK _ _ (.inr ⟨_,HE9.out⟩) ?_
    clear hK K hb HEC
    iterate 2
     refine Zr _ rfl rfl (fun w' hS=>Ze) ?_
     simp only[Act.put,Zl]
    have r0:=HE9.out.cell 0 0 rfl rfl
    have r1:=HE9.out.cell 0 1 rfl rfl
    have f0:=HE9.out.free 0 0 rfl
    have f1:=HE9.out.free 0 1 rfl
    refine Zt rfl rfl fun K hK=>?_
    go_simp
    have HE10:=Zpz (HE9.out.fill (.string x6) (.string y6))
    refine hK _ _ (.inr ⟨_,HE10.out⟩) ?_
    clear hK K r0 r1 f0 f1
    iterate 1
     refine Zr _ rfl rfl (fun w' hS=>Ze) ?_
     simp only[Act.put,Zl]
    refine ZI ?_
    go_wp2
    have q0:=HE10.out.cell 0 0 (v:=.string x6) rfl rfl
    have q1:=HE10.out.cell 0 1 (v:=.string y6) rfl rfl
    exact ZoM (v:=.tuple #[Zpw x6 y6,.int .i64 0]) (by simp[results,Tryz.f114,go_sem,q0,q1]) rfl ⟨x6,y6,0,rfl,HA.out,HE10.out.base⟩
theorem SmK.bare {b:Nat} {n:Int} {w0 w:World} {ob:Obj} {bs:List (Nat×Obj)} {g:Option Nat} (h:SmK b n w0 (Zc5 ob bs g) w):SmK b n w0 bs w:=by
 cases g with
 | none=>exact h
 | some G=>exact h.tail
theorem ZlD {v:Value} {bs:List BB} {w:World} {q:Rat} {s t x y:ByteArray} (hv:BL w v bs) (hC:CurveP bs) (hq:IsP q s t) (hs:Sz 300 q) (hx:IsP (chF bs q) x y) :
  Calls Tryz.prog 114 #[v,pV s t] w (Z1 (.tuple #[pV x y,.int .i64 0]) w):=by
 refine(ZjP hv hC.limB hq.limit.1 hq.limit.2).mono ?_
 rintro e w' ⟨u,u2,n,rfl,h,hb⟩
 rcases h with ⟨h,_⟩ | ⟨_,rfl,r',h1,h2⟩
 ·exact Zpp ⟨hC,Zgz hq hs Zd⟩ h
 ·rw[hq.rat] at h1
  rw[<- Ze1 hC h1] at h2
  obtain⟨e1,e2⟩:=ZdK h2 hx rfl
  subst e1 e2
  exact⟨rfl,hb⟩
theorem Zoe (n:Int) (c q:Rat):c*zq n q=zq n (c*q):=by unfold zq;split<;>grind
theorem Zos (n:Int) (bs:List BB) (q:Rat):zq n (chF bs (zq n q))=zq n (chF bs q):=by unfold zq;split<;>rfl
theorem ZnB {n:Int} {q:Rat} {k:Nat} (h:Sz (k+1) q):Sz (k+1) (zq n q):=by
 unfold zq
 split
 ·exact h
 ·exact(show Sz 1 (0:Rat) from ⟨by decide +kernel,by decide +kernel⟩).mono Za
def VSt (f:Nat->Rat) (N k:Nat) (E:Int) (x y:ByteArray):Prop:=(E=0/\Zae f k/\IsP (sumF f k) x y)\/(E=4/\¬ Zae f N/\IsP 0 x y)
theorem VSt.start (f:Nat->Rat) (N:Nat):VSt f N 0 0 ⟨#[48]⟩ ⟨#[49]⟩:=.inl ⟨rfl,Zae.zero f,Zaf⟩
theorem VSt.is {f:Nat->Rat} {N k:Nat} {E:Int} {x y:ByteArray} (h:VSt f N k E x y):IsP (zq E (sumF f k)) x y:=by
 rcases h with ⟨rfl,_,h⟩ | ⟨rfl,_,h⟩
 ·exact h
 ·exact h
theorem VSt.step {f:Nat->Rat} {N k:Nat} {E:Int} {x y u v:ByteArray} {n:Int} (h:VSt f N k E x y) (hk:k<N) (hA:Ans (zq E (sumF f k)+zq E (f k)) u v n) :
  ∃ x6 y6 E6,(if E=0/\n=0 then pV u v else pV ⟨#[48]⟩ ⟨#[49]⟩)=pV x6 y6/\(if E=0 then n else E)=E6/\VSt f N (k+1) E6 x6 y6:=by
 rcases h with ⟨rfl,h1,h2⟩ | ⟨rfl,h1,h2⟩
 ·by_cases hn:n=0
  ·have hx:IsP (sumF f (k+1)) u v:=hA.zero hn
   subst hn
   exact⟨u,v,0,rfl,rfl,.inl ⟨rfl,h1.step hx.fits,hx⟩⟩
  ·rcases hA with ⟨_,h3⟩ | ⟨h3,_,_,rfl⟩
   ·exact Zpp h3 hn
   ·exact⟨_,_,4,rfl,rfl,.inr ⟨rfl,Zae.not h3 hk,Zaf⟩⟩
 ·exact⟨_,_,4,rfl,rfl,.inr ⟨rfl,h1,Zaf⟩⟩
theorem VSt.sum {f:Nat->Rat} {N:Nat} {E:Int} {x y:ByteArray} (h:VSt f N N E x y):SumE f N (if E=0 then x else Zpv) (if E=0 then y else Zpv) E:=by
 rcases h with ⟨rfl,h1,h2⟩ | ⟨rfl,h1,h2⟩
 ·exact .inl ⟨h1,h2,rfl⟩
 ·exact .inr ⟨h1,rfl,rfl,rfl⟩
theorem Zns {a b:Rat} {s t u v:ByteArray} (ha:IsP a s t) (hb:IsP b u v) (w:World) :
  Calls Tryz.prog 88 #[pV s t,pV u v] w (ZL (Ans (a+b)) w):=by
 refine(ZiF s t u v w ha.le.1 ha.le.2 hb.le.1 hb.le.2).mono ?_
 rintro e w' ⟨x,y,n,rfl,h,hB⟩
 rcases h with ⟨h,_⟩ | ⟨_,h⟩
 ·rw[ha.oks hb] at h;cases h
 ·rw[ha.rat,hb.rat] at h
  exact⟨x,y,n,rfl,h,hB⟩
def SmS (b:Nat) (f:Nat->Rat) (N:Nat) (w:World) (e:Ending) (w':World):Prop:=∃ x y E,VSt f N N E x y/\SmV b (pV x y) E w e w'
theorem Zld {t:TaskP} {p:List (List Int)} {b:Nat} {sv hv rv pv:Value} {pb po pc:Nat} {gq gp gc:Nat->Nat} {w:World} (hE:Zbq b (TaskIn t sv hv rv) w) (hP:PlanW p t.sites.length b pv pb po pc gq gp gc w) (hs:w.heap[b]?=some (smO 0)) (ok:TaskOk t) (inn:Zbz t p) :
  Calls Tryz.prog 75 #[.pointer (some ⟨b,0,none⟩),.agg #[sv,hv,rv],pv] w (SmS b (valF t p) t.sites.length w):=by
 obtain⟨sb,so,sc,hb,ho,hc,rb,ro,rk,cv,rq,rp,rc,rfl,rfl,rfl,k1,k2,k3,hA⟩:=hE.open ok
 obtain rfl:=hP.val
 obtain⟨N,hN⟩:=ZpB t.sites.length
 have HV:Hid (∀ i,i<N->∀ V,Keeps (NotM b) w V->V.cell? ⟨sb,so+i*3,none⟩=some (.string (eS t i).weight.1)/\V.cell? ⟨sb,so+i*3+1,none⟩=some (.string (eS t i).weight.2)/\V.cell? ⟨sb,so+i*3+2,none⟩=some (cv i)/\BL V (cv i) (eS t i).curve):=fun i hi V hV=>(hA V hV).site i (by rw[hN];exact hi)
 have HCV:Hid (∀ i,i<N->∀ V E,Keeps (NotM b) w V->V.heap[b]?=some (smO E)->Calls Tryz.prog 73 #[.pointer (some ⟨b,0,none⟩),.agg #[.slice (some ⟨sb,so,none⟩) N sc,.slice (some ⟨hb,ho,none⟩) t.hours.length hc,.slice (some ⟨rb,ro,none⟩) t.rates.length rk],.slice (some ⟨pb,po,none⟩) p.length pc,.int .i64 i] V (SmP b E (zq E (covR t p i)) V)):=fun i hi V E hV hs=>by
  rw[<- hN]
  exact Zlv (hE.keep hV) (hP.keep hV) hs ok inn (by rw[hN];exact hi)
 have HF:Hid (∀ i,i<N->IsP (wR t i) (eS t i).weight.1 (eS t i).weight.2/\(∃ x y,IsP (valF t p i) x y)/\CurveP (eS t i).curve/\∀ E,Sz 300 (zq E (covR t p i))/\∃ x y,IsP (chF (eS t i).curve (zq E (covR t p i))) x y):=fun i hi=>by
  have hi':i<t.sites.length:=by rw[hN];exact hi
  obtain⟨c1,c2,c3⟩:=Zc1 ok inn hi' ZpA
  obtain⟨d1,d2,d3,d4⟩:=ZdA ok hi' c3 c2 Zd
  obtain⟨w1,w2⟩:=Zdr ok hi'
  have n0:=Rat.mul_nonneg w1.nn d3
  refine⟨w1,Zaa n0 (Sz.mul w1.nn d3 w2 d2) Zd Zd,(ok.site i hi').2,fun E=>⟨ZnB (c2.mono Zd),?_⟩⟩
  exact(ZdA ok hi' (Zor c3) (ZnB (k:=96) c2) Zd).1
 have HSH:Hid (∀ i,i<N->∃ p n c,cv i=.slice p n c):=fun i hi=>by
  obtain⟨_,_,_,p,c,h2,_⟩:=HV.out i hi w (Keeps.refl _ _)
  exact⟨_,_,_,h2⟩
 have hN24:N<=24:=by rw[<- hN];exact ok.sites.2
 have hsc:N<=sc/\sc<=9223372036854775807:=by rw[<- hN];exact k1
 have HS:=Zpz hs
 obtain⟨T,hT⟩:=ZpB t.hours.length
 obtain⟨R,hR⟩:=ZpB t.rates.length
 obtain⟨P,hPL⟩:=ZpB p.length
 rw[hT,hR,hPL] at HCV
 rw[hN,hT,hR,hPL]
 clear hE hP hs ok inn hA k1 k2 k3 hN hT hR hPL
 obtain⟨G,hG⟩:=ZpB w.heap.size
 have HE0:Hid (SmK b 0 w [(G+1,pObj Zpv Zpv),(G,efO (.slice (some ⟨sb,so,none⟩) N sc) (.slice (some ⟨hb,ho,none⟩) T hc) (.slice (some ⟨rb,ro,none⟩) R rk))] ((w.alloc (efO (.slice (some ⟨sb,so,none⟩) N sc) (.slice (some ⟨hb,ho,none⟩) T hc) (.slice (some ⟨rb,ro,none⟩) R rk))).alloc (pObj Zpv Zpv))):=
  ((SmK.start HS.out).push _ hG.symm).push _ (by simp[hG])
 go_enter Tryz.func75,Tryz.ntmps75
 go_wp2_with fail
 refine(ZcC _).mono ?_
 rintro e w1 ⟨rfl,hb1⟩
 obtain⟨gx,hg⟩:=ZpB w1.heap.size
 have HE1:=Zpz ((HE0.out.step hb1).push (pObj ⟨#[48]⟩ ⟨#[49]⟩) hg.symm)
 obtain⟨w2,hw2⟩:=ZpB (w1.alloc (pObj ⟨#[48]⟩ ⟨#[49]⟩))
 rw[hw2] at HE1
 clear hb1 HE0
 go_wp2_with fail
 try rw[hg]
 try rw[hw2]
 try rw[hG]
 clear hg hw2 hG
 go_loopw [8] (fun v wr=>∃ (k:Nat) (E:Int) (x y:ByteArray),v=.int .i64 k/\k<=N/\Hid (VSt (valF t p) N k E x y)/\Hid (SmK b E w [(gx,pObj x y),(G+1,pObj Zpv Zpv),(G,efO (.slice (some ⟨sb,so,none⟩) N sc) (.slice (some ⟨hb,ho,none⟩) T hc) (.slice (some ⟨rb,ro,none⟩) R rk))] wr)) (fun v _=>N-(intOf v).toNat)
 case atStart=>exact⟨0,0,_,_,rfl,ZoY _,VSt.start _ _,HE1⟩
 case round=>
  obtain⟨k,E,x,y,rfl,hk,HVS,HE⟩:=hrel
  clear HE1
  have b0:=HE.out.cell 2 0 (v:=.slice (some ⟨sb,so,none⟩) N sc) rfl rfl
  by_cases hlt:k<N
  ·have HVK:=Zpz (HV.out k hlt)
   have HCK:=Zpz (HCV.out k hlt)
   obtain⟨hF1,⟨x8,y8,hx8⟩,hcu,hF2⟩:=HF.out k hlt
   obtain⟨hzc,xh,yh,hxh⟩:=hF2 E
   obtain⟨x8,y8,hx8⟩:=Znv (n:=E) ⟨x8,y8,hx8⟩
   obtain⟨pq,nq,cq,hcv⟩:=HSH.out k hlt
   obtain⟨⟨s1,t1⟩,hs1⟩:∃ z,(eS t k).weight=z:=⟨_,rfl⟩
   rw[hcv,hs1] at HVK
   rw[hs1] at hF1
   dsimp only at HVK hF1
   have HX8:=Zpz hx8
   have HWR:=Zpz hF1
   have HZC:=Zpz hzc
   have HXH:=Zpz hxh
   have HCU:=Zpz hcu
   have HIS:=Zpz HVS.out.is
   have i0':(0:Int)<=(k:Int):=Za
   have i1':(k:Int)<(N:Int):=Za
   clear hF1 hx8 hcu hF2 hzc hxh hcv hs1
   go_wp2_with fail
   clear b0
   refine Za5 16 9 [(0,17)] [(1,0),(1,1),(1,2),(1,3),(1,4),(1,5),(1,6),(1,7),(1,8),(1,9),(1,10),(0,11),(0,12),(1,13),(1,14),(0,15)] (fun _ g V=>SmK b E w (Zc5 (pObj Zpv Zpv) [(gx,pObj x y),(G+1,pObj Zpv Zpv),(G,efO (.slice (some ⟨sb,so,none⟩) N sc) (.slice (some ⟨hb,ho,none⟩) T hc) (.slice (some ⟨rb,ro,none⟩) R rk))] g) V) (fun i=>i==17)
    Zb Zb (fun j hj=>by have h:17<j:=hj;simp;omega) Zi rfl rfl (fun _=>rfl) (fun a V K hK=>by go_simp;exact hK) (fun j V h=>h.push _ rfl) HE.out.drew ?_
   iterate 11
    refine Z4 _ rfl (fun z=>rfl) (fun z j g w' hS=>by have hE:=hS.bare;have d0:=hE.cell 2 0 (v:=.slice (some ⟨sb,so,none⟩) N sc) rfl rfl;have d1:=hE.cell 2 1 (v:=.slice (some ⟨hb,ho,none⟩) T hc) rfl rfl;have d2:=hE.cell 2 2 (v:=.slice (some ⟨rb,ro,none⟩) R rk) rfl rfl;obtain⟨_,_,e2,_⟩:=HVK.out _ hE.base;exact Zg) ?_
    simp only[Act.put,Zl]
   refine Z6 73 _ rfl (fun z=>rfl) (fun z w'=>Zh) (fun g V hS=>?_)
   refine(HCK.out _ _ hS.bare.base hS.bare.sm).mono ?_
   rintro e V' ⟨xc,yc,hxc,rfl,hb⟩
   refine .inl ⟨_,rfl,hS.call hb,?_⟩
   clear hb hS
   simp only[Act.put,Zl]
   have HXC:=Zpz hxc
   clear hxc
   refine Z6 114 _ rfl (fun z=>rfl) (fun z w'=>Zh) (fun g V hS=>?_)
   refine(ZlD (HVK.out _ hS.bare.base).2.2.2 HCU.out HXC.out HZC.out HXH.out).mono ?_
   rintro e V' ⟨rfl,hb⟩
   refine .inl ⟨_,rfl,hS.step hb,?_⟩
   clear hb hS
   simp only[Act.put,Zl]
   iterate 2
    refine Z4 _ rfl (fun z=>rfl) (fun z j g w' hS=>Zg) ?_
    simp only[Act.put,Zl]
   refine Z6 84 _ rfl (fun z=>rfl) (fun z w'=>Zh) (fun g V hS=>?_)
   refine(Zie HXH.out hS.bare.sm).mono ?_
   rintro e V' ⟨x1,y1,hx,rfl,hb⟩
   have HX0:=Zpz hx
   refine .inl ⟨_,rfl,hS.call hb,?_⟩
   clear hb hS hx
   simp only[Act.put,Zl]
   have HX1:Hid (IsP (zq E (chF (eS t k).curve (covR t p k))) x1 y1):=by rw[<- Zos];exact HX0.out
   clear HX0
   refine ZbH fun g9 V9 hS=>?_
   simp only[Act.put,Zl]
   have HG8:Hid (SmK b E w ((g9,pObj Zpv Zpv)::[(gx,pObj x y),(G+1,pObj Zpv Zpv),(G,efO (.slice (some ⟨sb,so,none⟩) N sc) (.slice (some ⟨hb,ho,none⟩) T hc) (.slice (some ⟨rb,ro,none⟩) R rk))]) V9):=hS
   have r0:=HG8.out.cell 0 0 rfl rfl
   have r1:=HG8.out.cell 0 1 rfl rfl
   have f0:=HG8.out.free 0 0 rfl
   have f1:=HG8.out.free 0 1 rfl
   refine ZB rfl rfl fun K hK=>?_
   go_simp
   have HE9:=Zpz (HG8.out.fill (.string x1) (.string y1))
   refine hK _ _ (.inl rfl) ?_
   clear hK K r0 r1 f0 f1 HG8 hS
   refine ZF ?_
   obtain⟨Z9,hZ⟩:=ZpB ((V9.setCell ⟨g9,0,none⟩ (.string x1)).setCell ⟨g9,1,none⟩ (.string y1))
   rw[hZ] at HE9 ⊢
   clear hZ
   clear HE
   go_wp2_with fail
   refine ZP [(1,0),(1,1),(1,2),(1,3),(1,4),(1,5),(1,6),(1,7),(1,8),(1,9),(0,10),(1,11),(1,12),(0,13),(0,14),(1,15),(1,16),(0,17),(0,18)] (fun V=>∃ E,SmK b E w [(g9,pObj x1 y1),(gx,pObj x y),(G+1,pObj Zpv Zpv),(G,efO (.slice (some ⟨sb,so,none⟩) N sc) (.slice (some ⟨hb,ho,none⟩) T hc) (.slice (some ⟨rb,ro,none⟩) R rk))] V) (fun i=>i==18)
    Zb Zb (fun j hj=>by have h:19<=j:=hj;simp;omega) Zi ⟨_,HE9.out.drew⟩ ?_
   obtain⟨w4,hw4⟩:=ZpB Z9.drew
   have HE4:=Zpz HE9.out.drew
   rw[hw4] at HE4 ⊢
   clear hw4 HE9
   iterate 10
    refine Zx _ rfl rfl (fun w' hS=>by obtain⟨_,hS⟩:=hS;have c0:=hS.cell 0 0 (v:=.string x1) rfl rfl;have c1:=hS.cell 0 1 (v:=.string y1) rfl rfl;have c2:=hS.cell 1 0 (v:=.string x) rfl rfl;have c3:=hS.cell 1 1 (v:=.string y) rfl rfl;have d0:=hS.cell 3 0 (v:=.slice (some ⟨sb,so,none⟩) N sc) rfl rfl;obtain⟨e0,e1,_⟩:=HVK.out _ hS.base;exact Ze) ?_
    simp only[Act.put,Zl]
   refine Zz 86 _ rfl rfl Zf ?_
   have HEC:=HE4
   refine(Zho HWR.out HX1.out HX8.out (Zoe _ _ _) _).mono ?_
   rintro e w5 ⟨rfl,hb⟩
   have HE5:=Zpz (HEC.out.step hb)
   refine .inl ⟨_,rfl,⟨_,HE5.out⟩,?_⟩
   clear hb HEC
   simp only[Act.put,Zl]
   iterate 2
    refine Zx _ rfl rfl (fun w' hS=>Ze) ?_
    simp only[Act.put,Zl]
   refine Zz 84 _ rfl rfl Zf ?_
   have HEC:=HE5
   refine(Zie HX8.out HEC.out.sm).mono ?_
   rintro e w6 ⟨x7,y7,hx7,rfl,hb⟩
   have HE6:=Zpz (HEC.out.call hb)
   refine .inl ⟨_,rfl,⟨_,HE6.out⟩,?_⟩
   clear hb HEC
   simp only[Act.put,Zl]
   have HX7:Hid (IsP (zq E (valF t p k)) x7 y7):=by rw[<- Znt];exact hx7
   clear hx7
   refine Zz 88 _ rfl rfl Zf ?_
   have HEC:=HE6
   refine(Zns HIS.out HX7.out _).mono ?_
   rintro e w7 ⟨x9,y9,n9,rfl,hA9,hb⟩
   have HE7:=Zpz (HEC.out.step hb)
   refine .inl ⟨_,rfl,⟨_,HE7.out⟩,?_⟩
   clear hb HEC
   simp only[Act.put,Zl]
   obtain⟨x6,y6,E6,he1,he2,hvs⟩:=HVS.out.step hlt hA9
   have hdo:=Zkv x9 y9 n9 HE7.out.sm
   rw[he1,he2] at hdo
   have HVS6:=Zpz hvs
   have HDO:=Zpz hdo
   clear hA9 he1 he2 hvs hdo
   iterate 2
    refine Zx _ rfl rfl (fun w' hS=>Ze) ?_
    simp only[Act.put,Zl]
   refine Zz 84 _ rfl rfl Zf ?_
   have HEC:=HE7
   refine(HDO.out).mono ?_
   rintro e w8 ⟨rfl,hb⟩
   have HE8:=Zpz (HEC.out.call hb)
   refine .inl ⟨_,rfl,⟨_,HE8.out⟩,?_⟩
   clear hb HEC
   simp only[Act.put,Zl]
   have HE9:=Zpz (HE8.out.only [1,2,3] _ rfl Zd)
   have r0:=HE9.out.cell 0 0 rfl rfl
   have r1:=HE9.out.cell 0 1 rfl rfl
   have f0:=HE9.out.free 0 0 rfl
   have f1:=HE9.out.free 0 1 rfl
   refine ZB rfl rfl fun K hK=>?_
   go_simp
   have HE10:=Zpz (HE9.out.fill (.string x6) (.string y6))
   refine hK _ _ (.inl rfl) ?_
   clear hK K r0 r1 f0 f1
   refine ZF ?_
   clear HE4 HE5 HE6 HE7 HE8 HE9
   go_wp2
   go_roundw
   case rel=>exact⟨k+1,E6,x6,y6,by go_num,Za,HVS6,HE10⟩
   case measure=>exact Zj
  ·obtain rfl:k=N:=Za
   have HE1:=Zpz (HE.out.only [1,0] _ rfl Zd)
   have c0:=HE1.out.cell 1 0 (v:=.string x) rfl rfl
   have c1:=HE1.out.cell 1 1 (v:=.string y) rfl rfl
   have r0:=HE1.out.cell 0 0 rfl rfl
   have r1:=HE1.out.cell 0 1 rfl rfl
   have f0:=HE1.out.free 0 0 rfl
   have f1:=HE1.out.free 0 1 rfl
   go_wp2
   have HQ9:=Zpz (HE1.out.fill (.string x) (.string y))
   have q0:=HQ9.out.cell 0 0 (v:=.string x) rfl rfl
   have q1:=HQ9.out.cell 0 1 (v:=.string y) rfl rfl
   exact ZoM (v:=Zpw x y) (by simp[results,Tryz.f75,go_sem,q0,q1]) rfl ⟨x,y,E,HVS.out,rfl,HQ9.out.done⟩
end Go.Proofs.YtmpaflidennnoaaGreatDoor
