/- The parts RCurve, RPlace. -/
import Derived.Test.YtmpaflidennnoaaGreatDoorK002
set_option maxRecDepth 100000
set_option maxHeartbeats 8000000
set_option linter.unusedVariables false
set_option linter.unusedSimpArgs false
namespace Go.Proofs.YtmpaflidennnoaaGreatDoor
open Go.RowKit Go.Shelf
attribute [local go_sem ↓] Go.wp_at_zero Go.wp_at_succ
def ZnV (bs:List BB) (w:World) (e:Ending) (w':World):Prop:=∃ r:Bool,e=.returned (.bool r)/\(r=true<->CurveP bs)/\Below w.heap.size w w'
theorem ZbG {bs:List BB} (h:¬ CurveP bs):(false=true<->CurveP bs):=⟨fun h2=>(by cases h2),fun h2=>Zo4 h2 h⟩
theorem ZgH {v:Value} {bs:List BB} {w:World} (hv:BL w v bs) (hz:LimB bs):Calls Tryz.prog 113 #[v] w (ZnV bs w):=by
 obtain⟨n,hn⟩:=Zpg bs.length
 obtain⟨p,c,rfl⟩:∃ p c,v=.slice p n c:=by obtain⟨p,c,h,_⟩:=id hv;exact⟨_,_,by rw[<- hn];exact h⟩
 obtain⟨_,hcc,hnc⟩:=hv.len
 have HL:=Zpe hn
 have HZ:=Zpe hz
 by_cases h2:2<=n/\n<=64
 rotate_left
 ·have H:Hid ((decide ((2:Int)<=n) && decide ((n:Int)<=64))=false):=by show _=_;rw[Bool.and_eq_false_iff];simp only[decide_eq_false_iff_not];omega
  have HNT:Hid (¬ CurveP bs):=fun hc=>by have:=hc.len;rw[HL.out] at this;exact h2 this
  clear h2 hv hn hz
  go_enter Tryz.func113,Tryz.ntmps113
  have HE0:=Zpe (Env.start w).drew
  go_wp2_with fail
  refine Z0 [(true,0),(true,1),(false,2),(true,3),(true,4),(true,5),(true,6),(true,7),(true,8),(false,9),(true,10),(true,11),(true,12),(true,13),(true,14),(true,15),(true,16),(false,17),(true,18),(true,19)] (Env w.heap.size w [] []) (fun _=>false)
   Zb Zb Zb (fun _ _=>rfl) Zi HE0.out ?_
  iterate 2
   refine Zr _ rfl rfl (fun w' hS=>Ze) ?_
   simp only[Act.put,Zl]
  refine Zt rfl rfl fun K hK=>?_
  go_simp
  go_at_call 161
  have HEC:=HE0
  refine(Zkd _ 2 64 _).mono ?_
  rintro e w1 ⟨rfl,hb⟩
  have HE1:=Zpe (HE0.out.step hb)
  refine hK _ _ (.inr HE1.out) ?_
  clear hK K hb HEC
  rw[H.out]
  iterate 2
   refine Zr _ rfl rfl (fun w' hS=>Ze) ?_
   simp only[Act.put,Zl]
  iterate 4
   refine ZR rfl rfl ?_
   simp only[Act.put,Zl]
  refine Z4 rfl rfl HE1.out ?_
  simp only[Act.put,Zl]
  iterate 1
   refine ZR rfl rfl ?_
   simp only[Act.put,Zl]
  iterate 2
   refine Zr _ rfl rfl (fun w' hS=>Ze) ?_
   simp only[Act.put,Zl]
  iterate 4
   refine ZR rfl rfl ?_
   simp only[Act.put,Zl]
  refine Z4 rfl rfl HE1.out ?_
  simp only[Act.put,Zl]
  iterate 1
   refine ZR rfl rfl ?_
   simp only[Act.put,Zl]
  iterate 1
   refine Zr _ rfl rfl (fun w' hS=>Ze) ?_
   simp only[Act.put,Zl]
  refine ZJ ?_
  go_wp2
  go_ret
  exact⟨false,rfl,ZbG HNT.out,HE1.out.base⟩
 have H:Hid ((decide ((2:Int)<=n) && decide ((n:Int)<=64))=true):=by show _=_;simp;omega
 obtain⟨b,off,rfl,hbl,hat⟩:=hv.at hn Za
 have HAT:=Zpe hat
 have hfst:=fun V hV=>hat V hV 0 Za
 simp only[Nat.zero_mul,Nat.add_zero] at hfst
 obtain⟨q,hq⟩:=Zpg (bAt bs 0)
 rw[hq] at hfst
 have HQ0:=Zpe hq
 obtain⟨⟨s,t⟩,u,v⟩:=q
 dsimp only at hfst
 have HF:=Zpe hfst
 have i1':(0:Int)<(n:Int):=Za
 have H2:=Zpe h2
 clear hv hat hfst hq hn hz h2
 go_enter Tryz.func113,Tryz.ntmps113
 have HE0:=Zpe (Env.start w).drew
 go_wp2_with fail
 refine Z0 [(true,0),(true,1),(false,2),(true,3),(true,4),(true,5),(true,6),(true,7),(true,8),(false,9),(true,10),(true,11),(true,12),(true,13),(true,14),(true,15),(true,16),(false,17),(true,18),(true,19)] (Env w.heap.size w [] []) (fun _=>false)
  Zb Zb Zb (fun _ _=>rfl) Zi HE0.out ?_
 iterate 2
  refine Zr _ rfl rfl (fun w' hS=>Ze) ?_
  simp only[Act.put,Zl]
 refine Zt rfl rfl fun K hK=>?_
 go_simp
 go_at_call 161
 have HEC:=HE0
 refine(Zkd _ 2 64 _).mono ?_
 rintro e w1 ⟨rfl,hb⟩
 have HE1:=Zpe (HE0.out.step hb)
 refine hK _ _ (.inr HE1.out) ?_
 clear hK K hb HEC
 rw[H.out]
 iterate 6
  refine Zr _ rfl rfl (fun w' hS=>by obtain⟨a0,a1,a2,a3⟩:=HF.out w' hS.base;exact Ze) ?_
  simp only[Act.put,Zl]
 refine Zt rfl rfl fun K hK=>?_
 go_simp
 go_at_call 53
 have HEC:=HE1
 refine(Zcw _).mono ?_
 rintro e w2 ⟨rfl,hb⟩
 have HE2:=Zpe (HE1.out.step hb)
 refine hK _ _ (.inr HE2.out) ?_
 clear hK K hb HEC
 by_cases hs1:s.toList=[48]/\t.toList=[49]
 rotate_left
 ·have hne:Hid (s.toList=[48]->¬ t.toList=[49]):=fun h1 h3=>hs1 ⟨h1,h3⟩
  have HNT:Hid (¬ CurveP bs):=fun hc=>by
   have:=hc.first
   rw[HQ0.out] at this
   simp only[Zcc,Prod.mk.injEq] at this
   obtain⟨⟨rfl,rfl⟩,_⟩:=this
   exact hs1 ⟨by decide +kernel,by decide +kernel⟩
  clear hs1
  refine Zr (.bool true) rfl rfl (fun w' hS=>by skip;go_simp;exact hne.out) ?_
  simp only[Act.put,Zl]
  iterate 2
   refine Zr _ rfl rfl (fun w' hS=>Ze) ?_
   simp only[Act.put,Zl]
  iterate 4
   refine ZR rfl rfl ?_
   simp only[Act.put,Zl]
  refine Z4 rfl rfl HE2.out ?_
  simp only[Act.put,Zl]
  iterate 1
   refine ZR rfl rfl ?_
   simp only[Act.put,Zl]
  iterate 1
   refine Zr _ rfl rfl (fun w' hS=>Ze) ?_
   simp only[Act.put,Zl]
  refine ZJ ?_
  go_wp2
  go_ret
  exact⟨false,rfl,ZbG HNT.out,HE2.out.base⟩
 have hb1:(s.toList==[48])=true:=by rw[beq_iff_eq];exact hs1.1
 have hb2:(t.toList==[49])=true:=by rw[beq_iff_eq];exact hs1.2
 refine Zr (.bool false) rfl rfl (fun w' hS=>by skip;go_simp;first|done|simp[hs1.1,hs1.2]) ?_
 simp only[Act.put,Zl]
 have HS1:=Zpe hs1
 clear hs1 hb1 hb2
 iterate 6
  refine Zr _ rfl rfl (fun w' hS=>by obtain⟨a0,a1,a2,a3⟩:=HF.out w' hS.base;exact Ze) ?_
  simp only[Act.put,Zl]
 refine Zt rfl rfl fun K hK=>?_
 go_simp
 go_at_call 53
 have HEC:=HE2
 refine(Zcw _).mono ?_
 rintro e w3 ⟨rfl,hb⟩
 have HE3:=Zpe (HE2.out.step hb)
 refine hK _ _ (.inr HE3.out) ?_
 clear hK K hb HEC
 by_cases hs2:u.toList=[48]/\v.toList=[49]
 rotate_left
 ·have hne:Hid (u.toList=[48]->¬ v.toList=[49]):=fun h1 h3=>hs2 ⟨h1,h3⟩
  have HNT:Hid (¬ CurveP bs):=fun hc=>by
   have:=hc.first
   rw[HQ0.out] at this
   simp only[Zcc,Prod.mk.injEq] at this
   obtain⟨_,rfl,rfl⟩:=this
   exact hs2 ⟨by decide +kernel,by decide +kernel⟩
  clear hs2
  refine Zr (.bool true) rfl rfl (fun w' hS=>by skip;go_simp;exact hne.out) ?_
  simp only[Act.put,Zl]
  iterate 1
   refine Zr _ rfl rfl (fun w' hS=>Ze) ?_
   simp only[Act.put,Zl]
  refine ZJ ?_
  go_wp2
  go_ret
  exact⟨false,rfl,ZbG HNT.out,HE3.out.base⟩
 have HF0:Hid (bAt bs 0=Zcc):=by
  rw[HQ0.out,Zd2 HS1.out.1,Zd2 HS1.out.2,Zd2 hs2.1,Zd2 hs2.2]
  first | done | rfl
 refine Zr (.bool false) rfl rfl (fun w' hS=>by skip;go_simp;first|done|simp[hs2.1,hs2.2]) ?_
 simp only[Act.put,Zl]
 clear hs2 HS1 HQ0 HF
 iterate 1
  refine Zr _ rfl rfl (fun w' hS=>Ze) ?_
  simp only[Act.put,Zl]
 refine ZJ ?_
 clear HE0 HE1 HE2
 go_wp2_with fail
 go_loopw [3] (fun i wr=>∃ k:Nat,i=.int .i64 k/\k<=n/\Hid (UptoC bs k)/\Hid (Env w.heap.size w [] [] wr)) (fun i _=>n-(intOf i).toNat)
 case atStart=>exact⟨0,rfl,ZoD _,UptoC.zero bs,HE3⟩
 case round=>
  obtain⟨k,rfl,hk,HU,HE⟩:=hrel
  clear HE3
  by_cases hlt:k<n
  ·obtain⟨a0,a1,a2,a3⟩:=HAT.out wr HE.out.base k hlt
   obtain⟨q,hq⟩:=Zpg (bAt bs k)
   have HZZ:Hid ((q.1.1.size<=1000000/\q.1.2.size<=1000000)/\q.2.1.size<=1000000/\q.2.2.size<=1000000):=by rw[<- hq];exact HZ.out _ (ZjW (by rw[HL.out];exact hlt))
   rw[hq] at a0 a1 a2 a3
   have HQ:=Zpe hq
   have HFK:Hid (∀ V,Env w.heap.size w [] [] V->V.cell? ⟨b,off+k*4,none⟩=some (.string q.1.1)/\V.cell? ⟨b,off+k*4+1,none⟩=some (.string q.1.2)/\V.cell? ⟨b,off+k*4+2,none⟩=some (.string q.2.1)/\V.cell? ⟨b,off+k*4+3,none⟩=some (.string q.2.2)):=fun V hV=>by rw[<- hq];exact HAT.out V hV.base k hlt
   obtain⟨⟨s,t⟩,u,v⟩:=q
   dsimp only at a0 a1 a2 a3 HZZ HFK
   have i0':(0:Int)<=(k:Int):=Za
   have i2':(k:Int)<(n:Int):=Za
   clear hq
   go_wp2_with fail
   refine(ZgL s t HZZ.out.1.1 HZZ.out.1.2 _).mono ?_
   rintro e w1 ⟨rfl,hb⟩
   have HE1:=Zpe (HE.out.step hb)
   obtain⟨a0,a1,a2,a3⟩:=HFK.out w1 HE1.out
   clear hb
   go_wp2_with fail
   refine(ZgL u v HZZ.out.2.1 HZZ.out.2.2 _).mono ?_
   rintro e w2 ⟨rfl,hb⟩
   have HE2:=Zpe (HE1.out.step hb)
   clear hb a0 a1 a2 a3
   have HE2':=Zpe HE2.out.drew
   cases hm1:Zw 18 (s,t)
   ·have HNT:Hid (¬ CurveP bs):=Zi0 (by rw[HL.out];exact hlt) (.inl (by rw[HQ.out];exact hm1))
    clear hm1
    go_wp2_with fail
    refine Z0 [(true,0),(true,1),(true,2),(true,3),(true,4),(true,5),(true,6),(true,7),(true,8),(true,9),(true,10),(true,11),(false,12),(false,13),(true,14),(true,15)] (Env w.heap.size w [] []) (fun _=>false)
     Zb Zb Zb (fun _ _=>rfl) Zi HE2.out.drew ?_
    iterate 3
     refine Zr _ rfl rfl (fun w' hS=>Ze) ?_
     simp only[Act.put,Zl]
    iterate 2
     refine ZR rfl rfl ?_
     simp only[Act.put,Zl]
    iterate 2
     refine Zr _ rfl rfl (fun w' hS=>Ze) ?_
     simp only[Act.put,Zl]
    iterate 5
     refine ZR rfl rfl ?_
     simp only[Act.put,Zl]
    refine Z4 rfl rfl HE2.out.drew ?_
    simp only[Act.put,Zl]
    refine Z4 rfl rfl HE2.out.drew ?_
    simp only[Act.put,Zl]
    iterate 1
     refine ZR rfl rfl ?_
     simp only[Act.put,Zl]
    iterate 1
     refine Zr _ rfl rfl (fun w' hS=>Ze) ?_
     simp only[Act.put,Zl]
    refine ZJ ?_
    go_wp2
    go_ret
    exact⟨false,rfl,ZbG HNT.out,HE2'.out.base⟩
   ·cases hm2:Zw 18 (u,v)
    ·have HNT:Hid (¬ CurveP bs):=Zi0 (by rw[HL.out];exact hlt) (.inr (by rw[HQ.out];exact hm2))
     clear hm1 hm2
     go_wp2_with fail
     refine Z0 [(true,0),(true,1),(true,2),(true,3),(true,4),(true,5),(true,6),(true,7),(true,8),(true,9),(true,10),(true,11),(false,12),(false,13),(true,14),(true,15)] (Env w.heap.size w [] []) (fun _=>false)
      Zb Zb Zb (fun _ _=>rfl) Zi HE2.out.drew ?_
     iterate 7
      refine Zr _ rfl rfl (fun w' hS=>Ze) ?_
      simp only[Act.put,Zl]
     iterate 5
      refine ZR rfl rfl ?_
      simp only[Act.put,Zl]
     refine Z4 rfl rfl HE2.out.drew ?_
     simp only[Act.put,Zl]
     refine Z4 rfl rfl HE2.out.drew ?_
     simp only[Act.put,Zl]
     iterate 1
      refine ZR rfl rfl ?_
      simp only[Act.put,Zl]
     iterate 1
      refine Zr _ rfl rfl (fun w' hS=>Ze) ?_
      simp only[Act.put,Zl]
     refine ZJ ?_
     go_wp2
     go_ret
     exact⟨false,rfl,ZbG HNT.out,HE2'.out.base⟩
    ·obtain⟨pc,zc⟩:=ZcX hm1
     obtain⟨ph,zh⟩:=ZcX hm2
     have HSM:Hid (Zw 18 (bAt bs k).1=true/\Zw 18 (bAt bs k).2=true):=by rw[HQ.out];exact⟨hm1,hm2⟩
     have ec:cR bs k=ratP s t:=by unfold cR;rw[HQ.out]
     have eh:hR bs k=ratP u v:=by unfold hR;rw[HQ.out]
     dsimp only at pc zc ph zh
     rw[<- ec] at pc zc
     rw[<- eh] at ph zh
     obtain⟨g0,hg0⟩:=Zpg (sgnR (hR bs k) 1)
     have HG0:=Zpe hg0
     have PC:=Zpe pc
     have ZC:=Zpe zc
     have PH:=Zpe ph
     have ZH:=Zpe zh
     clear hm1 hm2 ec eh pc zc ph zh hg0
     by_cases htop:(0:Int)<g0
     ·have HNT:Hid (¬ CurveP bs):=ZnS (by rw[HL.out];exact hlt) (fun h=>by have:=ZbZ h;rw[HG0.out] at this;exact this htop)
      go_wp2_with fail
      refine Z0 [(true,0),(true,1),(true,2),(true,3),(true,4),(true,5),(true,6),(true,7),(true,8),(true,9),(true,10),(true,11),(false,12),(false,13),(true,14),(true,15)] (Env w.heap.size w [] []) (fun _=>false)
       Zb Zb Zb (fun _ _=>rfl) Zi HE2.out.drew ?_
      iterate 12
       refine Zr _ rfl rfl (fun w' hS=>by obtain⟨a0,a1,a2,a3⟩:=HFK.out w' hS;exact Ze) ?_
       simp only[Act.put,Zl]
      refine Zt rfl rfl fun K hK=>?_
      go_simp
      go_at_call 163
      have HEC:=HE2'
      refine(ZiQ _).mono ?_
      rintro e w3 ⟨rfl,hb⟩
      have HE3:=Zpe (HE2'.out.step hb)
      refine hK _ _ (.inr HE3.out) ?_
      clear hK K hb HEC
      refine Zt rfl rfl fun K hK=>?_
      go_simp
      go_at_call 56
      have HEC:=HE3
      refine(Zb6 PH.out Zfx HG0.out _).mono ?_
      rintro e w4 ⟨rfl,hb⟩
      have HE4:=Zpe (HE3.out.step hb)
      refine hK _ _ (.inr HE4.out) ?_
      clear hK K hb HEC
      iterate 2
       refine Zr _ rfl rfl (fun w' hS=>Ze) ?_
       simp only[Act.put,Zl]
      refine ZJ ?_
      go_wp2
      go_ret
      exact⟨false,rfl,ZbG HNT.out,HE4.out.base⟩
     ·have HTOP:Hid (hR bs k<=1):=Rat.not_lt.1 fun h=>htop (by rw[<- HG0.out];exact Zb2 (Rat.not_le.2 h))
      go_wp2_with fail
      refine Z0 [(true,0),(true,1),(true,2),(true,3),(true,4),(true,5),(true,6),(true,7),(true,8),(true,9),(true,10),(true,11),(false,12),(false,13),(true,14),(true,15)] (Env w.heap.size w [] []) (fun _=>false)
       Zb Zb Zb (fun _ _=>rfl) Zi HE2.out.drew ?_
      iterate 12
       refine Zr _ rfl rfl (fun w' hS=>by obtain⟨a0,a1,a2,a3⟩:=HFK.out w' hS;exact Ze) ?_
       simp only[Act.put,Zl]
      refine Zt rfl rfl fun K hK=>?_
      go_simp
      go_at_call 163
      have HEC:=HE2'
      refine(ZiQ _).mono ?_
      rintro e w3 ⟨rfl,hb⟩
      have HE3:=Zpe (HE2'.out.step hb)
      refine hK _ _ (.inr HE3.out) ?_
      clear hK K hb HEC
      refine Zt rfl rfl fun K hK=>?_
      go_simp
      go_at_call 56
      have HEC:=HE3
      refine(Zb6 PH.out Zfx HG0.out _).mono ?_
      rintro e w4 ⟨rfl,hb⟩
      have HE4:=Zpe (HE3.out.step hb)
      refine hK _ _ (.inr HE4.out) ?_
      clear hK K hb HEC
      iterate 2
       refine Zr _ rfl rfl (fun w' hS=>Ze) ?_
       simp only[Act.put,Zl]
      refine ZJ ?_
      go_wp2_with fail
      clear HE HE1 HE2 HE2' HE3 htop HG0
      rcases ZoF k with hk0 | hk0
      ·have hnk:¬ (0:Int)<(k:Int):=Za
       have hnk1:¬ (1:Int)<(k:Int):=Za
       refine Z0 [(true,0),(true,1),(true,2),(true,3),(true,4),(true,5),(true,6),(true,7),(true,8),(true,9),(true,10),(true,11),(true,12),(true,13),(false,14),(true,15),(true,16),(true,17),(true,18),(true,19),(true,20),(true,21),(true,22),(true,23),(true,24),(true,25),(true,26),(true,27),(false,28),(true,29),(true,30),(true,31)] (Env w.heap.size w [] []) (fun _=>false)
        Zb Zb Zb (fun _ _=>rfl) Zi HE4.out.drew ?_
       iterate 3
        refine Zr _ rfl rfl (fun w' hS=>Ze) ?_
        simp only[Act.put,Zl]
       iterate 11
        refine ZR rfl rfl ?_
        simp only[Act.put,Zl]
       refine Z4 rfl rfl HE4.out.drew ?_
       simp only[Act.put,Zl]
       iterate 13
        refine ZR rfl rfl ?_
        simp only[Act.put,Zl]
       refine Z4 rfl rfl HE4.out.drew ?_
       simp only[Act.put,Zl]
       iterate 2
        refine ZR rfl rfl ?_
        simp only[Act.put,Zl]
       iterate 1
        refine Zr _ rfl rfl (fun w' hS=>Ze) ?_
        simp only[Act.put,Zl]
       refine ZJ ?_
       go_wp2_with fail
       refine Z0 [(true,0),(true,1),(true,2),(true,3),(true,4),(true,5),(true,6),(true,7),(true,8),(true,9),(true,10),(true,11),(true,13),(true,14),(true,15),(true,16),(true,17),(true,18),(true,19),(true,20),(true,21),(true,22),(false,12),(false,23),(false,24),(true,25),(true,26)] (Env w.heap.size w [] []) (fun _=>false)
        Zb Zb Zb (fun _ _=>rfl) Zi HE4.out.drew.drew ?_
       iterate 1
        refine Zr _ rfl rfl (fun w' hS=>Ze) ?_
        simp only[Act.put,Zl]
       refine Zr (.bool false) rfl rfl (fun w' hS=>by skip;go_simp;first|done|rfl|simp[hnk1]) ?_
       simp only[Act.put,Zl]
       iterate 1
        refine Zr _ rfl rfl (fun w' hS=>Ze) ?_
        simp only[Act.put,Zl]
       iterate 19
        refine ZR rfl rfl ?_
        simp only[Act.put,Zl]
       refine Z4 rfl rfl HE4.out.drew.drew ?_
       simp only[Act.put,Zl]
       refine Z4 rfl rfl HE4.out.drew.drew ?_
       simp only[Act.put,Zl]
       refine Z4 rfl rfl HE4.out.drew.drew ?_
       simp only[Act.put,Zl]
       iterate 1
        refine ZR rfl rfl ?_
        simp only[Act.put,Zl]
       iterate 1
        refine Zr _ rfl rfl (fun w' hS=>Ze) ?_
        simp only[Act.put,Zl]
       refine ZJ ?_
       have HU2:Hid (UptoC bs (k+1)):=HU.out.step HSM.out HTOP.out (fun i hi=>Za) (fun i hi=>Za)
       have HE5:=Zpe HE4.out.drew.drew
       clear hk0
       go_wp2
       go_roundw
       case rel=>exact⟨k+1,by go_num,Za,HU2,HE5⟩
       case measure=>exact Zj
      ·obtain⟨j,hj⟩:∃ j,k=j+1:=⟨k-1,Za⟩
       have e1:IntKind.i64.wrap ((k:Int)-1)=(j:Int):=by rw[Zo1 _ Za];omega
       obtain⟨q,hq⟩:=Zpg (bAt bs j)
       have HFJ:Hid (∀ V,Env w.heap.size w [] [] V->V.cell? ⟨b,off+j*4,none⟩=some (.string q.1.1)/\V.cell? ⟨b,off+j*4+1,none⟩=some (.string q.1.2)/\V.cell? ⟨b,off+j*4+2,none⟩=some (.string q.2.1)/\V.cell? ⟨b,off+j*4+3,none⟩=some (.string q.2.2)):=fun V hV=>by rw[<- hq];exact HAT.out V hV.base j Za
       obtain⟨sm1,sm2⟩:=HU.out.small j Za
       obtain⟨pc,zc⟩:=ZcX sm1
       obtain⟨ph,zh⟩:=ZcX sm2
       have PCJ:Hid (IsP (cR bs j) q.1.1 q.1.2/\Sz 18 (cR bs j)):=by rw[<- hq];exact⟨pc,zc⟩
       have PHJ:Hid (IsP (hR bs j) q.2.1 q.2.2/\Sz 18 (hR bs j)):=by rw[<- hq];exact⟨ph,zh⟩
       obtain⟨⟨s1,t1⟩,u1,v1⟩:=q
       dsimp only at HFJ PCJ PHJ
       have hp1:(0:Int)<(k:Int):=Za
       have j0':(0:Int)<=(j:Int):=Za
       have j1':(j:Int)<(n:Int):=Za
       have HJ:=Zpe hj
       obtain⟨m1,hm1⟩:=Zpg (sgnR (cR bs k) (cR bs j))
       obtain⟨m2,hm2⟩:=Zpg (sgnR (hR bs k) (hR bs j))
       have HM1:=Zpe hm1
       have HM2:=Zpe hm2
       clear hq sm1 sm2 pc zc ph zh hj hm1 hm2
       have HE4':=Zpe HE4.out.drew
       by_cases hup1:m1<=0
       ·have HNT:Hid (¬ CurveP bs):=Znk (i:=j) (by rw[HL.out,<- HJ.out];exact hlt) fun h=>by
         rw[<- HJ.out] at h
         have:=Zb2 (a:=cR bs k) (b:=cR bs j) (Rat.not_le.2 h.1)
         rw[HM1.out] at this
         omega
        refine Z0 [(true,0),(true,1),(true,2),(true,3),(true,4),(true,5),(true,6),(true,7),(true,8),(true,9),(true,10),(true,11),(true,12),(true,13),(false,14),(true,15),(true,16),(true,17),(true,18),(true,19),(true,20),(true,21),(true,22),(true,23),(true,24),(true,25),(true,26),(true,27),(false,28),(true,29),(true,30),(true,31)] (Env w.heap.size w [] []) (fun _=>false)
         Zb Zb Zb (fun _ _=>rfl) Zi HE4.out.drew ?_
        iterate 14
         refine Zr _ rfl rfl (fun w' hS=>by obtain⟨a0,a1,a2,a3⟩:=HFK.out w' hS;obtain⟨b0,b1,b2,b3⟩:=HFJ.out w' hS;exact Ze) ?_
         simp only[Act.put,Zl]
        refine Zt rfl rfl fun K hK=>?_
        go_simp
        go_at_call 56
        have HEC:=HE4'
        refine(Zb6 PC.out PCJ.out.1 HM1.out _).mono ?_
        rintro e w5 ⟨rfl,hb⟩
        have HE5:=Zpe (HE4'.out.step hb)
        refine hK _ _ (.inr HE5.out) ?_
        clear hK K hb HEC
        iterate 2
         refine Zr _ rfl rfl (fun w' hS=>Ze) ?_
         simp only[Act.put,Zl]
        iterate 11
         refine ZR rfl rfl ?_
         simp only[Act.put,Zl]
        refine Z4 rfl rfl HE5.out ?_
        simp only[Act.put,Zl]
        iterate 1
         refine ZR rfl rfl ?_
         simp only[Act.put,Zl]
        iterate 2
         refine Zr _ rfl rfl (fun w' hS=>Ze) ?_
         simp only[Act.put,Zl]
        refine ZJ ?_
        go_wp2
        go_ret
        exact⟨false,rfl,ZbG HNT.out,HE5.out.base⟩
       by_cases hup2:m2<0
       ·have HNT:Hid (¬ CurveP bs):=Znk (i:=j) (by rw[HL.out,<- HJ.out];exact hlt) fun h=>by
         rw[<- HJ.out] at h
         have:=Zha (a:=hR bs k) (b:=hR bs j) (Rat.not_lt.2 h.2)
         rw[HM2.out] at this
         omega
        refine Z0 [(true,0),(true,1),(true,2),(true,3),(true,4),(true,5),(true,6),(true,7),(true,8),(true,9),(true,10),(true,11),(true,12),(true,13),(false,14),(true,15),(true,16),(true,17),(true,18),(true,19),(true,20),(true,21),(true,22),(true,23),(true,24),(true,25),(true,26),(true,27),(false,28),(true,29),(true,30),(true,31)] (Env w.heap.size w [] []) (fun _=>false)
         Zb Zb Zb (fun _ _=>rfl) Zi HE4.out.drew ?_
        iterate 14
         refine Zr _ rfl rfl (fun w' hS=>by obtain⟨a0,a1,a2,a3⟩:=HFK.out w' hS;obtain⟨b0,b1,b2,b3⟩:=HFJ.out w' hS;exact Ze) ?_
         simp only[Act.put,Zl]
        refine Zt rfl rfl fun K hK=>?_
        go_simp
        go_at_call 56
        have HEC:=HE4'
        refine(Zb6 PC.out PCJ.out.1 HM1.out _).mono ?_
        rintro e w5 ⟨rfl,hb⟩
        have HE5:=Zpe (HE4'.out.step hb)
        refine hK _ _ (.inr HE5.out) ?_
        clear hK K hb HEC
        iterate 13
         refine Zr _ rfl rfl (fun w' hS=>by obtain⟨a0,a1,a2,a3⟩:=HFK.out w' hS;obtain⟨b0,b1,b2,b3⟩:=HFJ.out w' hS;exact Ze) ?_
         simp only[Act.put,Zl]
        refine Zt rfl rfl fun K hK=>?_
        go_simp
        go_at_call 56
        have HEC:=HE5
        refine(Zb6 PH.out PHJ.out.1 HM2.out _).mono ?_
        rintro e w6 ⟨rfl,hb⟩
        have HE6:=Zpe (HE5.out.step hb)
        refine hK _ _ (.inr HE6.out) ?_
        clear hK K hb HEC
        iterate 3
         refine Zr _ rfl rfl (fun w' hS=>Ze) ?_
         simp only[Act.put,Zl]
        refine ZJ ?_
        go_wp2
        go_ret
        exact⟨false,rfl,ZbG HNT.out,HE6.out.base⟩
       have HUP:Hid (cR bs j<cR bs k/\hR bs j<=hR bs k):=⟨Rat.not_le.1 fun h=>hup1 (by rw[<- HM1.out];exact Int.not_lt.1 (ZbZ h)),Rat.not_lt.1 fun h=>hup2 (by rw[<- HM2.out];exact Int.not_le.1 (Zhg h))⟩
       refine Z0 [(true,0),(true,1),(true,2),(true,3),(true,4),(true,5),(true,6),(true,7),(true,8),(true,9),(true,10),(true,11),(true,12),(true,13),(false,14),(true,15),(true,16),(true,17),(true,18),(true,19),(true,20),(true,21),(true,22),(true,23),(true,24),(true,25),(true,26),(true,27),(false,28),(true,29),(true,30),(true,31)] (Env w.heap.size w [] []) (fun _=>false)
        Zb Zb Zb (fun _ _=>rfl) Zi HE4.out.drew ?_
       iterate 14
        refine Zr _ rfl rfl (fun w' hS=>by obtain⟨a0,a1,a2,a3⟩:=HFK.out w' hS;obtain⟨b0,b1,b2,b3⟩:=HFJ.out w' hS;exact Ze) ?_
        simp only[Act.put,Zl]
       refine Zt rfl rfl fun K hK=>?_
       go_simp
       go_at_call 56
       have HEC:=HE4'
       refine(Zb6 PC.out PCJ.out.1 HM1.out _).mono ?_
       rintro e w5 ⟨rfl,hb⟩
       have HE5:=Zpe (HE4'.out.step hb)
       refine hK _ _ (.inr HE5.out) ?_
       clear hK K hb HEC
       iterate 13
        refine Zr _ rfl rfl (fun w' hS=>by obtain⟨a0,a1,a2,a3⟩:=HFK.out w' hS;obtain⟨b0,b1,b2,b3⟩:=HFJ.out w' hS;exact Ze) ?_
        simp only[Act.put,Zl]
       refine Zt rfl rfl fun K hK=>?_
       go_simp
       go_at_call 56
       have HEC:=HE5
       refine(Zb6 PH.out PHJ.out.1 HM2.out _).mono ?_
       rintro e w6 ⟨rfl,hb⟩
       have HE6:=Zpe (HE5.out.step hb)
       refine hK _ _ (.inr HE6.out) ?_
       clear hK K hb HEC
       iterate 3
        refine Zr _ rfl rfl (fun w' hS=>Ze) ?_
        simp only[Act.put,Zl]
       refine ZJ ?_
       go_wp2_with fail
       clear hup1 hup2 HM1 HM2 HE4 HE4' HE5
       rcases ZoF j with hj0 | hj0
       ·have hnk1:¬ (1:Int)<(k:Int):=by have:=HJ.out;omega
        go_wp2_with fail
        refine Z0 [(true,0),(true,1),(true,2),(true,3),(true,4),(true,5),(true,6),(true,7),(true,8),(true,9),(true,10),(true,11),(true,13),(true,14),(true,15),(true,16),(true,17),(true,18),(true,19),(true,20),(true,21),(true,22),(false,12),(false,23),(false,24),(true,25),(true,26)] (Env w.heap.size w [] []) (fun _=>false)
         Zb Zb Zb (fun _ _=>rfl) Zi HE6.out.drew ?_
        iterate 1
         refine Zr _ rfl rfl (fun w' hS=>Ze) ?_
         simp only[Act.put,Zl]
        refine Zr (.bool false) rfl rfl (fun w' hS=>by skip;go_simp;first|done|rfl|simp[hnk1]) ?_
        simp only[Act.put,Zl]
        iterate 1
         refine Zr _ rfl rfl (fun w' hS=>Ze) ?_
         simp only[Act.put,Zl]
        iterate 19
         refine ZR rfl rfl ?_
         simp only[Act.put,Zl]
        refine Z4 rfl rfl HE6.out.drew ?_
        simp only[Act.put,Zl]
        refine Z4 rfl rfl HE6.out.drew ?_
        simp only[Act.put,Zl]
        refine Z4 rfl rfl HE6.out.drew ?_
        simp only[Act.put,Zl]
        iterate 1
         refine ZR rfl rfl ?_
         simp only[Act.put,Zl]
        iterate 1
         refine Zr _ rfl rfl (fun w' hS=>Ze) ?_
         simp only[Act.put,Zl]
        refine ZJ ?_
        have HU2:Hid (UptoC bs (k+1)):=HU.out.step HSM.out HTOP.out (fun i hi=>by
         obtain rfl:i=j:=by have:=HJ.out;omega
         rw[<- HJ.out]
         exact HUP.out) (fun i hi=>by have:=HJ.out;omega)
        have HE7:=Zpe HE6.out.drew
        clear hj0
        go_wp2
        go_roundw
        case rel=>exact⟨k+1,by go_num,Za,HU2,HE7⟩
        case measure=>exact Zj
       ·obtain⟨i,hi⟩:∃ i,j=i+1:=⟨j-1,Za⟩
        have e2:IntKind.i64.wrap ((k:Int)-2)=(i:Int):=by have:=HJ.out;rw[Zo1 _ Za];omega
        have hp2:(1:Int)<(k:Int):=by have:=HJ.out;omega
        have hjn:j<k:=by have:=HJ.out;omega
        obtain⟨q,hq⟩:=Zpg (bAt bs i)
        have HFI:Hid (∀ V,Env w.heap.size w [] [] V->V.cell? ⟨b,off+i*4,none⟩=some (.string q.1.1)/\V.cell? ⟨b,off+i*4+1,none⟩=some (.string q.1.2)/\V.cell? ⟨b,off+i*4+2,none⟩=some (.string q.2.1)/\V.cell? ⟨b,off+i*4+3,none⟩=some (.string q.2.2)):=fun V hV=>by rw[<- hq];exact HAT.out V hV.base i Za
        obtain⟨sm1,sm2⟩:=HU.out.small i Za
        obtain⟨pc,zc⟩:=ZcX sm1
        obtain⟨ph,zh⟩:=ZcX sm2
        change IsP (cR bs i) _ _ at pc
        change Sz 18 (cR bs i) at zc
        change IsP (hR bs i) _ _ at ph
        change Sz 18 (hR bs i) at zh
        have hup:=HU.out.up i Za
        have ej:i+1=j:=hi.symm
        rw[ej] at hup
        obtain⟨⟨x1,y1,f1⟩,⟨x2,y2,f2⟩,⟨x3,y3,f3⟩,d1⟩:=Zit PCJ.out.1 PHJ.out.1 PC.out PH.out PCJ.out.2 PHJ.out.2 ZC.out ZH.out HUP.out.1 HUP.out.2
        obtain⟨⟨x4,y4,f4⟩,⟨x5,y5,f5⟩,⟨x6,y6,f6⟩,d2⟩:=Zit pc ph PCJ.out.1 PHJ.out.1 zc zh PCJ.out.2 PHJ.out.2 hup.1 hup.2
        rw[hq] at pc ph
        obtain⟨⟨s2,t2⟩,u2,v2⟩:=q
        dsimp only at HFI pc ph
        have CT1:=Zpe (fun W=>ZeZ PCJ.out.1 PHJ.out.1 PC.out PH.out f1 f2 f3 d1 W)
        have CT2:=Zpe (fun W=>ZeZ pc ph PCJ.out.1 PHJ.out.1 f4 f5 f6 d2 W)
        obtain⟨m3,hm3⟩:=Zpg (sgnR ((hR bs k-hR bs j)/(cR bs k-cR bs j)) ((hR bs j-hR bs i)/(cR bs j-cR bs i)))
        have CT3:=Zpe (fun W=>Zb6 f3 f6 hm3 W)
        have l0':(0:Int)<=(i:Int):=Za
        have l1':(i:Int)<(n:Int):=Za
        have HI:=Zpe hi
        have HM3:=Zpe hm3
        clear hq sm1 sm2 pc zc ph zh hi hm3 hup ej f1 f2 f3 f4 f5 f6 d1 d2 hj0
        have HE6':=Zpe HE6.out.drew
        refine Z0 [(true,0),(true,1),(true,2),(true,3),(true,4),(true,5),(true,6),(true,7),(true,8),(true,9),(true,10),(true,11),(true,13),(true,14),(true,15),(true,16),(true,17),(true,18),(true,19),(true,20),(true,21),(true,22),(false,12),(false,23),(false,24),(true,25),(true,26)] (Env w.heap.size w [] []) (fun _=>false)
         Zb Zb Zb (fun _ _=>rfl) Zi HE6.out.drew ?_
        iterate 22
         refine Zr _ rfl rfl (fun w' hS=>by obtain⟨a0,a1,a2,a3⟩:=HFK.out w' hS;obtain⟨b0,b1,b2,b3⟩:=HFJ.out w' hS;obtain⟨c0,c1,c2,c3⟩:=HFI.out w' hS;exact Ze) ?_
         simp only[Act.put,Zl]
        refine Zt rfl rfl fun K hK=>?_
        go_simp
        go_at_call 140
        have HEC:=HE6'
        refine(CT1.out _).mono ?_
        rintro e w7 ⟨rfl,hb⟩
        have HE7:=Zpe (HE6'.out.step hb)
        refine hK _ _ (.inr HE7.out) ?_
        clear hK K hb HEC
        refine Zt rfl rfl fun K hK=>?_
        go_simp
        go_at_call 140
        have HEC:=HE7
        refine(CT2.out _).mono ?_
        rintro e w8 ⟨rfl,hb⟩
        have HE8:=Zpe (HE7.out.step hb)
        refine hK _ _ (.inr HE8.out) ?_
        clear hK K hb HEC
        refine Zt rfl rfl fun K hK=>?_
        go_simp
        go_at_call 56
        have HEC:=HE8
        refine(CT3.out _).mono ?_
        rintro e w9 ⟨rfl,hb⟩
        have HE9:=Zpe (HE8.out.step hb)
        refine hK _ _ (.inr HE9.out) ?_
        clear hK K hb HEC
        iterate 2
         refine Zr _ rfl rfl (fun w' hS=>Ze) ?_
         simp only[Act.put,Zl]
        refine ZJ ?_
        clear HE6 HE6' HE7 HE8
        by_cases hcc:(0:Int)<m3
        ·have HNT:Hid (¬ CurveP bs):=ZnQ (i:=i) (by rw[HL.out];have:=HI.out;have:=HJ.out;omega) fun h=>by
          have e3:i+1=j:=HI.out.symm
          have e4:i+1+1=k:=by rw[e3];exact HJ.out.symm
          unfold slp at h
          rw[e4,e3] at h
          have:=ZbZ h
          rw[HM3.out] at this
          exact this hcc
         go_wp2
         go_ret
         exact⟨false,rfl,ZbG HNT.out,HE9.out.base⟩
        ·have HU2:Hid (UptoC bs (k+1)):=HU.out.step HSM.out HTOP.out (fun l hl=>by
          obtain rfl:l=j:=by have:=HJ.out;omega
          rw[<- HJ.out]
          exact HUP.out) (fun l hl=>by
          obtain rfl:l=i:=by have:=HJ.out;have:=HI.out;omega
          have e3:l+1=j:=HI.out.symm
          have e4:l+1+1=k:=by rw[e3];exact HJ.out.symm
          unfold slp
          rw[e4,e3]
          exact Rat.not_lt.1 fun h=>hcc (by rw[<- HM3.out];exact Zb2 (Rat.not_le.2 h)))
         go_wp2
         go_roundw
         case rel=>exact⟨k+1,by go_num,Za,HU2,HE9⟩
         case measure=>exact Zj
  ·obtain rfl:k=n:=Za
   have HT:Hid (CurveP bs):=by
    have h:=HU.out
    rw[<- HL.out] at h
    exact h.curve (by rw[HL.out];exact H2.out) HF0.out
   go_wp2
   go_ret
   exact⟨true,rfl,⟨fun _=>HT.out,fun _=>rfl⟩,HE.out.base⟩
def Zlr (bs:List BB) (q:Rat) (w:World) (e:Ending) (w':World):Prop:=∃ k:Nat,e=.returned (.int .i64 k)/\Zbc bs.length (cR bs) q k/\Below w.heap.size w w'
theorem Zk1 {v:Value} {bs:List BB} {w:World} {q:Rat} {s t:ByteArray} (hv:BL w v bs) (hC:CurveP bs) (hq:IsP q s t):Calls Tryz.prog 139 #[v,pV s t] w (Zlr bs q w):=by
 obtain⟨n,hn⟩:=Zpg bs.length
 obtain⟨p,c,rfl⟩:∃ p c,v=.slice p n c:=by obtain⟨p,c,h,_⟩:=id hv;exact⟨_,_,by rw[<- hn];exact h⟩
 obtain⟨_,hcc,hnc⟩:=hv.len
 have hl:=hC.len
 rw[hn] at hl
 obtain⟨b,off,rfl,hbl,hat⟩:=hv.at hn Za
 have HL:=Zpe hn
 have HAT:=Zpe hat
 have HC:=Zpe hC
 have HQ:=Zpe hq
 clear hv hat hn hC hq
 go_enter Tryz.func139,Tryz.ntmps139
 have HE0:=Zpe ((Env.start w).push (pObj s t) rfl)
 go_wp2_with fail
 go_loopw [5] (fun i wr=>∃ k:Nat,i=.int .i64 k/\k<n/\Hid (∀ j,j<k->cR bs (j+1)<=q)/\Hid (Env w.heap.size w [(w.heap.size,pObj s t)] [] wr)) (fun i _=>n-(intOf i).toNat)
 case atStart=>exact⟨0,rfl,Za,fun j hj=>Za,HE0⟩
 case round=>
  obtain⟨k,rfl,hk,HK,HE⟩:=hrel
  clear HE0
  obtain⟨m,hm⟩:∃ m,m=k+1:=⟨_,rfl⟩
  have e1:IntKind.i64.wrap ((k:Int)+1)=(m:Int):=by rw[Zo1 _ Za];omega
  have HM:=Zpe hm
  by_cases hlt:m<n
  ·have h1:(m:Int)<(n:Int):=Za
   have h0:(0:Int)<=(m:Int):=Za
   obtain⟨z,hz⟩:=Zpg (bAt bs m)
   have HFM:Hid (∀ V,Env w.heap.size w [(w.heap.size,pObj s t)] [] V->V.cell? ⟨b,off+m*4,none⟩=some (.string z.1.1)/\V.cell? ⟨b,off+m*4+1,none⟩=some (.string z.1.2)/\V.cell? ⟨b,off+m*4+2,none⟩=some (.string z.2.1)/\V.cell? ⟨b,off+m*4+3,none⟩=some (.string z.2.2)):=fun V hV=>by rw[<- hz];exact HAT.out V hV.base m Za
   have pc:=(HC.out.isC (i:=m) (by rw[HL.out];exact hlt)).1
   rw[hz] at pc
   obtain⟨⟨s1,t1⟩,u1,v1⟩:=z
   dsimp only at pc HFM
   obtain⟨g,hg⟩:=Zpg (sgnR (cR bs m) q)
   have PC:=Zpe pc
   have HG:=Zpe hg
   clear hz pc hg hm
   go_wp2_with fail
   refine Z0 [(true,0),(true,1),(true,2),(true,3),(true,4),(true,5),(true,6),(true,7),(true,8),(true,9),(true,10),(true,11),(true,12),(false,13),(true,14),(true,15)] (Env w.heap.size w [(w.heap.size,pObj s t)] []) (fun _=>false)
    Zb Zb Zb (fun _ _=>rfl) Zi HE.out.drew ?_
   iterate 13
    refine Zr _ rfl rfl (fun w' hS=>by have c0:=hS.cell 0 0 (v:=.string s) rfl rfl;have c1:=hS.cell 0 1 (v:=.string t) rfl rfl;obtain⟨a0,a1,a2,a3⟩:=HFM.out w' hS;exact Ze) ?_
    simp only[Act.put,Zl]
   have HE1:=Zpe HE.out.drew
   refine Zt rfl rfl fun K hK=>?_
   go_simp
   go_at_call 56
   have HEC:=HE1
   refine(Zb6 PC.out HQ.out HG.out _).mono ?_
   rintro e w2 ⟨rfl,hb⟩
   have HE2:=Zpe (HE1.out.step hb)
   refine hK _ _ (.inr HE2.out) ?_
   clear hK K hb HEC
   iterate 2
    refine Zr _ rfl rfl (fun w' hS=>Ze) ?_
    simp only[Act.put,Zl]
   refine ZJ ?_
   clear HE HE1
   by_cases hle:g<=0
   ·have HK2:Hid (∀ j,j<m->cR bs (j+1)<=q):=fun j hj=>by
     rcases Zow j k with h | h
     ·exact HK.out j h
     ·obtain rfl:j=k:=by have:=HM.out;omega
      rw[<- HM.out]
      exact Rat.not_lt.1 fun h=>by
       have:=Zb2 (Rat.not_le.2 h)
       rw[HG.out] at this
       omega
    have hm:=HM.out
    go_wp2
    go_roundw
    case rel=>exact⟨m,by go_num,Za,HK2,HE2⟩
    case measure=>exact Zj
   ·have HP:Hid (Zbc bs.length (cR bs) q k):=⟨by rw[HL.out];exact hk,HK.out,fun _=>by
     rw[<- HM.out]
     exact Rat.not_le.1 fun h=>hle (by rw[<- HG.out];exact Int.not_lt.1 (ZbZ h))⟩
    go_wp2
    go_ret
    exact⟨k,rfl,HP.out,HE2.out.base⟩
  ·have h1:¬ (m:Int)<(n:Int):=Za
   have HP:Hid (Zbc bs.length (cR bs) q k):=⟨by rw[HL.out];exact hk,HK.out,fun h=>by rw[HL.out] at h;have:=HM.out;omega⟩
   clear hm
   go_wp2_with fail
   refine Z0 [(true,0),(true,1),(true,2),(true,3),(true,4),(true,5),(true,6),(true,7),(true,8),(true,9),(true,10),(true,11),(true,12),(false,13),(true,14),(true,15)] (Env w.heap.size w [(w.heap.size,pObj s t)] []) (fun _=>false)
    Zb Zb Zb (fun _ _=>rfl) Zi HE.out.drew ?_
   iterate 6
    refine Zr _ rfl rfl (fun w' hS=>Ze) ?_
    simp only[Act.put,Zl]
   iterate 7
    refine ZR rfl rfl ?_
    simp only[Act.put,Zl]
   refine Z4 rfl rfl HE.out.drew ?_
   simp only[Act.put,Zl]
   iterate 1
    refine ZR rfl rfl ?_
    simp only[Act.put,Zl]
   iterate 1
    refine Zr _ rfl rfl (fun w' hS=>Ze) ?_
    simp only[Act.put,Zl]
   refine ZJ ?_
   go_wp2
   go_ret
   exact⟨k,rfl,HP.out,HE.out.drew.base⟩
end Go.Proofs.YtmpaflidennnoaaGreatDoor
