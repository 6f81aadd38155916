/- The parts ECopied2, ESame, LawEImproves, LawEImprovesLift. -/
import Derived.Test.YtmpaflidennnoaaGreatDoorH17
import Derived.Test.YtmpaflidennnoaaGreatDoorK005
set_option maxRecDepth 100000
set_option maxHeartbeats 8000000
set_option linter.unusedVariables false
set_option linter.unusedSimpArgs false
namespace Go.Proofs.YtmpaflidennnoaaGreatDoor
open Go.RowKit Go.Shelf
attribute [local go_sem ↓] Go.wp_at_zero Go.wp_at_succ
theorem Zfs {P:Program} {w:World} {ops:Array Oper} {rest:List Oper} {o:Oper} {a:Act} {Q:Exit->Act->World->Prop} (hgd:o.guard=none) (s x:Operand) (t:TypeId)
  (ho:o.op=.call { callee:=.builtin .append,args:=#[s,x],argTypes:=#[t,t] })
  (base:Nat) (e:TypeId) (i:TypeInfo) (size:Nat) (ht:P.underlying t=some (.slice e)) (hi:P.info? e=some i)
  (v:Value) (n:Nat) (xs:List Value) (hs:a.eval s=v) (hown:w.ownsRow base e size v n xs) (c:Nat) (hx:a.eval x=.slice none 0 c)
  (h:wpList P ops Q rest (a.put o.dst v) w):wpList P ops Q (o::rest) a w:=by
 refine wpList_plain hgd fun K hK=>?_
 have hrun:(Builtin.append_ #[t,t] o.type #[v,.slice none 0 c]).run P w=.ok v w:=by
  rcases hown.2 with ⟨rfl,rfl⟩ | ⟨g,cap,cur,rfl,_,_,hnc,_⟩
  ·simp[Builtin.append_,run_underlying ht,sizeOf,typeInfo,hi,Builtin.lenOf,Builtin.firstCells]
  ·simp[Builtin.append_,run_underlying ht,sizeOf,typeInfo,hi,Builtin.lenOf,Builtin.firstCells,hnc,storeCells]
 unfold Oper.wp
 simp[execOp,ho,resolve,invoke,builtin,hs,hx,hrun,Result.andThen]
 exact hK _ _ h
theorem Zf8 {P:Program} (w:World) {ops:Array Oper} {rest:List Oper} {o:Oper} {a:Act} {Q:Exit->Act->World->Prop} (hgd:o.guard=none) (s x:Operand) (t:TypeId)
  (ho:o.op=.call { callee:=.builtin .append,args:=#[s,x],argTypes:=#[t,t] })
  (base:Nat) (e:TypeId) (i:TypeInfo) (z:Value) (bytes:Nat) (ht:P.underlying t=some (.slice e)) (hi:P.info? e=some i) (hz:i.zero=some z)
  (hsize:i.size=1) (hby:i.bytes=bytes) (hzs:z.cells.size=1)
  (v:Value) (n:Nat) (xs:List Value) (hs:a.eval s=v) (hown:w.ownsRow base e 1 v n xs)
  (v2:Value) (l:List Int) (hx:a.eval x=v2) (hil:LL 1 IntR w v2 l)
  (h63:n+l.length<=maxLen) (hbytes:(n+l.length)*bytes<=140737488355328) (hbase:base<=w.heap.size)
  (h:∀ v' w',w'.ownsRow base e 1 v' (n+l.length) (xs++ints l)->w.grownBy w' v.ownBlock->(v'.ownBlock=v.ownBlock\/v'.ownBlock=some w.heap.size)->wpList P ops Q rest (a.put o.dst v') w'):wpList P ops Q (o::rest) a w:=by
 obtain⟨p,cap,rfl,h1,h2,h3⟩:=hil
 cases p with
 | none=>
  have hl:l=[]:=by
   rcases List.eq_nil_or_concat l with h | ⟨_,_,h⟩
   ·exact h
   ·obtain⟨b,off,h4,_⟩:=h3 (by rw[h];simp)
    cases h4
  subst hl
  exact Zfs hgd s x t ho base e i 1 ht hi v n xs hs hown cap hx (h v w (by simpa[ints] using hown) ⟨rfl,rfl,rfl,Nat.le_refl _,fun _ _ _=>rfl⟩ (.inl rfl))
 | some ad=>
  refine wpList_append_own_at w hgd s x t ho base e i z 1 bytes ht hi hz hsize hby hzs Zd v n xs hs hown ad l.length cap (ints l) hx (by rw[Za8,Zpn]) (fun j u hu=>?_) (fun u hu=>?_) h63 hbytes hbase fun v' w' g1 g2 _ g3=>h v' w' g1 g2 g3
  ·have hj:j<l.length:=by
    have:=(Zo9.1 hu).1
    simpa[Za8] using this
   obtain⟨b,off,h4,_,h5⟩:=h3 (ZoT Za)
   obtain rfl:=ZoP h4
   rw[Zcy hj] at hu
   have h6:=h5 j hj
   unfold IntR at h6
   rw[Zpn] at h6
   rw[Addr.add_lit,<- hu,h6]
   simp[List.getD,hj]
  ·unfold ints at hu
   obtain⟨y,_,rfl⟩:=List.mem_map.1 hu
   rfl
theorem ZiA {w:World} {base:Nat} {e:TypeId} {size:Nat} {v:Value} {n:Nat} {xs:List Value} (h:w.ownsRow base e size v n xs):∃ p n c,v=.slice p n c:=by
 rcases h.2 with ⟨h2,_⟩ | ⟨g,cap,_,h2,_⟩
 ·exact⟨_,_,_,h2⟩
 ·exact⟨_,_,_,h2⟩
theorem Zof {w:World} {base:Nat} {v:Value} {l:List Int} (h:w.ownsRow base 3 1 v l.length (ints l)):LL 1 IntR w v l:=by
 rcases id h.2 with ⟨h2,h3⟩ | ⟨g,cap,cur,hv,hb,hg,k1,k2,k3,k4⟩
 ·exact⟨none,0,by rw[h2,h3],Za,Zd,fun hne=>Zpp (List.length_eq_zero_iff.1 h3) hne⟩
 ·refine⟨some ⟨g,0,none⟩,cap,hv,k1,k2,fun _=>⟨g,0,rfl,(Zpu hg),fun j hj=>?_⟩⟩
  have ho:=h
  rw[hv] at ho
  have c:=World.ownsRow.cellAt ho j Za
  rw[Zcy hj] at c
  unfold IntR
  rw[Nat.zero_add,Zpn,c]
  simp[List.getD,hj]
structure CopyK (p:List (List Int)) (m:Nat) (pv:Value) (vs:List Value) (w:World):Prop where
 outer:w.ownsRow m 23 1 pv p.length vs
 row:∀ u (h:u<p.length),∃ v,vs[u]?=some v/\w.ownsRow m 3 1 v p[u].length (ints p[u])/\(v.ownBlock=none\/v.ownBlock≠pv.ownBlock)
section
variable {p:List (List Int)} {m:Nat} {pv pv' v:Value} {vs:List Value} {w w':World} {l:List Int}
theorem CopyK.keep (h:CopyK p m pv vs w) (hb:Below w.heap.size w w'):CopyK p m pv vs w':=
 ⟨ZT h.outer fun g hg=>hb.block g (ZoZ h.outer g hg).2,fun u hu=>by
  obtain⟨v,h1,h2,h3⟩:=h.row u hu
  exact⟨v,h1,ZT h2 fun g hg=>hb.block g (ZoZ h2 g hg).2,h3⟩⟩
theorem CopyK.snoc (h:CopyK p m pv vs w) (hv:w.ownsRow m 3 1 v l.length (ints l)) (hne:v.ownBlock=none\/v.ownBlock≠pv.ownBlock) (ho:w'.ownsRow m 23 1 pv' (p.length+1) (vs++[v])) (hg:w.grownBy w' pv.ownBlock) (hloc:pv'.ownBlock=pv.ownBlock\/pv'.ownBlock=some w.heap.size):CopyK (p++[l]) m pv' (vs++[v]) w':=by
 have key:∀ (v:Value) (n:Nat) (xs:List Value),w.ownsRow m 3 1 v n xs->(v.ownBlock=none\/v.ownBlock≠pv.ownBlock)->v.ownBlock=none\/v.ownBlock≠pv'.ownBlock:=fun v n xs hr h=>by
  rcases hloc with hl | hl
  ·rw[hl];exact h
  ·rw[hl]
   cases e:v.ownBlock with
   | none=>exact .inl rfl
   | some g=>
    refine .inr fun e2=>?_
    have:=(ZoZ hr g e).2
    have:=ZoP e2
    omega
 have hlen:vs.length=p.length:=by have:=h.outer.1;omega
 refine⟨by rw[Zo2];exact ho,fun u hu=>?_⟩
 by_cases e:u=p.length
 ·subst e
  refine⟨v,by rw[<- hlen];simp,?_,key _ _ _ hv hne⟩
  rw[show (p++[l])[p.length]=l by simp]
  exact World.ownsRow.kept hv hg hne
 ·have hu':u<p.length:=by rw[Zo2] at hu;simp at hu;omega
  obtain⟨v2,h1,h2,h3⟩:=h.row u hu'
  refine⟨v2,by rw[List.getElem?_append_left Za];exact h1,?_,key _ _ _ h2 h3⟩
  rw[show (p++[l])[u]=p[u] by rw[List.getElem_append_left hu']]
  exact World.ownsRow.kept h2 hg h3
theorem CopyK.toIIL (h:CopyK p m pv vs w):IIL w pv p:=by
 obtain⟨h1,h2⟩:=id h.outer
 rcases h2 with ⟨h2,h3⟩ | ⟨pb,pc,cur,hv,hb,hg,k1,k2,k3,k4⟩
 ·exact⟨none,0,by rw[h2,h3],Za,Zd,fun hne=>Zpp (List.length_eq_zero_iff.1 h3) hne⟩
 ·refine⟨some ⟨pb,0,none⟩,pc,hv,k1,k2,fun _=>⟨pb,0,rfl,(Zpu hg),fun j hj=>?_⟩⟩
  have ho:=h.outer
  rw[hv] at ho
  have c1:=World.ownsRow.cellAt ho j Za
  obtain⟨v,e1,e2,_⟩:=h.row j hj
  rw[e1] at c1
  exact⟨v,by rw[Nat.zero_add,Zpn];exact c1,Zof e2⟩
end
structure CopyG (p:List (List Int)) (m:Nat) (wr V2 V3:World) (pv v:Value) (vs:List Value) (l:List Int):Prop where
 plan:CopyK p m pv vs V3
 news:∀ j u,([v])[j]?=some u->V3.cell? ((⟨V2.heap.size,0,none⟩:Addr).add j)=some u
 below:Below wr.heap.size wr V3
 row:V3.ownsRow m 3 1 v l.length (ints l)
 ne:v.ownBlock=none\/v.ownBlock≠pv.ownBlock
 mle:m<=V3.heap.size
theorem Zoy {p:List (List Int)} {m:Nat} {wr V2:World} {pv v:Value} {vs:List Value} {l:List Int} (h:CopyK p m pv vs wr) (hm:m<=wr.heap.size) (hown:V2.ownsRow m 3 1 v (0+l.length) ([]++ints l)) (hgrow:(wr.alloc (.cells #[] 3)).grownBy V2 (Value.slice (some ⟨wr.heap.size,0,none⟩) 0 0).ownBlock)
  (hat:v.ownBlock=(Value.slice (some ⟨wr.heap.size,0,none⟩) 0 0).ownBlock\/v.ownBlock=some (wr.alloc (.cells #[] 3)).heap.size) :
  CopyG p m wr V2 (V2.alloc (.cells #[v] 23)) pv v vs l:=by
 rw[Nat.zero_add,Zps] at hown
 have hB2:Below wr.heap.size wr V2:=((ZoL wr.heap.size wr).alloc ZpA _).grown hgrow Zc (fun z hz=>by cases hz;exact Nat.le_refl _)
 have hB3:Below wr.heap.size wr (V2.alloc (.cells #[v] 23)):=hB2.trans (((ZoL _ V2).alloc ZpA _).mono hB2.size)
 refine⟨h.keep hB3,Zcv V2 _ _,hB3,ZT hown fun x hx=>Zo1 _ _ _ (ZoZ hown x hx).2,.inr fun e=>?_,by have:=hB3.size;omega⟩
 have hx:∀ x,v.ownBlock=some x->wr.heap.size<=x:=fun x hx=>by
  rcases hat with h | h
  ·rw[h] at hx;cases hx;exact Nat.le_refl _
  ·rw[h] at hx;have:=ZoP hx;rw[Zpa] at this;omega
 cases hv:v.ownBlock with
 | none=>
  rcases hat with h | h
  ·rw[hv] at h;cases h
  ·rw[hv] at h;cases h
 | some x=>
  have h1:=hx x hv
  have:=(ZoZ h.outer x (by rw[<- e,hv])).2
  omega
theorem ZkQ {p:List (List Int)} {pv0:Value} {w:World} (hp:IIL w pv0 p) (hpl:p.length<=10) (hrow:∀ u (h:u<p.length),p[u].length<=26) :
  Calls Tryz.prog 23 #[pv0] w (fun e w'=>∃ pv,e=.returned pv/\IIL w' pv p/\Below w.heap.size w w'):=by
 obtain⟨T,hT⟩:=ZpB p.length
 obtain⟨pp,pc,rfl,hpc1,hpc2⟩:=hp.shape hT
 rw[hT] at hpl
 have HP:=Zpz hp
 have HTT:=Zpz hT
 have HROW:=Zpz hrow
 obtain⟨i0,hi,hz0,hz1,hz2⟩:=info_parts ZcQ
 obtain⟨i1,hi',hz0',hz1',hz2'⟩:=info_parts Zdb
 obtain⟨m,hm⟩:=ZpB w.heap.size
 have HM:=Zpz hm
 have HP0:Hid (CopyK (p.take 0) m (.slice none 0 0) [] w):=⟨World.ownsRow_nil _ _ _ _,fun u hu=>by simp at hu⟩
 clear hp hT hrow hm
 go_enter Tryz.func23,Tryz.ntmps23
 go_wp2_with fail
 go_loopw [3,8] (fun pvv iv wr=>∃ (k:Nat) (vs:List Value),iv=.int .i64 k/\k<=T/\Hid (CopyK (p.take k) m pvv vs wr)/\Zpt w wr) (fun _ iv _=>T-(intOf iv).toNat)
 case atStart=>exact⟨0,_,rfl,ZoY _,HP0,ZoL _ _⟩
 case round=>
  obtain⟨k,vs,rfl,hk,HK,HB⟩:=hrel
  clear HP0
  by_cases hlt:k<T
  ·have hkl:((p.take k)).length=k:=by rw[Zpr,HTT.out];omega
   have hkp:k<p.length:=by rw[HTT.out];exact hlt
   have HKL:=Zpz hkl
   obtain⟨b0,o0,_,hv9,_,_,hb0,hat⟩:=ZaR (IIL.stay2 HP.out HB.out ZpA) Za
   injection hv9 with z1 z2 z3
   subst z1
   obtain⟨v,d1,d2⟩:=hat k hkp
   obtain⟨l,hl⟩:=ZpB (p[k])
   have hlen:=HROW.out k hkp
   rw[hl] at d2 hlen
   rw[Zpn] at d1
   have HLL:=Zpz hl
   obtain⟨rp,rn,rc,hvf⟩:∃ p n c,v=.slice p n c:=by
    obtain⟨p,c,h,_⟩:=id d2
    exact⟨_,_,_,h⟩
   obtain⟨pq,pn,pcap,rfl⟩:∃ p n c,u3=Value.slice p n c:=ZiA HK.out.outer
   have HB0:Below wr.heap.size wr (wr.alloc (.cells #[] 3)):=(ZoL wr.heap.size wr).alloc ZpA _
   have hil:LL 1 IntR (wr.alloc (.cells #[] 3)) (.slice rp rn rc) l:=by rw[<- hvf];exact LL.after IntR.stays d2 HB0 ZpA
   rw[hvf] at d1
   have hwm:m<=wr.heap.size:=by rw[<- HM.out];exact HB.out.size
   have hwm':m<=(wr.alloc (.cells #[] 3)).heap.size:=by rw[Zpa];omega
   have hlit:(wr.alloc (.cells #[] 3)).ownsRow m 3 1 (.slice (some ⟨wr.heap.size,0,none⟩) 0 0) 0 []:=World.ownsRow_lit wr #[] 0 hwm (by simp[maxLen]) rfl
   have i0':(0:Int)<=(k:Int):=Za
   have i1':(k:Int)<(T:Int):=Za
   have hm1:0+l.length<=maxLen:=by unfold maxLen;omega
   have hm2:(0+l.length)*8<=140737488355328:=Za
   have hm3:(p.take k).length+1<=maxLen:=by rw[hkl];unfold maxLen;omega
   have hm4:((p.take k).length+1)*24<=140737488355328:=by rw[hkl];omega
   clear hat hb0 d2 hl hkl z2 z3 hvf
   go_wp2_with (first | (at_builtin;refine Zf8 _ rfl (.tmp 13) (.tmp 14) 23 rfl m 3 i1 (.int .i64 0) 8 Tryz.underlying23 hi' hz0' hz1' hz2' rfl _ 0 [] rfl hlit _ l rfl hil hm1 hm2 hwm' ?_;intro v1 V2 hown1 hgrow1 hat1;obtain⟨p2,n2,c2,rfl⟩:=ZiA hown1;obtain⟨V3,hV3⟩:=ZpB (V2.alloc (.cells #[.slice p2 n2 c2] 23));have hfacts:CopyG (p.take k) m wr V2 V3 (.slice pq pn pcap) (.slice p2 n2 c2) vs l:=(by subst hV3;exact Zoy HK.out hwm hown1 hgrow1 hat1);obtain⟨hp3,hnews,hb3,hrow3,hne3,hm5⟩:=hfacts;have hown2:=hp3.outer) | (at_builtin;refine wpList_append_own_at _ rfl (.tmp 12) (.tmp 16) 29 rfl m 23 i0 (.slice none 0 0) 1 24 Tryz.underlying29 hi hz0 hz1 hz2 rfl Zd (.slice pq pn pcap) _ _ rfl hown2 ⟨V2.heap.size,0,none⟩ 1 1 [.slice p2 n2 c2] rfl rfl hnews (by simp[Value.oneCell']) hm3 hm4 hm5 ?_;intro v4 V4 hown4 hgrow4 _ hloc4))
   have hsn:=hp3.snoc hrow3 hne3 hown4 hgrow4 hloc4
   have hb4:Below w.heap.size w V4:=(HB.out.trans (hb3.mono HB.out.size)).grown hgrow4 (by have:=hb3.size;have:=HB.out.size;omega) (fun x hx=>by have:=(ZoZ hp3.outer x hx).1;have:=HM.out;omega)
   have e9:p.take k++[l]=p.take (k+1):=by
    rw[List.take_add_one,Zo6 hkp,HLL.out]
    rfl
   rw[e9] at hsn
   refine⟨⟨k+1,_,by go_num,Za,hsn,hb4⟩,?_⟩
   simp[intOf]
   omega
  ·obtain rfl:k=T:=Za
   have e:p.take k=p:=by rw[<- HTT.out,List.take_length]
   rw[e] at HK
   have HI:=Zpz HK.out.toIIL
   go_wp2
   exact ZoM (by simp[results,Tryz.f23,go_sem]) rfl ⟨_,rfl,HI.out,HB.out⟩
theorem Zir {a b:Value} {xs:List Int} {w:World} (ha:IL w a xs) (hb:IL w b xs):Calls Tryz.prog 58 #[a,b] w (Z5 w true):=by
 obtain⟨n,hn⟩:=ZpB xs.length
 obtain⟨pa,ca,rfl,ka1,ka2⟩:=ha.shape hn
 obtain⟨pb,cb,rfl,kb1,kb2⟩:=hb.shape hn
 have HA:=Zpz ha
 have HB:=Zpz hb
 have HN:=Zpz hn
 have hne:((n:Int) !=(n:Int))=false:=Zc
 clear ha hb hn
 go_enter Tryz.func58,Tryz.ntmps58
 go_wp2_with fail
 go_loopw [5] (fun iv wr=>∃ k:Nat,iv=.int .i64 k/\k<=n/\Zpt w wr) (fun iv _=>n-(intOf iv).toNat)
 case atStart=>exact⟨0,rfl,ZoY _,ZoL _ _⟩
 case round=>
  obtain⟨k,rfl,hk,HW⟩:=hrel
  by_cases hlt:k<n
  ·obtain⟨b1,o1,rfl,g1,g2⟩:=HA.out.at IntR.stays HN.out Za
   obtain⟨b2,o2,rfl,h1,h2⟩:=HB.out.at IntR.stays HN.out Za
   have c1:=g2 wr.drew HW.out.drew k (by rw[HN.out];exact hlt)
   have c2:=h2 wr.drew HW.out.drew k (by rw[HN.out];exact hlt)
   unfold IntR at c1 c2
   rw[Zpn] at c1 c2
   obtain⟨x,hx⟩:∃ z,xs[k]'(by rw[HN.out];exact hlt)=z:=⟨_,rfl⟩
   rw[hx] at c1 c2
   have hxx:(x !=x)=false:=Zc
   have i0':(0:Int)<=(k:Int):=Za
   have i1':(k:Int)<(n:Int):=Za
   clear g1 g2 h1 h2 hx
   go_wp2_with fail
   refine ZP [(1,0),(1,1),(1,2),(1,3),(1,4),(1,5),(1,6),(1,7),(1,8)] (fun V=>V=wr.drew) (fun _=>false)
    Zb Zb (fun j hj=>rfl) Zi rfl ?_
   iterate 9
    refine Zx _ rfl rfl (fun w' hS=>by subst hS;exact Zf) ?_
    simp only[Act.put,Zl]
   refine ZF ?_
   have HW2:Hid (Below w.heap.size w wr.drew):=HW.out.drew
   go_wp2
   go_roundw
   case rel=>exact⟨k+1,by go_num,Za,HW2⟩
   case measure=>exact Zj
  ·obtain rfl:k=n:=Za
   go_wp2
   exact ZoM (by simp[results,Tryz.f58,go_sem]) rfl ⟨rfl,HW.out⟩
theorem ZhT {a b:Value} {p:List (List Int)} {w:World} (ha:IIL w a p) (hb:IIL w b p):Calls Tryz.prog 18 #[a,b] w (Z5 w true):=by
 obtain⟨n,hn⟩:=ZpB p.length
 obtain⟨pa,ca,rfl,ka1,ka2⟩:=ha.shape hn
 obtain⟨pb,cb,rfl,kb1,kb2⟩:=hb.shape hn
 have HA:=Zpz ha
 have HB:=Zpz hb
 have HN:=Zpz hn
 have hne:((n:Int) !=(n:Int))=false:=Zc
 clear ha hb hn
 go_enter Tryz.func18,Tryz.ntmps18
 go_wp2_with fail
 go_loopw [5] (fun iv wr=>∃ k:Nat,iv=.int .i64 k/\k<=n/\Zpt w wr) (fun iv _=>n-(intOf iv).toNat)
 case atStart=>exact⟨0,rfl,ZoY _,ZoL _ _⟩
 case round=>
  obtain⟨k,rfl,hk,HW⟩:=hrel
  by_cases hlt:k<n
  ·obtain⟨b1,o1,rfl,g1,g2⟩:=HA.out.at IIL.stays HN.out Za
   obtain⟨b2,o2,rfl,h1,h2⟩:=HB.out.at IIL.stays HN.out Za
   obtain⟨v1,c1,l1⟩:=g2 wr.drew HW.out.drew k (by rw[HN.out];exact hlt)
   obtain⟨v2,c2,l2⟩:=h2 wr.drew HW.out.drew k (by rw[HN.out];exact hlt)
   rw[Zpn] at c1 c2
   obtain⟨q1,e1,rfl,_⟩:=id l1
   obtain⟨q2,e2,rfl,_⟩:=id l2
   obtain⟨l,hl⟩:∃ z,(p[k]'(by rw[HN.out];exact hlt)).length=z:=⟨_,rfl⟩
   rw[hl] at c1 c2 l1 l2
   have HL:=Zpz (Zpq l1 l2)
   have i0':(0:Int)<=(k:Int):=Za
   have i1':(k:Int)<(n:Int):=Za
   clear g1 g2 h1 h2 hl l1 l2
   go_wp2_with fail
   refine ZP [(1,0),(1,1),(1,2),(1,3),(1,4),(1,5),(1,6),(1,7),(0,8),(0,9)] (fun V=>V=wr.drew) (fun i=>i==8 || i==9)
    Zb Zb (fun j hj=>by have h:10<=j:=hj;simp;omega) Zi rfl ?_
   iterate 8
    refine Zx _ rfl rfl (fun w' hS=>by subst hS;exact Zf) ?_
    simp only[Act.put,Zl]
   refine ZB rfl rfl fun K hK=>?_
   go_simp
   go_at_call 58
   refine(Zir HL.out.1 HL.out.2).mono ?_
   rintro e w3 ⟨rfl,hb⟩
   have HW2:Zpt w w3:=HW.out.drew.trans (hb.mono HW.out.drew.size)
   refine hK _ _ (.inl rfl) ?_
   clear hK K hb
   refine ZB rfl rfl fun K hK=>?_
   go_simp
   refine hK _ _ (.inl rfl) ?_
   clear hK K
   refine ZF ?_
   go_wp2
   go_roundw
   case rel=>exact⟨k+1,by go_num,Za,HW2⟩
   case measure=>exact Zj
  ·obtain rfl:k=n:=Za
   go_wp2
   exact ZoM (by simp[results,Tryz.f18,go_sem]) rfl ⟨rfl,HW.out⟩
theorem SmallT.small {t:TaskP} {a b:Nat} (h:SmallT t a b) (ok:TaskOk t):t.sites.length<=a/\t.hours.length<=b:=by
 obtain⟨h1,h2⟩:=h.few
 have:=ok.sites
 have:=ok.teams
 omega
theorem Zfn {t:TaskP} {p:List (List Int)} {R:Int} {w w':World} {e:Ending} (h:Zgk t p R w e w'):∃ (q:List (List Int)) (v:Value) (k n:Int),e=.returned (.tuple #[v,.int .i64 k,.int .i64 n])/\IIL w' v q/\((¬ (PlanOk t p/\0<=R/\R<=64)/\q=[]/\k=0/\n=2)\/((PlanOk t p/\0<=R/\R<=64)/\(∃ j:Nat,ImproveR t R.toNat p q j/\k=j)/\n=0))/\Below w.heap.size w w':=by
 obtain⟨h,hb⟩:=h
 rcases h with ⟨h1,rfl⟩ | ⟨h1,q,k,pv,h2,_,h3,rfl⟩
 ·exact⟨[],_,_,_,rfl,LL.nil _,.inl ⟨h1,rfl,rfl,rfl⟩,hb⟩
 ·exact⟨q,pv,_,_,rfl,h3,.inr ⟨h1,⟨k,h2,rfl⟩,rfl⟩,hb⟩
theorem ZiL {t:TaskP} {p:List (List Int)} {sv hv rv pv:Value} {w:World} (hT:TaskIn t sv hv rv w) (hI:IIL w pv p) (R:Int) :
  Calls Tryz.prog 8 #[.agg #[sv,hv,rv],pv,.int .i64 R] w (Z5 w true):=by
 have HI:=Zpz hI
 obtain⟨pl,pll,pcl,rfl,_⟩:∃ a b c,pv=.slice a b c/\True:=by obtain⟨a,c,h,_⟩:=hI;exact⟨_,_,_,h,trivial⟩
 clear hI
 obtain⟨ps,cs,rfl,_⟩:=hT.sites.shape rfl
 obtain⟨ph,ch,rfl,_⟩:=hT.hours.shape rfl
 obtain⟨pr,cr,rfl,_⟩:=hT.rates.shape rfl
 obtain⟨ns,hns⟩:=ZpB t.sites.length
 obtain⟨nh,hnh⟩:=ZpB t.hours.length
 obtain⟨nr,hnr⟩:=ZpB t.rates.length
 rw[hns,hnh,hnr] at hT ⊢
 have HT:=Zpz hT
 have HNS:=Zpz hns
 have HNH:=Zpz hnh
 obtain⟨w1,hw1⟩:=ZpB (w.alloc (efO (.slice ps ns cs) (.slice ph nh ch) (.slice pr nr cr)))
 obtain⟨G,hG⟩:=ZpB w.heap.size
 have HG:=Zpz hG
 have HE1:Hid (Env w.heap.size w [(G,efO (.slice ps ns cs) (.slice ph nh ch) (.slice pr nr cr))] [] w1):=by rw[<- hw1];exact(Env.start w).push _ hG.symm
 clear hT hns hnh hnr
 go_enter Tryz.func8,Tryz.ntmps8
 have c0:=HE1.out.cell 0 0 (v:=.slice ps ns cs) rfl rfl
 have c1:=HE1.out.cell 0 1 (v:=.slice ph nh ch) rfl rfl
 have c2:=HE1.out.cell 0 2 (v:=.slice pr nr cr) rfl rfl
 go_wp2_with fail
 refine(ZkG (HT.out.below HE1.out.base ZpA) 4 3 16 Zd Zd Zd).mono ?_
 rintro e w3 ⟨r,rfl,hS,hb⟩
 have HE3:=Zpz (HE1.out.step hb)
 clear hb HE1 c0 c1 c2 hw1 hG
 cases r with
 | true=>
  have hTa:=HT.out.below HE3.out.base ZpA
  go_wp2_with fail
  refine(Zds _ hTa.det hTa.tabs hTa.eff).mono ?_
  rintro e w19 ⟨rfl,hb⟩
  have HE19:=Zpz (HE3.out.step hb)
  clear hb
  go_wp2
  exact ZoM (by simp[results,Tryz.f8,go_sem]) rfl ⟨rfl,HE19.out.base⟩
 | false=>
  have HZ:=Zpz (hS rfl).lim
  have HSM:Hid (TaskOk t->t.sites.length<=4/\t.hours.length<=3):=(hS rfl).small
  clear hS
  go_wp2_with fail
  refine(Zm5 (IIL.stay2 HI.out HE3.out.base ZpA)).mono ?_
  rintro e w4 ⟨r,rfl,hW,hb⟩
  have HE4:=Zpz (HE3.out.step hb)
  have HW:=Zpz hW
  clear hb HE3 hW
  cases r with
  | true=>
   have hTa:=HT.out.below HE4.out.base ZpA
   go_wp2_with fail
   refine(Zds _ hTa.det hTa.tabs hTa.eff).mono ?_
   rintro e w19 ⟨rfl,hb⟩
   have HE19:=Zpz (HE4.out.step hb)
   clear hb
   go_wp2
   exact ZoM (by simp[results,Tryz.f8,go_sem]) rfl ⟨rfl,HE19.out.base⟩
  | false=>
   have HWD:=Zpz (HW.out rfl)
   clear HW
   by_cases hR:4<R/\R<=64
   ·obtain⟨hR1,hR2⟩:=hR
    have hTa:=HT.out.below HE4.out.base ZpA
    go_wp2_with fail
    refine(Zds _ hTa.det hTa.tabs hTa.eff).mono ?_
    rintro e w19 ⟨rfl,hb⟩
    have HE19:=Zpz (HE4.out.step hb)
    clear hb
    go_wp2
    exact ZoM (by simp[results,Tryz.f8,go_sem]) rfl ⟨rfl,HE19.out.base⟩
   have hcase:¬ 4<R\/(4<R/\¬ R<=64):=Za
   clear hR
   rcases hcase with h1 | ⟨h1,h2⟩
   all_goals
    go_wp2_with fail
    refine(ZkQ (IIL.stay2 HI.out HE4.out.base ZpA) HWD.out.1 HWD.out.2).mono ?_
    rintro e w5 ⟨v1,rfl,hv1,hb⟩
    obtain⟨a1,b1,d1,rfl⟩:∃ a b c,v1=.slice a b c:=by obtain⟨a,c,h,_⟩:=hv1;exact⟨_,_,_,h⟩
    have HE5:=Zpz (HE4.out.step hb)
    have HV1:=Zpz hv1
    clear hb hv1 HE4
    have c0:=HE5.out.cell 0 0 (v:=.slice ps ns cs) rfl rfl
    have c1:=HE5.out.cell 0 1 (v:=.slice ph nh ch) rfl rfl
    have c2:=HE5.out.cell 0 2 (v:=.slice pr nr cr) rfl rfl
    go_wp2_with fail
    refine(Zjk (HT.out.below HE5.out.base ZpA) HZ.out HV1.out HSM.out).mono ?_
    rintro e w6 hA
    obtain⟨q1,v2,k1,n1,rfl,hv2,hq1,hb⟩:=Zfn hA
    obtain⟨a2,b2,d2,rfl⟩:∃ a b c,v2=.slice a b c:=by obtain⟨a,c,h,_⟩:=hv2;exact⟨_,_,_,h⟩
    have HE6:=Zpz (HE5.out.step hb)
    have HVV:Hid (IIL w6 (.slice a1 b1 d1) p/\IIL w6 (.slice a2 b2 d2) q1):=⟨IIL.stay2 HV1.out hb ZpA,hv2⟩
    have HQ1:=Zpz hq1
    clear hb hA hv2 hq1 c0 c1 c2 HE5 HV1
    have c0:=HE6.out.cell 0 0 (v:=.slice ps ns cs) rfl rfl
    have c1:=HE6.out.cell 0 1 (v:=.slice ph nh ch) rfl rfl
    have c2:=HE6.out.cell 0 2 (v:=.slice pr nr cr) rfl rfl
    go_wp2_with fail
    refine(Zjg (HT.out.below HE6.out.base ZpA) HZ.out (IIL.stay2 HI.out HE6.out.base ZpA) HSM.out).mono ?_
    rintro e w7 hA
    obtain⟨q2,v3,k2,n2,rfl,hv3,hq2,hb⟩:=Zfn hA
    obtain⟨a3,b3,d3,rfl⟩:∃ a b c,v3=.slice a b c:=by obtain⟨a,c,h,_⟩:=hv3;exact⟨_,_,_,h⟩
    have hqq:q2=q1/\k2=k1/\n2=n1:=by
     rcases HQ1.out with ⟨a1,rfl,rfl,rfl⟩ | ⟨a1,⟨j,a2,rfl⟩,rfl⟩<;>rcases hq2 with ⟨b1,rfl,rfl,rfl⟩ | ⟨b1,⟨i,b2,rfl⟩,rfl⟩
     ·exact⟨rfl,rfl,rfl⟩
     ·exact Zpp b1 a1
     ·exact Zpp a1 b1
     ·obtain⟨e1,e2⟩:=b2.det a2
      exact⟨e1,by rw[e2],rfl⟩
    obtain⟨rfl,rfl,rfl⟩:=hqq
    have HE7:=Zpz (HE6.out.step hb)
    have HVS:Hid (∀ V,Below w7.heap.size w7 V->IIL V (.slice a1 b1 d1) p/\IIL V (.slice a2 b2 d2) q2/\IIL V (.slice a3 b3 d3) q2):=fun V hV=>⟨IIL.stay2 (IIL.stay2 HVV.out.1 hb ZpA) hV ZpA,IIL.stay2 (IIL.stay2 HVV.out.2 hb ZpA) hV ZpA,IIL.stay2 hv3 hV ZpA⟩
    have hkk:(k2==k2)=true:=Zc
    have hnn:(n2==n2)=true:=Zc
    clear hb hA hv3 hq2 c0 c1 c2 HE6 HVV HQ1
    go_wp2_with fail
    refine(ZhT (HVS.out _ (ZoL _ _)).2.1 (HVS.out _ (ZoL _ _)).2.2).mono ?_
    rintro e w8 ⟨rfl,hb⟩
    have HE8:=Zpz (HE7.out.step hb)
    have HB8:=Zpz hb
    clear hb
    go_wp2_with fail
    refine(ZhT (HVS.out _ HB8.out).1 (IIL.stay2 HI.out HE8.out.base ZpA)).mono ?_
    rintro e w9 ⟨rfl,hb⟩
    have HE9:=Zpz (HE8.out.step hb)
    clear hb HE8 HE7 HVS HB8
    have hTa:=HT.out.below HE9.out.base ZpA
    go_wp2_with fail
    refine(Zds _ hTa.det hTa.tabs hTa.eff).mono ?_
    rintro e w19 ⟨rfl,hb⟩
    have HE19:=Zpz (HE9.out.step hb)
    clear hb
    go_wp2
    exact ZoM (by simp[results,Tryz.f8,go_sem]) rfl ⟨rfl,HE19.out.base⟩
end Go.Proofs.YtmpaflidennnoaaGreatDoor
namespace Go.Proofs.YtmpaflidennnoaaGreatDoor
open Go.ChangeShapes Go.WideShapes Go.ChangeAt Go.RowKit
theorem ZgC (os:Os) (started:os.Started) (H:Type) (enc:TypeId×Value->H) :
  ReturnsInHanded {} Tryz.checked os 8 .any (fun w args=>(Rows.effortImprovesSpec.pre enc Tryz.prog Tryz.f8 Rows.effortImprovesRow.domain false w args/\laidMetH Tryz.prog Zbe w)/\sizedMet enc Tryz.prog Tryz.f8 (OpenSpec.ofChange Rows.effortImprovesSpec) false w args)
   (Rows.effortImprovesSpec.post enc Tryz.prog Tryz.f8 false true false false):=by
 refine returnsInHanded_of_change_and (C:=Tryz.checked) (X:=fun w _=>laidMetH Tryz.prog Zbe w) (fun _ _ _ hh h=>h.of_heap hh) Znr started Zb Tryz.func8
  (ChangeSpec.witness_shaped (enc:=enc) (C:=Tryz.checked) (os:=os) (X:=fun w _=>laidMetH Tryz.prog Zbe w) false (World.laidAll Tryz.prog os Zbe) #[.agg #[.slice none 0 0,.slice none 0 0,.slice none 0 0],.slice none 0 0,.int .i64 0] 8 (World.laidAll_os _ _ _)
   (World.shaped_of_ZipB Zb Zb) Zb Zb Zb (met9 os _)) ?_
 intro W base args ds gs before hval0 hW hc _ hL _
 have hval:∀ (j:Nat) t v,Tryz.f8.params[j]?=some t->args[j]?=some v->Value.okWide Tryz.prog W .any base t v:=hval0
 have hW':=hW
 obtain⟨p,q,hA0,hV,rfl,_,_⟩:=hW
 have hA:DataW.TrodAll enc Tryz.prog W 0 (fun _=>true) true Tryz.f8.params.toList args.toList ds p:=hA0
 rw[Tryz.params8] at hA hval
 obtain⟨v0,v1,v2,d0,d1,d2,p0,p1,p2,rfl,rfl,rfl,h0,h1,h2⟩:=trodAll_three hA
 obtain⟨rfl,rfl⟩:=trodVars_none hV
 obtain⟨t0,x0,y0,z0,rfl,hT0⟩:=Zn8 (hval 0 _ v0 rfl rfl) h0 hL
 obtain⟨n1,hn1⟩:=Zmy (hval 1 _ v1 rfl rfl) h1
 obtain⟨a2,rfl,rfl,rfl,wa2⟩:=open_int Tryz.underlying3 (hval 2 _ v2 rfl rfl) h2
 have ha2 : -9223372036854775808<=a2/\a2<=9223372036854775807:=by simpa[Lit.wf,IntKind.min,IntKind.max,IntKind.signed,IntKind.bits] using wa2
 clear hA0 hval0
 simp only[List.append_nil] at hW'
 refine(ZiL hT0 hn1 a2).mono fun e W' ⟨he,bel⟩=>?_
 subst he
 have nx:∀ x ∈ ([]:List MemPlace),x.block<W.heap.size:=fun _ h=>by cases h
 have hlt0:∀ x ∈ p0,x.block<W.heap.size:=fun x hx=>by first | (have:=hW'.lt x hx;simpa using this) | (have:=hW'.lt x (by simp[hx]);simpa using this)
 have hlt1:∀ x ∈ p1,x.block<W.heap.size:=fun x hx=>by first | (have:=hW'.lt x hx;simpa using this) | (have:=hW'.lt x (by simp[hx]);simpa using this)
 refine⟨_,rfl,_,_,_,[],p0++p1,[],hW',?_,?_,?_,bel.frame _,fun h=>by cases h⟩
 ·exact trodAll_mk1 (shut_bool Tryz.underlying4 _)
 ·have h9:=trodAll_mk3 (Below.trod Zf7 Zb (of_decide_eq_true Zb) h0 bel hlt0) (Below.trod Zf7 Zb (of_decide_eq_true Zb) h1 bel hlt1) (Below.trod Zf7 Zb (of_decide_eq_true Zb) h2 bel nx)
  first | exact h9 | (simp only[List.append_nil,Zps] at h9;exact h9) | (simp only[<- List.append_assoc,List.append_nil,Zps] at h9;exact h9) | (simpa using h9)
 ·rfl
end Go.Proofs.YtmpaflidennnoaaGreatDoor
