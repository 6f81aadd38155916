/- The parts ECopied2, ESame, Mixed, Products, Errors, RLists, Tried, Update, Updated. -/
import Derived.Test.YtmpaflidennnoaaGreatDoorH30
set_option maxRecDepth 100000
set_option maxHeartbeats 4000000
set_option linter.unusedVariables false
set_option linter.unusedSimpArgs false
namespace Go.Proofs.YtmpaflidennnoaaGreatDoor
open Go.RowKit Go.Shelf
attribute [local go_sem ↓] Go.wp_at_zero Go.wp_at_succ
theorem Zfu {P:Program} {w:World} {ops:Array Oper} {rest:List Oper} {o:Oper} {a:Act} {Q:Exit->Act->World->Prop} (hgd:o.guard=none) (s x:Operand) (t:TypeId)
  (ho:o.op=.call { callee:=.builtin .append,args:=#[s,x],argTypes:=#[t,t] })
  (base:Nat) (e:TypeId) (i:TypeInfo) (size:Nat) (ht:P.underlying t=some (.slice e)) (hi:P.info? e=some i)
  (v:Value) (n:Nat) (xs:List Value) (hs:a.eval s=v) (hown:w.ownsRow base e size v n xs) (c:Nat) (hx:a.eval x=.slice none 0 c)
  (h:wpList P ops Q rest (a.put o.dst v) w):wpList P ops Q (o::rest) a w:=by
 refine wpList_plain hgd fun K hK=>?_
 have hrun:(Builtin.append_ #[t,t] o.type #[v,.slice none 0 c]).run P w=.ok v w:=by
  rcases hown.2 with ⟨rfl,rfl⟩ | ⟨g,cap,cur,rfl,_,_,hnc,_⟩
  ·simp[Builtin.append_,run_underlying ht,sizeOf,typeInfo,hi,Builtin.lenOf,Builtin.firstCells]
  ·simp[Builtin.append_,run_underlying ht,sizeOf,typeInfo,hi,Builtin.lenOf,Builtin.firstCells,hnc,storeCells]
 unfold Oper.wp
 simp[execOp,ho,resolve,invoke,builtin,hs,hx,hrun,Result.andThen]
 exact hK _ _ h
theorem Zga {P:Program} (w:World) {ops:Array Oper} {rest:List Oper} {o:Oper} {a:Act} {Q:Exit->Act->World->Prop} (hgd:o.guard=none) (s x:Operand) (t:TypeId)
  (ho:o.op=.call { callee:=.builtin .append,args:=#[s,x],argTypes:=#[t,t] })
  (base:Nat) (e:TypeId) (i:TypeInfo) (z:Value) (bytes:Nat) (ht:P.underlying t=some (.slice e)) (hi:P.info? e=some i) (hz:i.zero=some z)
  (hsize:i.size=1) (hby:i.bytes=bytes) (hzs:z.cells.size=1)
  (v:Value) (n:Nat) (xs:List Value) (hs:a.eval s=v) (hown:w.ownsRow base e 1 v n xs)
  (v2:Value) (l:List Int) (hx:a.eval x=v2) (hil:LL 1 IntR w v2 l)
  (h63:n+l.length<=maxLen) (hbytes:(n+l.length)*bytes<=140737488355328) (hbase:base<=w.heap.size)
  (h:∀ v' w',w'.ownsRow base e 1 v' (n+l.length) (xs++ints l)->w.grownBy w' v.ownBlock->(v'.ownBlock=v.ownBlock\/v'.ownBlock=some w.heap.size)->wpList P ops Q rest (a.put o.dst v') w'):wpList P ops Q (o::rest) a w:=by
 obtain⟨p,cap,rfl,h1,h2,h3⟩:=hil
 cases p with
 | none=>
  have hl:l=[]:=by
   rcases List.eq_nil_or_concat l with h | ⟨_,_,h⟩
   ·exact h
   ·obtain⟨b,off,h4,_⟩:=h3 (by rw[h];simp)
    cases h4
  subst hl
  exact Zfu hgd s x t ho base e i 1 ht hi v n xs hs hown cap hx (h v w (by simpa[ints] using hown) ⟨rfl,rfl,rfl,Nat.le_refl _,fun _ _ _=>rfl⟩ (.inl rfl))
 | some ad=>
  refine wpList_append_own_at w hgd s x t ho base e i z 1 bytes ht hi hz hsize hby hzs Zd v n xs hs hown ad l.length cap (ints l) hx (by rw[Zcp,Zo2]) (fun j u hu=>?_) (fun u hu=>?_) h63 hbytes hbase fun v' w' g1 g2 _ g3=>h v' w' g1 g2 g3
  ·have hj:j<l.length:=by
    have:=(ZoO.1 hu).1
    simpa[Zcp] using this
   obtain⟨b,off,h4,_,h5⟩:=h3 (Zoy Za)
   obtain rfl:=Zou h4
   rw[ZdD hj] at hu
   have h6:=h5 j hj
   unfold IntR at h6
   rw[Zo2] at h6
   rw[Addr.add_lit,<- hu,h6]
   simp[List.getD,hj]
  ·unfold ints at hu
   obtain⟨y,_,rfl⟩:=List.mem_map.1 hu
   rfl
theorem ZiF {w:World} {base:Nat} {e:TypeId} {size:Nat} {v:Value} {n:Nat} {xs:List Value} (h:w.ownsRow base e size v n xs):∃ p n c,v=.slice p n c:=by
 rcases h.2 with ⟨h2,_⟩ | ⟨g,cap,_,h2,_⟩
 ·exact⟨_,_,_,h2⟩
 ·exact⟨_,_,_,h2⟩
theorem ZnZ {w:World} {base:Nat} {v:Value} {l:List Int} (h:w.ownsRow base 3 1 v l.length (ints l)):LL 1 IntR w v l:=by
 rcases id h.2 with ⟨h2,h3⟩ | ⟨g,cap,cur,hv,hb,hg,k1,k2,k3,k4⟩
 ·exact⟨none,0,by rw[h2,h3],Za,Zd,fun hne=>Zo4 (List.length_eq_zero_iff.1 h3) hne⟩
 ·refine⟨some ⟨g,0,none⟩,cap,hv,k1,k2,fun _=>⟨g,0,rfl,(Zo9 hg),fun j hj=>?_⟩⟩
  have ho:=h
  rw[hv] at ho
  have c:=World.ownsRow.cellAt ho j Za
  rw[ZdD hj] at c
  unfold IntR
  rw[Nat.zero_add,Zo2,c]
  simp[List.getD,hj]
structure CopyK (p:List (List Int)) (m:Nat) (pv:Value) (vs:List Value) (w:World):Prop where
 outer:w.ownsRow m 23 1 pv p.length vs
 row:∀ u (h:u<p.length),∃ v,vs[u]?=some v/\w.ownsRow m 3 1 v p[u].length (ints p[u])/\(v.ownBlock=none\/v.ownBlock≠pv.ownBlock)
section
variable {p:List (List Int)} {m:Nat} {pv pv' v:Value} {vs:List Value} {w w':World} {l:List Int}
theorem CopyK.keep (h:CopyK p m pv vs w) (hb:Below w.heap.size w w'):CopyK p m pv vs w':=
 ⟨Zae h.outer fun g hg=>hb.block g (ZoE h.outer g hg).2,fun u hu=>by
  obtain⟨v,h1,h2,h3⟩:=h.row u hu
  exact⟨v,h1,Zae h2 fun g hg=>hb.block g (ZoE h2 g hg).2,h3⟩⟩
theorem CopyK.snoc (h:CopyK p m pv vs w) (hv:w.ownsRow m 3 1 v l.length (ints l)) (hne:v.ownBlock=none\/v.ownBlock≠pv.ownBlock) (ho:w'.ownsRow m 23 1 pv' (p.length+1) (vs++[v])) (hg:w.grownBy w' pv.ownBlock) (hloc:pv'.ownBlock=pv.ownBlock\/pv'.ownBlock=some w.heap.size):CopyK (p++[l]) m pv' (vs++[v]) w':=by
 have key:∀ (v:Value) (n:Nat) (xs:List Value),w.ownsRow m 3 1 v n xs->(v.ownBlock=none\/v.ownBlock≠pv.ownBlock)->v.ownBlock=none\/v.ownBlock≠pv'.ownBlock:=fun v n xs hr h=>by
  rcases hloc with hl | hl
  ·rw[hl];exact h
  ·rw[hl]
   cases e:v.ownBlock with
   | none=>exact .inl rfl
   | some g=>
    refine .inr fun e2=>?_
    have:=(ZoE hr g e).2
    have:=Zou e2
    omega
 have hlen:vs.length=p.length:=by have:=h.outer.1;omega
 refine⟨by rw[ZoH];exact ho,fun u hu=>?_⟩
 by_cases e:u=p.length
 ·subst e
  refine⟨v,by rw[<- hlen];simp,?_,key _ _ _ hv hne⟩
  rw[show (p++[l])[p.length]=l by simp]
  exact World.ownsRow.kept hv hg hne
 ·have hu':u<p.length:=by rw[ZoH] at hu;simp at hu;omega
  obtain⟨v2,h1,h2,h3⟩:=h.row u hu'
  refine⟨v2,by rw[List.getElem?_append_left Za];exact h1,?_,key _ _ _ h2 h3⟩
  rw[show (p++[l])[u]=p[u] by rw[List.getElem_append_left hu']]
  exact World.ownsRow.kept h2 hg h3
theorem CopyK.toIIL (h:CopyK p m pv vs w):IIL w pv p:=by
 obtain⟨h1,h2⟩:=id h.outer
 rcases h2 with ⟨h2,h3⟩ | ⟨pb,pc,cur,hv,hb,hg,k1,k2,k3,k4⟩
 ·exact⟨none,0,by rw[h2,h3],Za,Zd,fun hne=>Zo4 (List.length_eq_zero_iff.1 h3) hne⟩
 ·refine⟨some ⟨pb,0,none⟩,pc,hv,k1,k2,fun _=>⟨pb,0,rfl,(Zo9 hg),fun j hj=>?_⟩⟩
  have ho:=h.outer
  rw[hv] at ho
  have c1:=World.ownsRow.cellAt ho j Za
  obtain⟨v,e1,e2,_⟩:=h.row j hj
  rw[e1] at c1
  exact⟨v,by rw[Nat.zero_add,Zo2];exact c1,ZnZ e2⟩
end
structure CopyG (p:List (List Int)) (m:Nat) (wr V2 V3:World) (pv v:Value) (vs:List Value) (l:List Int):Prop where
 plan:CopyK p m pv vs V3
 news:∀ j u,([v])[j]?=some u->V3.cell? ((⟨V2.heap.size,0,none⟩:Addr).add j)=some u
 below:Below wr.heap.size wr V3
 row:V3.ownsRow m 3 1 v l.length (ints l)
 ne:v.ownBlock=none\/v.ownBlock≠pv.ownBlock
 mle:m<=V3.heap.size
theorem Zob {p:List (List Int)} {m:Nat} {wr V2:World} {pv v:Value} {vs:List Value} {l:List Int} (h:CopyK p m pv vs wr) (hm:m<=wr.heap.size) (hown:V2.ownsRow m 3 1 v (0+l.length) ([]++ints l)) (hgrow:(wr.alloc (.cells #[] 3)).grownBy V2 (Value.slice (some ⟨wr.heap.size,0,none⟩) 0 0).ownBlock)
  (hat:v.ownBlock=(Value.slice (some ⟨wr.heap.size,0,none⟩) 0 0).ownBlock\/v.ownBlock=some (wr.alloc (.cells #[] 3)).heap.size) :
  CopyG p m wr V2 (V2.alloc (.cells #[v] 23)) pv v vs l:=by
 rw[Nat.zero_add,Zo7] at hown
 have hB2:Below wr.heap.size wr V2:=((Zoq wr.heap.size wr).alloc Zpf _).grown hgrow Zc (fun z hz=>by cases hz;exact Nat.le_refl _)
 have hB3:Below wr.heap.size wr (V2.alloc (.cells #[v] 23)):=hB2.trans (((Zoq _ V2).alloc Zpf _).mono hB2.size)
 refine⟨h.keep hB3,Zdh V2 _ _,hB3,Zae hown fun x hx=>ZoG _ _ _ (ZoE hown x hx).2,.inr fun e=>?_,by have:=hB3.size;omega⟩
 have hx:∀ x,v.ownBlock=some x->wr.heap.size<=x:=fun x hx=>by
  rcases hat with h | h
  ·rw[h] at hx;cases hx;exact Nat.le_refl _
  ·rw[h] at hx;have:=Zou hx;rw[ZoP] at this;omega
 cases hv:v.ownBlock with
 | none=>
  rcases hat with h | h
  ·rw[hv] at h;cases h
  ·rw[hv] at h;cases h
 | some x=>
  have h1:=hx x hv
  have:=(ZoE h.outer x (by rw[<- e,hv])).2
  omega
theorem ZkB {p:List (List Int)} {pv0:Value} {w:World} (hp:IIL w pv0 p) (hpl:p.length<=10) (hrow:∀ u (h:u<p.length),p[u].length<=26) :
  Calls Tryz.prog 23 #[pv0] w (fun e w'=>∃ pv,e=.returned pv/\IIL w' pv p/\Below w.heap.size w w'):=by
 obtain⟨T,hT⟩:=Zpg p.length
 obtain⟨pp,pc,rfl,hpc1,hpc2⟩:=hp.shape hT
 rw[hT] at hpl
 have HP:=Zpe hp
 have HTT:=Zpe hT
 have HROW:=Zpe hrow
 obtain⟨i0,hi,hz0,hz1,hz2⟩:=info_parts ZeL
 obtain⟨i1,hi',hz0',hz1',hz2'⟩:=info_parts Zff
 obtain⟨m,hm⟩:=Zpg w.heap.size
 have HM:=Zpe hm
 have HP0:Hid (CopyK (p.take 0) m (.slice none 0 0) [] w):=⟨World.ownsRow_nil _ _ _ _,fun u hu=>by simp at hu⟩
 clear hp hT hrow hm
 go_enter Tryz.func23,Tryz.ntmps23
 go_wp2_with fail
 go_loopw [3,8] (fun pvv iv wr=>∃ (k:Nat) (vs:List Value),iv=.int .i64 k/\k<=T/\Hid (CopyK (p.take k) m pvv vs wr)/\Zo8 w wr) (fun _ iv _=>T-(intOf iv).toNat)
 case atStart=>exact⟨0,_,rfl,ZoD _,HP0,Zoq _ _⟩
 case round=>
  obtain⟨k,vs,rfl,hk,HK,HB⟩:=hrel
  clear HP0
  by_cases hlt:k<T
  ·have hkl:((p.take k)).length=k:=by rw[Zo6,HTT.out];omega
   have hkp:k<p.length:=by rw[HTT.out];exact hlt
   have HKL:=Zpe hkl
   obtain⟨b0,o0,_,hv9,_,_,hb0,hat⟩:=Zbm (IIL.stay2 HP.out HB.out Zpf) Za
   injection hv9 with z1 z2 z3
   subst z1
   obtain⟨v,d1,d2⟩:=hat k hkp
   obtain⟨l,hl⟩:=Zpg (p[k])
   have hlen:=HROW.out k hkp
   rw[hl] at d2 hlen
   rw[Zo2] at d1
   have HLL:=Zpe hl
   obtain⟨rp,rn,rc,hvf⟩:∃ p n c,v=.slice p n c:=by
    obtain⟨p,c,h,_⟩:=id d2
    exact⟨_,_,_,h⟩
   obtain⟨pq,pn,pcap,rfl⟩:∃ p n c,u3=Value.slice p n c:=ZiF HK.out.outer
   have HB0:Below wr.heap.size wr (wr.alloc (.cells #[] 3)):=(Zoq wr.heap.size wr).alloc Zpf _
   have hil:LL 1 IntR (wr.alloc (.cells #[] 3)) (.slice rp rn rc) l:=by rw[<- hvf];exact LL.after IntR.stays d2 HB0 Zpf
   rw[hvf] at d1
   have hwm:m<=wr.heap.size:=by rw[<- HM.out];exact HB.out.size
   have hwm':m<=(wr.alloc (.cells #[] 3)).heap.size:=by rw[ZoP];omega
   have hlit:(wr.alloc (.cells #[] 3)).ownsRow m 3 1 (.slice (some ⟨wr.heap.size,0,none⟩) 0 0) 0 []:=World.ownsRow_lit wr #[] 0 hwm (by simp[maxLen]) rfl
   have i0':(0:Int)<=(k:Int):=Za
   have i1':(k:Int)<(T:Int):=Za
   have hm1:0+l.length<=maxLen:=by unfold maxLen;omega
   have hm2:(0+l.length)*8<=140737488355328:=Za
   have hm3:(p.take k).length+1<=maxLen:=by rw[hkl];unfold maxLen;omega
   have hm4:((p.take k).length+1)*24<=140737488355328:=by rw[hkl];omega
   clear hat hb0 d2 hl hkl z2 z3 hvf
   go_wp2_with (first | (at_builtin;refine Zga _ rfl (.tmp 13) (.tmp 14) 23 rfl m 3 i1 (.int .i64 0) 8 Tryz.underlying23 hi' hz0' hz1' hz2' rfl _ 0 [] rfl hlit _ l rfl hil hm1 hm2 hwm' ?_;intro v1 V2 hown1 hgrow1 hat1;obtain⟨p2,n2,c2,rfl⟩:=ZiF hown1;obtain⟨V3,hV3⟩:=Zpg (V2.alloc (.cells #[.slice p2 n2 c2] 23));have hfacts:CopyG (p.take k) m wr V2 V3 (.slice pq pn pcap) (.slice p2 n2 c2) vs l:=(by subst hV3;exact Zob HK.out hwm hown1 hgrow1 hat1);obtain⟨hp3,hnews,hb3,hrow3,hne3,hm5⟩:=hfacts;have hown2:=hp3.outer) | (at_builtin;refine wpList_append_own_at _ rfl (.tmp 12) (.tmp 16) 29 rfl m 23 i0 (.slice none 0 0) 1 24 Tryz.underlying29 hi hz0 hz1 hz2 rfl Zd (.slice pq pn pcap) _ _ rfl hown2 ⟨V2.heap.size,0,none⟩ 1 1 [.slice p2 n2 c2] rfl rfl hnews (by simp[Value.oneCell']) hm3 hm4 hm5 ?_;intro v4 V4 hown4 hgrow4 _ hloc4))
   have hsn:=hp3.snoc hrow3 hne3 hown4 hgrow4 hloc4
   have hb4:Below w.heap.size w V4:=(HB.out.trans (hb3.mono HB.out.size)).grown hgrow4 (by have:=hb3.size;have:=HB.out.size;omega) (fun x hx=>by have:=(ZoE hp3.outer x hx).1;have:=HM.out;omega)
   have e9:p.take k++[l]=p.take (k+1):=by
    rw[List.take_add_one,ZoL hkp,HLL.out]
    rfl
   rw[e9] at hsn
   refine⟨⟨k+1,_,by go_num,Za,hsn,hb4⟩,?_⟩
   simp[intOf]
   omega
  ·obtain rfl:k=T:=Za
   have e:p.take k=p:=by rw[<- HTT.out,List.take_length]
   rw[e] at HK
   have HI:=Zpe HK.out.toIIL
   go_wp2
   exact Zor (by simp[results,Tryz.f23,go_sem]) rfl ⟨_,rfl,HI.out,HB.out⟩
theorem ZiI {a b:Value} {xs:List Int} {w:World} (ha:IL w a xs) (hb:IL w b xs):Calls Tryz.prog 58 #[a,b] w (Z3 w true):=by
 obtain⟨n,hn⟩:=Zpg xs.length
 obtain⟨pa,ca,rfl,ka1,ka2⟩:=ha.shape hn
 obtain⟨pb,cb,rfl,kb1,kb2⟩:=hb.shape hn
 have HA:=Zpe ha
 have HB:=Zpe hb
 have HN:=Zpe hn
 have hne:((n:Int) !=(n:Int))=false:=Zc
 clear ha hb hn
 go_enter Tryz.func58,Tryz.ntmps58
 go_wp2_with fail
 go_loopw [5] (fun iv wr=>∃ k:Nat,iv=.int .i64 k/\k<=n/\Zo8 w wr) (fun iv _=>n-(intOf iv).toNat)
 case atStart=>exact⟨0,rfl,ZoD _,Zoq _ _⟩
 case round=>
  obtain⟨k,rfl,hk,HW⟩:=hrel
  by_cases hlt:k<n
  ·obtain⟨b1,o1,rfl,g1,g2⟩:=HA.out.at IntR.stays HN.out Za
   obtain⟨b2,o2,rfl,h1,h2⟩:=HB.out.at IntR.stays HN.out Za
   have c1:=g2 wr.drew HW.out.drew k (by rw[HN.out];exact hlt)
   have c2:=h2 wr.drew HW.out.drew k (by rw[HN.out];exact hlt)
   unfold IntR at c1 c2
   rw[Zo2] at c1 c2
   obtain⟨x,hx⟩:∃ z,xs[k]'(by rw[HN.out];exact hlt)=z:=⟨_,rfl⟩
   rw[hx] at c1 c2
   have hxx:(x !=x)=false:=Zc
   have i0':(0:Int)<=(k:Int):=Za
   have i1':(k:Int)<(n:Int):=Za
   clear g1 g2 h1 h2 hx
   go_wp2_with fail
   refine ZP [(1,0),(1,1),(1,2),(1,3),(1,4),(1,5),(1,6),(1,7),(1,8)] (fun V=>V=wr.drew) (fun _=>false)
    Zb Zb (fun j hj=>rfl) Zi rfl ?_
   iterate 9
    refine Zx _ rfl rfl (fun w' hS=>by subst hS;exact Zf) ?_
    simp only[Act.put,Zl]
   refine ZD ?_
   have HW2:Hid (Below w.heap.size w wr.drew):=HW.out.drew
   go_wp2
   go_roundw
   case rel=>exact⟨k+1,by go_num,Za,HW2⟩
   case measure=>exact Zj
  ·obtain rfl:k=n:=Za
   go_wp2
   exact Zor (by simp[results,Tryz.f58,go_sem]) rfl ⟨rfl,HW.out⟩
theorem Zl3 {a b:Value} {p:List (List Int)} {w:World} (ha:IIL w a p) (hb:IIL w b p):Calls Tryz.prog 18 #[a,b] w (Z3 w true):=by
 obtain⟨n,hn⟩:=Zpg p.length
 obtain⟨pa,ca,rfl,ka1,ka2⟩:=ha.shape hn
 obtain⟨pb,cb,rfl,kb1,kb2⟩:=hb.shape hn
 have HA:=Zpe ha
 have HB:=Zpe hb
 have HN:=Zpe hn
 have hne:((n:Int) !=(n:Int))=false:=Zc
 clear ha hb hn
 go_enter Tryz.func18,Tryz.ntmps18
 go_wp2_with fail
 go_loopw [5] (fun iv wr=>∃ k:Nat,iv=.int .i64 k/\k<=n/\Zo8 w wr) (fun iv _=>n-(intOf iv).toNat)
 case atStart=>exact⟨0,rfl,ZoD _,Zoq _ _⟩
 case round=>
  obtain⟨k,rfl,hk,HW⟩:=hrel
  by_cases hlt:k<n
  ·obtain⟨b1,o1,rfl,g1,g2⟩:=HA.out.at IIL.stays HN.out Za
   obtain⟨b2,o2,rfl,h1,h2⟩:=HB.out.at IIL.stays HN.out Za
   obtain⟨v1,c1,l1⟩:=g2 wr.drew HW.out.drew k (by rw[HN.out];exact hlt)
   obtain⟨v2,c2,l2⟩:=h2 wr.drew HW.out.drew k (by rw[HN.out];exact hlt)
   rw[Zo2] at c1 c2
   obtain⟨q1,e1,rfl,_⟩:=id l1
   obtain⟨q2,e2,rfl,_⟩:=id l2
   obtain⟨l,hl⟩:∃ z,(p[k]'(by rw[HN.out];exact hlt)).length=z:=⟨_,rfl⟩
   rw[hl] at c1 c2 l1 l2
   have HL:=Zpe (Zo5 l1 l2)
   have i0':(0:Int)<=(k:Int):=Za
   have i1':(k:Int)<(n:Int):=Za
   clear g1 g2 h1 h2 hl l1 l2
   go_wp2_with fail
   refine ZP [(1,0),(1,1),(1,2),(1,3),(1,4),(1,5),(1,6),(1,7),(0,8),(0,9)] (fun V=>V=wr.drew) (fun i=>i==8 || i==9)
    Zb Zb (fun j hj=>by have h:10<=j:=hj;simp;omega) Zi rfl ?_
   iterate 8
    refine Zx _ rfl rfl (fun w' hS=>by subst hS;exact Zf) ?_
    simp only[Act.put,Zl]
   refine ZB rfl rfl fun K hK=>?_
   go_simp
   go_at_call 58
   refine(ZiI HL.out.1 HL.out.2).mono ?_
   rintro e w3 ⟨rfl,hb⟩
   have HW2:Zo8 w w3:=HW.out.drew.trans (hb.mono HW.out.drew.size)
   refine hK _ _ (.inl rfl) ?_
   clear hK K hb
   refine ZB rfl rfl fun K hK=>?_
   go_simp
   refine hK _ _ (.inl rfl) ?_
   clear hK K
   refine ZD ?_
   go_wp2
   go_roundw
   case rel=>exact⟨k+1,by go_num,Za,HW2⟩
   case measure=>exact Zj
  ·obtain rfl:k=n:=Za
   go_wp2
   exact Zor (by simp[results,Tryz.f18,go_sem]) rfl ⟨rfl,HW.out⟩
section
variable {P:Program} {ops:Array Oper} {Q:Exit->Act->World->Prop} {md:Region.Mode} {S:World->Prop} {bar:Nat->Bool}
end
theorem Zv.store {B:Nat} {os:List Obj} {w:World} (h:Zv B os w) (i j:Nat) {cs:Array Value} {T:TypeId} (ho:os[i]?=some (.cells cs T (0,0))) (v:Value) {b:Nat} (hb:b=B+i) :
  Zv B (os.set i (.cells (cs.setIfInBounds j v) T (0,0))) (w.setCell ⟨b,j,Option.none⟩ v):=by
 subst hb
 have hi:i<os.length:=(ZoO.1 ho).1
 have h0:=h.2 i _ ho
 refine⟨by rw[List.length_set];exact Zoz h.1 (by simp[World.setCell]),fun k o hk=>?_⟩
 by_cases hki:k=i
 ·subst hki
  rw[List.getElem?_set_self hi] at hk
  obtain rfl:=Zou hk
  exact Zov h0 v
 ·rw[List.getElem?_set_ne (Ne.symm hki)] at hk
  rw[Zos _ _ _ _ (by simp;omega)]
  exact h.2 k o hk
theorem PL.put {w w':World} {v:Value} {us:List PP} {B:Nat} (h:Own w B v us) (hk:∀ g,B<=g->g<w.heap.size->w'.heap[g]?=w.heap[g]?):PL w' v us:=by
 refine(h.kept fun g hg hv=>hk g hg ?_).pl
 exact(ZoE h g hv).2
end Go.Proofs.YtmpaflidennnoaaGreatDoor
