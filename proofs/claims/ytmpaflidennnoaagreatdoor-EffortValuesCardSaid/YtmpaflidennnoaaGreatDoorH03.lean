/- The parts Builder, Format, Groups, Make, Region, Reads, Short. -/
import Derived.Test.YtmpaflidennnoaaGreatDoorH00
import Derived.Shelf.Strings.BuilderK
import Derived.Lib.AppendIntMem
import Derived.Test.YtmpaflidennnoaaGreatDoorH02
import Derived.StillTailTactics
import Derived.OrdersIn
import Derived.OrdersHeld
import Derived.Deep.QuietTactic
import Derived.BigQuiet
set_option maxRecDepth 100000
set_option maxHeartbeats 4000000
set_option linter.unusedVariables false
set_option linter.unusedSimpArgs false
namespace Go.Proofs.YtmpaflidennnoaaGreatDoor
open Go.RowKit Go.Shelf
theorem bX:Builder.Extra Tryz.prog Tryz.lays169_ren:=Tryz.Builder_Extra_169
theorem Zg4 (b:Nat) (w:World) (h0:w.cell? ⟨b,0,none⟩=some (.pointer (some ⟨b,0,none⟩))) :
  Calls Tryz.prog 220 #[.pointer (some ⟨b,0,none⟩)] w fun e w'=>e=.returned (.tuple #[])/\w'=w:=by
 obtain⟨j,hj,_⟩:=Option.map_eq_some_iff.1 bX.sizeBuilder
 go_enter Tryz.func220,Tryz.ntmps220
 go_wp2
 rw[Lib.run_neq_ptr_same w _ Tryz.underlying235 hj]
 go_wp2
 go_end0
 exact⟨rfl,rfl⟩
theorem Zgw (b:Nat) (w:World) (h0:w.cell? ⟨b,0,none⟩=some (.pointer none)) (hsh:w.shape? b=some (238,2)) (hfz:w.frozen? ⟨b,0,none⟩=false) :
  Calls Tryz.prog 220 #[.pointer (some ⟨b,0,none⟩)] w fun e w'=>e=.returned (.tuple #[])/\w'=w.setCell ⟨b,0,none⟩ (.pointer (some ⟨b,0,none⟩)):=by
 obtain⟨j,hj,hjs⟩:=Option.map_eq_some_iff.1 bX.sizeBuilder
 go_enter Tryz.func220,Tryz.ntmps220
 go_wp2
 rw[Lib.run_to_unsafe w ⟨b,0,none⟩ Tryz.underlying235 Tryz.underlying276 hj (by rw[hjs];decide) hsh (Nat.zero_lt_succ 1)]
 simp only[Result.andThen]
 rw[Oper.upon_value]
 go_wp2
 rw[run_callFunc_extern Tryz.func234 Zb Zb Zb (e:=Extern.AbiNoEscape.same) Zb]
 rw[Lib.run_noEscape]
 simp only[Result.andThen]
 rw[Oper.upon_value]
 go_wp2
 rw[Lib.run_from_unsafe w ⟨b,0,none⟩ Tryz.underlying276 Tryz.underlying235 hj hsh bX.liesBuilder]
 simp only[Result.andThen]
 rw[Oper.upon_value]
 go_wp2
 go_end0
 exact⟨rfl,rfl⟩
def Bld (B b:Nat) (l:List UInt8) (w:World):Prop:=Lib.IsBuilderF 238 5 B b (Lib.byteCells l) w
theorem ZhZ (B b:Nat) (bs:List Value) (w:World) (h:Lib.IsBuilderF 238 5 B b bs w) :
  Calls Tryz.prog 220 #[.pointer (some ⟨b,0,none⟩)] w fun e w'=>e=.returned (.tuple #[])/\
   (Lib.BuilderAtF 238 5 B b (.pointer (some ⟨b,0,none⟩)) bs w'/\Below B w w'/\Lib.OthersKept 5 (some b) w w'):=by
 rcases h with h | h
 ·refine(Zgw b w h.cell0 h.shape h.frozen0).mono ?_
  rintro e w' ⟨rfl,rfl⟩
  exact⟨rfl,h.used _,(Zoq B w).setCell (p:=⟨b,0,none⟩) h.1 _,(Lib.OthersKept.refl _ _ w).setCell ⟨b,0,none⟩ rfl _⟩
 ·refine(Zg4 b w h.cell0).mono ?_
  rintro e w' ⟨rfl,rfl⟩
  exact⟨rfl,h,Zoq B _,Lib.OthersKept.refl _ _ _⟩
theorem ZfD (B b:Nat) (bs:List Value) (s:ByteArray) (w:World) (h:Lib.IsBuilderF 238 5 B b bs w) (hlen:bs.length+s.size<=140737488355328) (hBw:B<=w.heap.size) :
  Calls Tryz.prog 197 #[.pointer (some ⟨b,0,none⟩),.string s] w fun e w'=>e=.returned (.tuple #[.int .i64 s.size,.nilIface])/\
   (Lib.BuilderAtF 238 5 B b (.pointer (some ⟨b,0,none⟩)) (bs++Lib.strCells s) w'/\Below B w w'/\Lib.OthersKept 5 (some b) w w'):=by
 obtain⟨i0,hi,hz0,hz1,hz2⟩:=info_parts bX.infoByte
 go_enter Tryz.func197,Tryz.ntmps197
 go_wp2_with (go_at_call 220;refine(ZhZ B b bs _ h).mono ?_)
 rintro e w1 ⟨rfl,h1,hb1,hk1⟩
 obtain⟨hB,v,hbk,hown,hne⟩:=h1
 have c0:w1.cell? ⟨b,0,none⟩=some (.pointer (some ⟨b,0,none⟩)):=by rw[Lib.cell_of_heap hbk];rfl
 have c1:w1.cell? ⟨b,1,none⟩=some v:=by rw[Lib.cell_of_heap hbk];rfl
 go_wp2_with (at_builtin;refine Lib.wpList_append_own_stringF _ rfl _ _ 236 9 rfl B 5 i0 Tryz.underlying236 Tryz.underlying9 hi hz0 hz1 hz2 _ _ _ rfl hown s rfl ?c3 ?c4 ?c5 ?_)
 case c3=>unfold maxLen;omega
 case c4=>omega
 case c5=>have:=hb1.size;omega
 intro v' w2 hown' hgrow _
 have hlt:b<w1.heap.size:=(Zo9 hbk)
 have hb2:w2.heap[b]?=some (.cells #[.pointer (some ⟨b,0,none⟩),v] 238 (0,0)):=by
  rw[hgrow.block b hlt (fun e=>hne e.symm)]
  exact hbk
 have d0:w2.cell? ⟨b,0,none⟩=some (.pointer (some ⟨b,0,none⟩)):=by rw[Lib.cell_of_heap hb2];rfl
 have d1:w2.cell? ⟨b,1,none⟩=some v:=by rw[Lib.cell_of_heap hb2];rfl
 have f1:w2.frozen? ⟨b,1,none⟩=false:=Lib.frozen_of_heap hb2 1
 obtain⟨ao,n',cap,rfl⟩:∃ ao n' cap,v'=.slice ao n' cap:=by
  rcases hown'.2 with ⟨hv,_⟩ | ⟨g,cap,cur,fz,hv,_⟩
  ·exact⟨_,_,_,hv⟩
  ·exact⟨_,_,_,hv⟩
 go_wp2
 go_ret2
 refine⟨rfl,?_,?_,(hk1.grown hgrow (Lib.ownsRowF_kind hown)).setCell ⟨b,1,none⟩ rfl _⟩
 ·exact Lib.BuilderAtF.put (T:=238) (e:=5) hB hb2 (bs':=bs++Lib.strCells s) (by simpa[Lib.strCells_length] using hown') bX.neB5
 ·exact(hb1.grown hgrow (by have:=hb1.size;omega) (fun k hk=>(hown.lt k hk).1)).setCell (p:=⟨b,1,none⟩) hB _
end Go.Proofs.YtmpaflidennnoaaGreatDoor
namespace Go.Proofs.YtmpaflidennnoaaGreatDoor
open Go.RowKit Go.Shelf Go.Sort Go.Lib
theorem Zf5 (i:Nat) (hi:i<100) (w:World) :
  Calls Tryz.prog 221 #[.int .u64 i,.int .i64 10] w fun e w'=>e=.returned (.string ⟨(Lib.decDigits i).toArray⟩)/\Below w.heap.size w w':=by
 go_enter Tryz.func221,Tryz.ntmps221
 go_wp2_with (go_at_call 235;refine(Tryz.internal_strconv_small i hi _).mono ?_;rintro e w' ⟨rfl,rfl⟩)
 go_ret
 exact⟨rfl,Zoq _ _⟩
theorem Zf8 (u:Nat) (hu:100<=u) (hu64:u<18446744073709551616) (w:World) (htab:Lib.TabIs Tryz.prog w "internal/strconv.uint64pow10" .u64 Lib.pow10Tab) :
  Calls Tryz.prog 221 #[.int .u64 u,.int .i64 10] w fun e w'=>e=.returned (.string ⟨(Lib.decDigits u).toArray⟩)/\Below w.heap.size w w':=by
 have hu1:1<=u:=Za
 have hnd20:Lib.nDigits u<=20:=by have:=Lib.numDigits_eq u hu1 hu64;split at this<;>omega
 have hal:Tryz.prog.arrayLen 278=24:=Zb
 have hel:Tryz.prog.elem 278=5:=Zb
 have hsl1:∀ W,(Instr.sliceAt 278 (.pointer (some ⟨w.heap.size,0,none⟩)) none (some (.int .i64 (Lib.nDigits u:Int))) none).run Tryz.prog W=.ok (.slice (some ⟨w.heap.size,0,none⟩) (Lib.nDigits u) 24) W:=fun W=>by
  rw[run_sliceAt_array_h W 278 ⟨w.heap.size,0,none⟩ (by simp[hal,hel]) .i64 (Lib.nDigits u:Int) Za (by rw[hal];omega)]
  go_simp
 have hH0:=Lib.holds_zero0 w 278 (Lib.nDigits u) Za
 have hfmt:=Tryz.internal_strconv_formatBase10 w.heap.size 0 24 u (Array.replicate (Lib.nDigits u) 0) (w.alloc (.cells Lib.zeros24 278)) hH0 (by rw[Array.size_replicate];exact Lib.lt_pow_nDigits u) hu64 (by rw[Array.size_replicate];omega)
 rw[Array.size_replicate] at hfmt
 have HH0:=Zpe hH0
 clear hH0 hal hel
 have hul:¬ (u:Int)<100:=Za
 go_enter Tryz.func221,Tryz.ntmps221
 go_wp2_with (first
  | (go_at_call 236;refine(Tryz.internal_strconv_numDigits u hu1 hu64 _ (Lib.tabIs_alloc htab _)).mono ?_;rintro e w' ⟨rfl,rfl⟩))
 refine hfmt.mono ?_
 rintro e w' ⟨rfl,k,v',dk,rfl,hF⟩
 have hcv:(convert 236 9 (.slice (some ⟨w.heap.size,0,none⟩) (Lib.nDigits u) 24)).run Tryz.prog ((putRow (fun(b:UInt8)=>Value.int .u8 (b.toNat:Int)) (w.alloc (.cells Lib.zeros24 278)) w.heap.size 0 dk).drewN k)=.ok (.string ⟨(Lib.decDigits u).toArray⟩) ((putRow (fun(b:UInt8)=>Value.int .u8 (b.toNat:Int)) (w.alloc (.cells Lib.zeros24 278)) w.heap.size 0 dk).drewN k):=by
  have h:=run_convert_bytes_back (P:=Tryz.prog) ((putRow (fun(b:UInt8)=>Value.int .u8 (b.toNat:Int)) (w.alloc (.cells Lib.zeros24 278)) w.heap.size 0 dk).drewN k) 236 9 5 ⟨w.heap.size,0,none⟩ 24 (Lib.decDigits u) Tryz.underlying236 Tryz.underlying5 Tryz.underlying9 (fun j hj=>by
   rw[Lib.row_is_numeral hF j hj,Lib.add_plain,World.cell?_drewN]
   exact cell?_putRow (fun(b:UInt8)=>Value.int .u8 (b.toNat:Int)) _ w.heap.size 0 _ dk HH0.out (by rw[hF.size,Array.size_replicate]) j (by rw[hF.size];rw[Lib.decDigits_length] at hj;exact hj))
  rw[Lib.decDigits_length] at h
  exact h
 go_wp2
 go_ret
 refine⟨rfl,?_⟩
 obtain⟨os,eo⟩:=Lib.fin_at w (.cells Lib.zeros24 278) dk k 0
 rw[eo]
 exact Lib.below_grow _ _ Zpf _ _
theorem Zeh (u:Nat) (hu64:u<18446744073709551616) (w:World) (htab:Lib.TabIs Tryz.prog w "internal/strconv.uint64pow10" .u64 Lib.pow10Tab) :
  Calls Tryz.prog 198 #[.int .u64 u,.int .i64 10] w fun e w'=>e=.returned (.string ⟨(Lib.decDigits u).toArray⟩)/\Below w.heap.size w w':=by
 have h:Calls Tryz.prog 221 #[.int .u64 u,.int .i64 10] w fun e w'=>e=.returned (.string ⟨(Lib.decDigits u).toArray⟩)/\Below w.heap.size w w':=by
  rcases Zow u 100 with hu | hu
  ·exact Zf5 u hu w
  ·exact Zf8 u hu hu64 w htab
 go_enter Tryz.func198,Tryz.ntmps198
 go_wp2_with (go_at_call 221;refine h.mono ?_;rintro e w' ⟨rfl,hb⟩)
 have HB:=Zpe hb
 clear hb h
 go_wp2
 go_ret
 exact⟨rfl,HB.out⟩
end Go.Proofs.YtmpaflidennnoaaGreatDoor
namespace Go.Proofs.YtmpaflidennnoaaGreatDoor
open Go.RowKit Go.Shelf
attribute [local go_sem] Oper.semAt_some
theorem Ziw (t:ByteArray) (a:Nat):(t.extract a t.size).data.toList=t.data.toList.drop a:=by
 rw[ByteArray.data_extract,Array.toList_extract,List.extract_eq_take_drop]
 exact ZoA (by rw[List.length_drop,Zz];exact Nat.le_refl _)
theorem Zir (t:ByteArray) (a:Nat):(t.extract 0 a).data.toList=t.data.toList.take a:=by
 rw[ByteArray.data_extract,Array.toList_extract,List.extract_eq_take_drop]
 simp
theorem _root_.Go.RowKit.Below.keepsAll {w w':World} (h:Below w.heap.size w w') (S:Nat->Prop):Keeps S w w':=⟨h.os,h.tape,h.output,h.size,fun k hk _=>h.block k hk⟩
def ZaL (l:List UInt8) (k:Nat):List UInt8:=l.take (l.length-9*k)
def gval (l:List UInt8) (k:Nat):Nat:=Zq ((ZaL l k).drop (l.length-9*k-9))
def Za9 (l:List UInt8):Nat:=(l.length+8)/9
theorem Za5 (l:List UInt8) (k:Nat):(ZaL l k).length=l.length-9*k:=by unfold ZaL;rw[Zo6];omega
theorem Zgy (l:List UInt8):ZaL l 0=l:=by unfold ZaL;exact ZoA Za
theorem ZgG (l:List UInt8) (k:Nat):ZaL l (k+1)=(ZaL l k).take (l.length-9*k-9):=by
 unfold ZaL
 rw[List.take_take]
 congr 1
 omega
theorem ZnR {l:List UInt8} (h:∀ c ∈ l,ZG c=true) (k:Nat):gval l k<1000000000:=by
 have h1:=ZbV (s:=(ZaL l k).drop (l.length-9*k-9)) fun c hc=>h c (List.mem_of_mem_take (List.mem_of_mem_drop hc))
 have h2:((ZaL l k).drop (l.length-9*k-9)).length<=9:=by rw[List.length_drop,Za5];omega
 have h3:10 ^ ((ZaL l k).drop (l.length-9*k-9)).length<=10 ^ 9:=ZoB Za h2
 unfold gval
 omega
theorem Zmw (l:List UInt8) (k:Nat):Zq (ZaL l k)=gval l k+1000000000*Zq (ZaL l (k+1)):=by
 have h1:=Zck ((ZaL l k).take (l.length-9*k-9)) ((ZaL l k).drop (l.length-9*k-9))
 rw[List.take_append_drop,<- ZgG] at h1
 rw[h1]
 unfold gval
 rcases Zow (l.length-9*k) 9 with h2 | h2
 ·have h3:ZaL l (k+1)=[]:=ZoC (by rw[Za5];omega)
  rw[h3,Zb9];omega
 ·have h3:((ZaL l k).drop (l.length-9*k-9)).length=9:=by rw[List.length_drop,Za5];omega
  rw[h3];omega
theorem ZkM (l:List UInt8) (k:Nat):val 1000000000 ((List.range k).map (gval l))+1000000000 ^ k*Zq (ZaL l k)=Zq l:=by
 induction k with
 | zero=>simp[val,Zgy]
 | succ k ih=>
  rw[List.range_succ,List.map_append,List.map_cons,List.map_nil,ZbA,ZoX]
  simp only[List.length_map,List.length_range]
  rw[Zmw] at ih
  grind
theorem ZgZ (l:List UInt8):val 1000000000 ((List.range (Za9 l)).map (gval l))=Zq l:=by
 have h:=ZkM l (Za9 l)
 have h2:ZaL l (Za9 l)=[]:=ZoC (by rw[Za5];unfold Za9;omega)
 rw[h2,Zb9] at h
 simpa using h
theorem ZjK (Bs:Nat) (S:Nat->Prop) (s:ByteArray) (hl:s.size<=1000000) (hd:∀ c ∈ s.data.toList,ZG c=true) (w0:World) (hS:S Bs)
  (hBs:w0.cell? ⟨Bs,0,none⟩=some (.string s)) (hF:w0.frozen? ⟨Bs,0,none⟩=false) :
  Iter Tryz.prog 215 #[.pointer (some ⟨Bs,0,none⟩)] (fun k=>#[.int .u64 (gval s.data.toList k:Nat)]) (Za9 s.data.toList) S (fun b=>b≠Bs) w0:=by
 intro n l J Jx W hK hJ hJx hY h0
 have hB1:W.cell? ⟨Bs,0,none⟩=some (.string s):=hK.cellAt hBs hS
 have hF1:W.frozen? ⟨Bs,0,none⟩=false:=by rw[hK.frozen (ZoK _ _ hBs) hS];exact hF
 have HY:=Zpe hY
 have HJ:=Zpe hJ
 clear hY hBs hF hJ
 refine callsIn_of_wp Tryz.func215 rfl trivial ?_ rfl
 simp only[Tryz.ntmps215,Nat.reduceAdd,Nat.reduceSub,Zpd]
 gi_wp2
 gi_loopw [] (fun wr=>∃ (k:Nat) (t:ByteArray),k<=Za9 s.data.toList/\wr.cell? ⟨Bs,0,none⟩=some (.string t)/\wr.frozen? ⟨Bs,0,none⟩=false/\Hid (t.data.toList=ZaL s.data.toList k)/\J k wr)
  (fun wr=>match wr.cell? ⟨Bs,0,none⟩ with | some (.string t)=>t.size | _=>0)
 case atStart=>exact⟨0,s,ZoD _,hB1,hF1,(Zgy _).symm,h0⟩
 case round=>
  obtain⟨k,t,hk,hc,hf,HT,hJk⟩:=hrel
  obtain⟨r,hr⟩:=Zpg t.size
  have HTS:Hid (r=s.size-9*k):=by show _=_;rw[<- hr,<- Zz,HT.out,Za5,Zz]
  by_cases h0:r=0
  ·have hb:¬ (0:Int)<t.size:=Za
   have hkN:k=Za9 s.data.toList:=by have:=HTS.out;unfold Za9 at *;rw[Zz] at *;omega
   clear h0
   gi_wp2
   go_end0
   exact⟨⟨_,rfl⟩,.inl (by rw[<- hkN];exact hJk)⟩
  ·have hkN:k<Za9 s.data.toList:=by have:=HTS.out;unfold Za9 at *;rw[Zz] at *;omega
   have hrl:r<=1000000:=by have:=HTS.out;omega
   obtain⟨a,ha⟩:=Zpg (r-9)
   have hm:max 0 ((r:Int)-9)=(a:Nat):=Za
   have har:a<=r:=Za
   have HA:Hid (a=s.size-9*k-9):=by have:=HTS.out;show _=_;omega
   have HA9:Hid (r-a<=9/\0<r-a):=by refine⟨?_,?_⟩<;>omega
   have hG:(t.extract a r).data.toList=(ZaL s.data.toList k).drop (s.size-9*k-9):=by
    rw[<- HA.out,<- HT.out,<- hr]
    exact Ziw t a
   have hL:(t.extract a r).size=r-a:=by
    rw[<- Zz,hG,List.length_drop,Za5,Zz]
    have:=HTS.out;have:=HA.out;omega
   have hP:Lib.parseUintB 64 (t.extract a r).data.toList=.ok (gval s.data.toList k):=by
    rw[Zfi]
    ·rw[hG];rfl
    ·intro c hc;rw[hG] at hc;exact hd c (List.mem_of_mem_take (List.mem_of_mem_drop hc))
    ·intro hc
     have h1:=congrArg List.length hc
     rw[Zz,hL] at h1
     have:=HA9.out.2
     simp at h1;omega
    ·rw[Zz,hL];have:=HA9.out.1;omega
   have hu:=Tryz.strconv_ParseUint_10_at64_ok (t.extract a r) (by rw[hL];omega) _ hP wr
   have HG2:Hid ((t.extract 0 a).data.toList=ZaL s.data.toList (k+1)):=by
    show _=_
    rw[ZgG,Zz,<- HA.out,<- HT.out]
    exact Zir t a
   clear hP hG ha
   gi_wp2
   refine⟨trivial,(fun h=>by cases h),ZoU.2 (hu.mono ?_)⟩
   rintro e w2 ⟨rfl,hw2⟩
   have hk2:∀ S':Nat->Prop,Keeps S' wr w2:=fun S'=>by
    rcases hw2 with rfl | rfl
    ·exact Keeps.refl _ _
    ·exact(Joins.below_bytesWorld wr.heap.size wr 5 (t.extract a r) Zpf).keepsAll S'
   have hJ2:J k w2:=HJ.out _ _ _ hJk (hk2 _)
   have hc2:w2.cell? ⟨Bs,0,none⟩=some (.string t):=(hk2 (fun _=>True)).cellAt hc trivial
   have hf2:w2.frozen? ⟨Bs,0,none⟩=false:=by rw[(hk2 (fun _=>True)).frozen (ZoK _ _ hc) trivial];exact hf
   obtain⟨fn,tmps,assign,body,hy,hR⟩:=HY.out k w2 hkN hJ2
   obtain⟨g,hg⟩:=Zpg (gval s.data.toList k)
   rw[hg] at hy ⊢
   have HC:=Zpe hc
   clear hu hw2 hk2 hJ2 hJk hc hf hg
   gi_wp2
   refine⟨(fun h=>by cases h),hR.mono ?_⟩
   rintro e W3 (⟨rfl,hJ3,hk3⟩ | ⟨rfl,hJx3⟩)
   ·have hc3:W3.cell? ⟨Bs,0,none⟩=some (.string t):=hk3.cellAt hc2 hS
    have hf3:W3.frozen? ⟨Bs,0,none⟩=false:=by rw[hk3.frozen (ZoK _ _ hc2) hS];exact hf2
    clear hc2 hf2 hk3 hy hR
    gi_wp2
    go_roundw
    case rel=>
     refine⟨k+1,t.extract 0 a,hkN,?_,?_,HG2,?_⟩
     ·exact World.cell?_setCell_same' _ _ _ (by rw[hc3];rfl)
     ·rw[World.frozen?_setCell];exact hf3
     ·exact HJ.out _ _ _ hJ3 ((Keeps.refl _ _).setCell (p:=⟨Bs,0,none⟩) (fun h=>h rfl) _)
    case measure=>
     rw[World.cell?_setCell_same' _ _ _ (by rw[hc3];rfl),HC.out]
     show (t.extract 0 a).size<t.size
     rw[<- Zz,HG2.out,Za5,Zz,hr]
     have:=HTS.out
     omega
   ·gi_wp2
    refine Zor (results_none rfl _ _ _) rfl ?_
    exact⟨⟨_,rfl⟩,.inr ⟨k,hkN,hJx3⟩⟩
end Go.Proofs.YtmpaflidennnoaaGreatDoor
namespace Go.Proofs.YtmpaflidennnoaaGreatDoor
open Go.RowKit
theorem ZnJ {F:Fence} {n:Nat} {P:Program} (w:World) {ops:Array Oper} {rest:List Oper} {o:Oper} {a:Act} {Q:Exit->Act->World->Prop}
  (hg:o.guard=none) (l c:Operand) (t:TypeId) (hop:o.op=Op.makeSlice t l c)
  (base:Nat) (e:TypeId) (i:TypeInfo) (z:Value) (size:Nat) (h1:P.underlying t=some (.slice e)) (h2:P.info? e=some i) (h3:i.zero=some z) (h4:i.size=size)
  (kl kc:IntKind) (L C:Int) (m:Nat) (hl:a.eval l=.int kl L) (hc:a.eval c=.int kc C) (hL:L=(m:Int)) (hC:C=(m:Int)) (b2:i.bytes*m<=281474976710656) (b3:m<=maxLen) (b4:base<=w.heap.size)
  (hK:∀ w',Hid (w'.heap.size=w.heap.size+1)->w'.ownsRow base e size (.slice (some ⟨w.heap.size,0,none⟩) m m) m (madeCells z.cells (m*size)).toList->w.grownBy w' none->
   wpListIn F n P ops Q rest (a.put o.dst (.slice (some ⟨w.heap.size,0,none⟩) m m)) w') :
  wpListIn F n P ops Q (o::rest) a w:=by
 refine wpListIn_plain hg fun K hK'=>?_
 subst h4
 have hm63:(m:Int)<=9223372036854775807:=by simp[maxLen] at b3;omega
 have hb':(i.bytes:Int)*(m:Int)<=281474976710656:=by
  have h:((i.bytes*m:Nat):Int)<=281474976710656:=Za
  rwa [Int.natCast_mul] at h
 have hrun:=run_make (P:=P) w t e i z h1 h2 h3 kl kc m m Za (Int.le_refl _) hb' hm63
 simp only[Int.toNat_natCast] at hrun
 subst hL
 subst hC
 unfold Oper.wpIn
 refine⟨by simp[Oper.about,hop],?_⟩
 rw[Oper.semAt_plain F _ _ (by rw[hop];intro c hc';cases hc')]
 simp[execOp,hop,hl,hc,hrun,Result.andThen]
 exact hK' _ _ (hK _ (by show _=_;simp) (World.ownsRow_lit w _ m b4 b3 (size_madeCells _ _)) (World.grownBy_alloc w _ none))
theorem Zjf {P:Program} {row:String} {args:Array Value} {w:World} {R:Value->World->Prop} {n l:Nat} (h:Rows P row args w R):RowsIn (Fence.wide.inRound l) n P row args w R:=
 fun c cs _=>let ⟨v,w',r,s⟩:=h c cs;⟨v,w',r,stepsIn_wide.2 s⟩
theorem Zkq {P:Program} {n l:Nat} {o:Oper} {a:Act} {w:World} {K:Act->World->Prop} {Q:Exit->Act->World->Prop} (hd:∀ c,o.op≠.defer c) (h:o.wp P a w K Q) :
  o.wpIn (Fence.wide.inRound l) n P a w K Q:=by
 refine⟨fun _ _=>trivial,?_⟩
 rw[Oper.semAt_eq _ _ _ hd]
 unfold Oper.wp at h
 generalize (execOp a.eval o).run P w=r at *
 cases r with
 | ok x w'=>
  cases x with
  | enter f args=>exact⟨(fun h=>by cases h),(ZoU.2 h).inRound l⟩
  | row row args=>exact⟨(fun h=>by cases h),Zjf h⟩
  | value v=>exact h
  | skip=>exact h
  | defer d=>exact h
  | _=>exact h.elim
 | halt x w'=>
  cases x with
  | panic v=>exact h
  | _=>exact h.elim
def Zcx (ops:Array Oper):Bool:=ops.all fun o=>match o.op with | .defer _=>false | _=>true
theorem Zim {ops:Array Oper} (h:Zcx ops=true) {i:Nat} {o:Oper} (ho:ops[i]?=some o):∀ c,o.op≠.defer c:=by
 intro c hc
 unfold Zcx at h
 rw[Array.all_eq_true] at h
 obtain⟨hi,he⟩:=Zop.1 ho
 have:=h i hi
 rw[he,hc] at this
 cases this
theorem Za8 {P:Program} {n l:Nat} {md:Region.Mode} {ops:Array Oper} {Q:Exit->Act->World->Prop} (hd:Zcx ops=true) (hout:∀ a w,¬ Q .outgrown a w) :
  ∀ (fuel:Nat) (listed:Array Bool) (a:Act) (w:World),wpAny P md ops Q fuel listed a w->wpAnyIn (Fence.wide.inRound l) n P md ops Q fuel listed a w
 | 0,_,_,_,h=>h
 | fuel+1,listed,a,w,h=>by
  refine⟨h.1,fun i hi=>?_⟩
  have h1:=h.2 i hi
  unfold wpOp at h1
  unfold wpOpIn
  cases ho:ops[i]? with
  | none=>simp only[ho] at h1 ⊢;exact Za8 hd hout fuel _ _ _ h1
  | some o=>
   simp only[ho] at h1 ⊢
   split
   ·rename_i hw
    rw[if_pos hw] at h1
    rcases h1 with h1 | ⟨_,a',w',hq⟩
    ·exact Oper.wpIn_mono (fun a' w' h2=>Za8 hd hout fuel _ _ _ h2) (Zkq (Zim hd ho) h1)
    ·exact Zo4 hq (hout a' w')
   ·rename_i hw
    rw[if_neg hw] at h1
    exact⟨fun _ _=>trivial,Za8 hd hout fuel _ _ _ h1⟩
section
variable {P:Program} {ops:Array Oper} {Q:Exit->Act->World->Prop} {md:Region.Mode} {S:World->Prop} {bar:Nat->Bool}
def wpJ (P:Program) (md:Region.Mode) (ops:Array Oper) (Q:Exit->Act->World->Prop) (S:World->Prop) (bar:Nat->Bool):Nat->Array Bool->Act->World->Prop
 | 0,listed,a,w=>Region.ready md ops listed=[]/\Q .normal a w
 | fuel+1,listed,a,w=>(Region.ready md ops listed=[]->Q .normal a w)/\
  ∀ i ∈ Region.ready md ops listed,wpOp P ops Q i (fun a' w'=>(bar i=true\/S w')/\wpJ P md ops Q S bar fuel (listed.setIfInBounds i true) a' w') a w
theorem ZbE:∀ (fuel:Nat) (listed:Array Bool) (a:Act) (w:World),wpJ P md ops Q S bar fuel listed a w->wpAny P md ops Q fuel listed a w
 | 0,_,_,_,h=>h
 | fuel+1,_,_,_,h=>⟨h.1,fun i hi=>wpOp_mono (fun a' w' h'=>ZbE fuel _ a' w' h'.2) (h.2 i hi)⟩
def Zh6 (md:Region.Mode) (ops:Array Oper) (bar:Nat->Bool) (i:Nat):Prop:=∀ j,bar j=true->j≠i->Region.waitsFor md ops j i=true
theorem ZaU {i j:Nat} {listed:Array Bool} (hi:i ∈ Region.ready md ops listed) (hw:Region.waitsFor md ops j i=true):j ∉ Region.ready md ops listed:=by
 intro hj
 obtain⟨oj,hoj,e,he,hb,hon⟩:=Region.waitsFor_spec hw
 obtain⟨_,oj',hoj',hall⟩:=mem_ready.1 hj
 have:oj'=oj:=Zou (hoj'.symm.trans hoj)
 subst this
 have h1:=hall e he hb
 have h0:=(mem_ready.1 hi).1
 rw[hon] at h1
 rcases Zow i listed.size with h' | h'
 ·simp[h'] at h0 h1;rw[h0] at h1;cases h1
 ·simp[Array.getElem?_eq_none h'] at h1
theorem Zfe {i:Nat} {oi:Oper} {v:Value} (hi:ops[i]?=some oi) (hsel:Region.noSelect ops=true) (hQ:∀ c a w,Q (.panic c) (a.put oi.dst v) w->Q (.panic c) a w) (hbar:Zh6 md ops bar i) (hbi:bar i=false) :
  ∀ (fuel:Nat) (listed:Array Bool) (a:Act) (w:World),
   (∀ j oj,ops[j]?=some oj->j≠i->listed.getD j true=false->(∀ e ∈ oj.after,Region.binds md e=true->e.on≠i)->oi.apart ops oj=true)->
   i ∈ Region.ready md ops listed->YieldsIf P ops S oi v a->S w->
   wpJ P md ops Q S bar fuel (listed.setIfInBounds i true) (a.put oi.dst v) w->wpJ P md ops Q S bar (fuel+1) listed a w
 | 0,listed,a,w,_,hr,hy,hS,H=>by
  refine⟨fun h=>(by rw[h] at hr;cases hr),fun j hj=>?_⟩
  by_cases hji:j=i
  ·subst hji;exact hy.wpOp hi hS ⟨.inr hS,H⟩
  ·have:=ready_mono hj hji
   rw[H.1] at this
   cases this
 | fuel+1,listed,a,w,hfree,hr,hy,hS,H=>by
  refine⟨fun h=>(by rw[h] at hr;cases hr),fun j hj=>?_⟩
  by_cases hji:j=i
  ·subst hji;exact hy.wpOp hi hS ⟨.inr hS,H⟩
  ·have hbj:bar j=false:=by
    cases hb:bar j with
    | false=>rfl
    | true=>exact Zo4 hj (ZaU hr (hbar j hb hji))
   obtain⟨hjun,oj,hoj,hall⟩:=mem_ready.1 hj
   have hnot:∀ e ∈ oj.after,Region.binds md e=true->e.on≠i:=fun e he hb heq=>by
    have:Region.waitsFor md ops j i=true:=by
     unfold Region.waitsFor
     rw[hoj]
     exact Array.any_eq_true'.2 ⟨e,he,by simp[hb,heq]⟩
    exact ZaU hr this hj
   have h2:=wpOp_putIf hoj (hfree j oj hoj hji hjun hnot) (fun cs b=>Region.noSelect_spec hsel i oi cs b hi) (fun cs b=>Region.noSelect_spec hsel j oj cs b hoj) hQ hy (H.2 j (ready_mono hj hji))
   refine wpOp_mono (fun a' w' h3=>?_) h2
   have hS':S w':=by
    rcases h3.2.1 with h4 | h4
    ·rw[hbj] at h4;cases h4
    ·exact h4
   refine⟨.inr hS',Zfe hi hsel hQ hbar hbi fuel (listed.setIfInBounds j true) a' w' (fun k ok hk hki hun hno=>?_) (ready_mono hr (Ne.symm hji)) h3.1 hS' ?_⟩
   ·refine hfree k ok hk hki ?_ hno
    by_cases hjk:j=k
    ·subst hjk;exact hjun
    ·rw[getD_set_ne true hjk] at hun;exact hun
   ·rw[Array.setIfInBounds_comm _ _ hji]
    exact h3.2.2
def ZeE (P:Program) (ops:Array Oper) (S:World->Prop) (L:Act->Prop):List Oper->Act->Prop
 | [],a=>L a
 | o::l,a=>∃ v,YieldsIf P ops S o v a/\ZeE P ops S L l (a.put o.dst v)
def ZbT (P:Program) (ops:Array Oper) (Q:Exit->Act->World->Prop) (S:World->Prop) (bar:Nat->Bool):Nat->List Oper->Act->World->Prop
 | _,[],a,w=>Q .normal a w
 | k,o::l,a,w=>(if Region.wanted o (yielded ops a.tmps) then o.wp P a w (fun a' w'=>(bar k=true\/S w')/\ZbT P ops Q S bar (k+1) l a' w') Q
   else (bar k=true\/S w)/\ZbT P ops Q S bar (k+1) l (a.put o.dst undef) w)
theorem ZeR:∀ (l:List Oper) (k:Nat) (listed:Array Bool) (a:Act) (w:World),(∀ j,l[j]?=ops[k+j]?)->Region.seqB md ops l.length k listed=true->
  ZbT P ops Q S bar k l a w->wpJ P md ops Q S bar l.length listed a w
 | [],_,_,_,_,_,hB,h=>⟨by simpa[Region.seqB] using hB,h⟩
 | o::l,k,listed,a,w,hl,hB,h=>by
  have h0:ops[k]?=some o:=by simpa using (hl 0).symm
  simp only[Zo0,Region.seqB,ZoY,ZoZ] at hB
  refine⟨fun h1=>(by rw[hB.1] at h1;cases h1),fun i hi=>?_⟩
  rw[hB.1] at hi
  obtain rfl:i=k:=by simpa using hi
  have ih:=fun a' w' h'=>ZeR l (i+1) (listed.setIfInBounds i true) a' w' (fun j=>by have:=hl (j+1);simpa[Nat.add_assoc,Nat.add_comm 1 j] using this) hB.2 h'
  unfold wpOp
  simp only[h0]
  unfold ZbT at h
  split at h
  ·rename_i hw;simp only[hw,if_true];exact .inl (Oper.wp_mono (fun a' w' h'=>⟨h'.1,ih a' w' h'.2⟩) h)
  ·rename_i hw;simp only[hw];exact⟨h.1,ih _ _ h.2⟩
def ZgU (md:Region.Mode) (ops:Array Oper) (h:Nat) (bar:Nat->Bool):Bool:=
 Region.noSelect ops && decide (h<=ops.size) && Region.lexHead md ops (ops.size-h) h 0 (Array.replicate ops.size false) &&
  ((List.range ops.size).all fun j=>!bar j || (decide (h<=j) && (List.range h).all fun i=>Region.waitsFor md ops j i)) && Zcx ops
theorem Zfb (hsel:Region.noSelect ops=true) (hQ:∀ c a o v w,Q (.panic c) (a.put o v) w->Q (.panic c) a w) (g h:Nat) (hbar:∀ i,i<h->Zh6 md ops bar i/\bar i=false) {w:World} (hS:S w) (tl:List Oper) (htl:tl.length=g)
  (htail:∀ j,tl[j]?=ops[h+j]?) :
  ∀ (l:List Oper) (k:Nat) (listed:Array Bool) (a:Act),(∀ j,j<l.length->l[j]?=ops[k+j]?)->k+l.length=h->Region.lexHead md ops g l.length k listed=true->
   ZeE P ops S (fun a'=>ZbT P ops Q S bar h tl a' w) l a->wpJ P md ops Q S bar (l.length+g) listed a w
 | [],k,listed,a,_,hk,hB,h'=>by
  obtain rfl:k=h:=by simpa using hk
  rw[List.length_nil,Nat.zero_add,<- htl]
  exact ZeR tl k listed a w htail (by rw[htl];simpa[Region.lexHead] using hB) h'
 | o::l,k,listed,a,hl,hk,hB,h'=>by
  have h0:ops[k]?=some o:=by simpa using (hl 0 Zc).symm
  simp only[Zo0,Region.lexHead,ZoY] at hB
  obtain⟨⟨hr,hf⟩,hB'⟩:=hB
  have hkh:k<h:=by simp only[Zo0] at hk;omega
  obtain⟨v,hy,hrest⟩:=h'
  have ih:=Zfb hsel hQ g h hbar hS tl htl htail l (k+1) (listed.setIfInBounds k true) (a.put o.dst v) (fun j hj=>by have:=hl (j+1) (by simp;omega);simpa[Nat.add_assoc,Nat.add_comm 1 j] using this) (by simp only[Zo0] at hk;omega) hB' hrest
  have:=Zfe h0 hsel (fun c a w=>hQ c a o.dst v w) (hbar k hkh).1 (hbar k hkh).2 (l.length+g) listed a w (Region.free_spec h0 hf) (by simpa using hr) hy hS ih
  rw[Zo0,Nat.add_right_comm]
  exact this
theorem ZiV {l:List Oper} (h:Nat) (S:World->Prop) (bar:Nat->Bool) (hB:ZgU .any l.toArray h bar=true) (hbo:∀ j,l.length<=j->bar j=false) (hQ:∀ c a o v w,Q (.panic c) (a.put o v) w->Q (.panic c) a w) {a:Act} {w:World} (hS:S w)
  (H:ZeE P l.toArray S (fun a'=>ZbT P l.toArray Q S bar h (l.drop h) a' w) (l.take h) a):wpAny P .any l.toArray Q l.toArray.size (Array.replicate l.toArray.size false) a w:=by
 simp only[ZgU,ZoY,ZoZ] at hB
 obtain⟨⟨⟨⟨hsel,hn⟩,hlex⟩,hbar⟩,_⟩:=hB
 have hn':h<=l.length:=by simpa using hn
 have htake:(l.take h).length=h:=by simp;omega
 have hdrop:(l.drop h).length=l.toArray.size-h:=Zc
 rw[Zo3] at hbar
 have hw:∀ i,i<h->Zh6 .any l.toArray bar i/\bar i=false:=fun i hi=>by
  have key:∀ j,bar j=true->h<=j/\∀ i,i<h->Region.waitsFor .any l.toArray j i=true:=fun j hj=>by
   have hjl:j<l.length:=by
    rcases Zow j l.length with h' | h'
    ·exact h'
    ·rw[hbo j h'] at hj;cases hj
   have:=hbar j (by simpa using hjl)
   rw[hj] at this
   simp only[Bool.not_true,Bool.false_or,ZoY,ZoZ,Zo3,List.mem_range] at this
   exact this
  refine⟨fun j hj _=>(key j hj).2 i hi,?_⟩
  cases hb:bar i with
  | false=>rfl
  | true=>have:=(key i hb).1;omega
 have:=Zfb (md:=.any) (P:=P) (S:=S) (Q:=Q) hsel hQ (l.toArray.size-h) h hw hS (l.drop h) hdrop (fun j=>by simp[List.getElem?_drop]) (l.take h) 0 (Array.replicate l.toArray.size false) a (fun j hj=>by rw[htake] at hj;simp[hj]) (by simpa using htake) (by rw[htake];exact hlex) H
 rw[htake,show h+(l.toArray.size-h)=l.toArray.size by omega] at this
 exact ZbE _ _ _ _ this
end
theorem Zku {P:Program} {ops:Array Oper} {S:World->Prop} {L:Act->Prop} {o:Oper} {l:List Oper} {a:Act} (v:Value) (hw:Region.wanted o (yielded ops a.tmps)=true) (hv:∀ w,S w->(execOp a.eval o).run P w=.ok (.value v) w)
  (h:ZeE P ops S L l (a.put o.dst v)):ZeE P ops S L (o::l) a:=⟨v,.inl ⟨hw,hv⟩,h⟩
theorem Zl1 {P:Program} {ops:Array Oper} {S:World->Prop} {L:Act->Prop} {a:Act} (h:L a):ZeE P ops S L [] a:=h
theorem ZfV {P:Program} {ops:Array Oper} {Q:Exit->Act->World->Prop} {S:World->Prop} {bar:Nat->Bool} {k:Nat} {o:Oper} {l:List Oper} {a:Act} {w:World} (hw:Region.wanted o (yielded ops a.tmps)=true)
  (h:∀ K:Act->World->Prop,(∀ a' w',(bar k=true\/S w')->ZbT P ops Q S bar (k+1) l a' w'->K a' w')->o.wp P a w K Q):ZbT P ops Q S bar k (o::l) a w:=by
 unfold ZbT
 rw[if_pos hw]
 exact h _ fun _ _ h1 h2=>⟨h1,h2⟩
theorem ZkZ {P:Program} {ops:Array Oper} {Q:Exit->Act->World->Prop} {S:World->Prop} {bar:Nat->Bool} {k:Nat} {a:Act} {w:World} (h:Q .normal a w):ZbT P ops Q S bar k [] a w:=h
theorem Zhc {P:Program} {n r id:Nat} {Q:Exit->Act->World->Prop} {a:Act} {w:World} {l:List Oper} (h:Nat) (S:World->Prop) (bar:Nat->Bool) (hm:P.follows .mixedOrders=true)
  (hB:ZgU .any l.toArray h bar=true) (hbo:∀ j,l.length<=j->bar j=false) (hQ:∀ c a o v w,Q (.panic c) (a.put o v) w->Q (.panic c) a w) (hout:∀ a w,¬ Q .outgrown a w) (hS:S w.drew)
  (H:ZeE P l.toArray S (fun a'=>ZbT P l.toArray Q S bar h (l.drop h) a' w.drew) (l.take h) a):(Code.region id l.toArray true).wpIn (Fence.wide.inRound r) n P Q a w:=by
 have hd:Zcx l.toArray=true:=by simp only[ZgU,ZoY] at hB;exact hB.2
 exact wpIn_region_any hm (Za8 hd hout _ _ _ _ (ZiV h S bar hB hbo hQ hS H))
end Go.Proofs.YtmpaflidennnoaaGreatDoor
namespace Go.Proofs.YtmpaflidennnoaaGreatDoor
open Go.RowKit Go.Shelf
attribute [local go_sem] Oper.semAt_some
theorem ZfT (p1:Option Addr) (c1:Nat) (xs:List Nat) (hl:xs.length<=1000000) (d:Nat) (hd1:1<=d) (hd2:d<=1000000000) (w:World)
  (hp1:xs≠[]->∃ b off,p1=some ⟨b,off,none⟩/\b<w.heap.size/\At .u64 w b off xs) (hx:∀ x ∈ xs,x<1000000000) :
  Calls Tryz.prog 193 #[.slice p1 xs.length c1,.int .u64 d] w fun e w'=>
   ∃ v,e=.returned (.tuple #[v,.int .u64 (val 1000000000 xs % d:Nat)])/\Zc4 w.heap.size w' v (val 1000000000 xs/d)/\Below w.heap.size w w':=by
 obtain⟨i0,hi,hz0,hz1,hz2⟩:=info_parts Zco
 have HP1:=Zpe hp1
 have HX:=Zpe hx
 clear hp1 hx
 have hfn:∀ k,Fence.wide.fn k:=fun _=>trivial
 refine(ZoU (n:=9)).1 ?_
 refine callsIn_of_wp_marks Tryz.func193 rfl trivial ?_ rfl
 simp only[Tryz.ntmps193,Nat.reduceAdd,Nat.reduceSub,Zpd]
 gi_wp2_with (gi_at_make;refine ZnJ _ rfl _ _ 110 rfl w.heap.size 158 i0 (.int .u64 0) 1 Tryz.underlying110 hi hz0 hz1 _ _ _ _ xs.length rfl rfl rfl rfl ?b2 ?b3 Zc ?_)
 case b2=>rw[hz2];omega
 case b3=>unfold maxLen;omega
 intro w0 hsz0 hown0 hgrow0
 have HR0:=Zpe (Row.full (k:=.u64) hown0)
 have hg0:=HR0.out.lt.2
 have HB0:=Zpe (((Zoq w.heap.size w).alloc Zpf _).grown hgrow0 Zc (fun k h=>by cases h))
 have HBY:Hid (w0.cell? ⟨w.heap.size,0,none⟩=some (.int .u64 d)):=by
  show _=_
  rw[ZoI (w:=w.alloc (.cells #[.int .u64 d] 158)) (hgrow0.block _ Zc Zc)]
  exact ZK _ _ _ _ rfl
 clear hown0 hgrow0
 gi_wp2_with (gi_at_call 127;refine(ZgY Fence.wide _ trivial rfl _ _ _ _).mono ?_;rintro e w' ⟨rfl,rfl⟩)
 obtain⟨w3,hw3⟩:=Zpg (((w0.alloc (.cells #[.slice (some ⟨w.heap.size+1,0,none⟩) xs.length xs.length] 110)).alloc (.cells #[.int .u64 0] 158)).alloc (.cells #[.slice p1 xs.length c1] 110))
 rw[hw3]
 have hD:w3.heap.size=w0.heap.size+3:=by rw[<- hw3];simp
 have HB3:Zo8 w0 w3:=by rw[<- hw3];exact(((Zoq _ w0).alloc Zpf _).alloc Zc _).alloc (by simp<;>omega) _
 have HBY3:Hid (w3.cell? ⟨w.heap.size,0,none⟩=some (.int .u64 d)):=by show _=_;rw[HB3.out.cell (by simp<;>omega)];exact HBY.out
 have HOV3:Hid (w3.cell? ⟨w0.heap.size,0,none⟩=some (.slice (some ⟨w.heap.size+1,0,none⟩) xs.length xs.length)):=by
  show _=_;rw[<- hw3,Zaj _ _ _ (by simp<;>omega),Zaj _ _ _ Zc];exact ZK _ _ _ _ rfl
 have HRV3:Hid (w3.cell? ⟨w0.heap.size+1,0,none⟩=some (.int .u64 0)/\w3.frozen? ⟨w0.heap.size+1,0,none⟩=false):=by
  rw[<- hw3,Zaj _ _ _ Zc,Zdt _ _ _ Zc];exact⟨ZK _ _ _ _ Zc,ZcI _ _ _ _ Zc⟩
 have HR3:=Zpe (HR0.out.below HB3.out hg0)
 refine Zgc (w0.heap.size+3) hD (gf:=176) (lb:=#[.pointer (some ⟨w0.heap.size+2,0,none⟩)])
  (f:=fun k=>#[.int .i64 (bk xs.length k:Nat),.int .u64 (lim xs (bk xs.length k):Nat)]) (N:=xs.length) (S:=fun b=>b<w0.heap.size+3/\b≠w.heap.size+1/\b≠w0.heap.size+1) (T:=fun _=>True)
  rfl (enters_of Tryz.func176 Zb rfl) (fun _=>rfl) ?iter (fun b h=>h.1) ⟨trivial,trivial⟩
  (fun k W=>(∃ o r,Row .u64 158 W w.heap.size (w.heap.size+1) xs.length o/\ShortInv 1000000000 xs d (xs.length-k) o r/\W.cell? ⟨w0.heap.size+1,0,none⟩=some (.int .u64 (r:Nat))/\W.frozen? ⟨w0.heap.size+1,0,none⟩=false)/\Keeps (fun b=>b<w0.heap.size+3/\b≠w.heap.size+1/\b≠w0.heap.size+1) w3 W)
  (fun _ _ _=>False)
  (fun k W1 W2 h hk=>?ci)
  (fun c k W1 W2 h hk=>h.elim) ⟨⟨_,0,HR3.out,by rw[Nat.sub_zero];exact ShortInv.start Za xs hd1,HRV3.out.1,HRV3.out.2⟩,Keeps.refl _ _⟩ ?a1 ?assign ?body ?done ?stop
 case ci=>
  obtain⟨⟨o,r,h1,h2,h3,h4⟩,h5⟩:=h
  refine⟨⟨o,r,h1.kept (hk.block _ h1.lt.2 ⟨trivial,Za,Za⟩),h2,hk.cellAt h3 ⟨trivial,Zc,Zc⟩,?_⟩,h5.trans (hk.mono fun b hb1 hb2=>⟨trivial,Za,Za⟩)⟩
  rw[hk.frozen (ZoK W1 _ h3) ⟨trivial,Zc,Zc⟩];exact h4
 case iter=>
  refine ZeU (w0.heap.size+2) _ p1 c1 xs hl w3 ⟨Za,Za,Za⟩ ?_ ?_
  ·rw[<- hw3];exact ZK _ _ _ _ Zc
  ·intro hne
   obtain⟨b,off,h1,h2,h3⟩:=HP1.out hne
   exact⟨b,off,h1,⟨Za,Za,Za⟩,(h3.below HB0.out h2).below HB3.out Za⟩
 case assign=>
  intro l k W K hK
  gi_wp2
  exact hK
 case stop=>
  intro c k W _ h
  exact h.elim
 case body=>
  rintro l k W hk ⟨⟨o,r,HR,HI,hr1,hr2⟩,HK⟩ hW
  have cb:W.cell? ⟨w.heap.size,0,none⟩=some (.int .u64 d):=HK.cellAt HBY3.out ⟨by simp<;>omega,Zc,by simp<;>omega⟩
  have co:W.cell? ⟨w0.heap.size,0,none⟩=some (.slice (some ⟨w.heap.size+1,0,none⟩) xs.length xs.length):=HK.cellAt HOV3.out ⟨by simp<;>omega,by simp<;>omega,Zc⟩
  have hrl:r<d:=HI.rest
  obtain⟨i,hi⟩:=Zpg (bk xs.length k)
  have hil:i<xs.length:=by unfold bk at hi;omega
  have hik:Hid (xs.length-k=i+1/\xs.length-(k+1)=i):=by unfold bk at hi;exact⟨Za,Za⟩
  obtain⟨x,hx⟩:=Zpg (lim xs i)
  have hxl:x<1000000000:=by rw[<- hx];exact ZM Za HX.out i
  have hol:o.length=xs.length:=HI.len
  obtain⟨z,hz⟩:=Zpg (o.getD i 0)
  have cz:W.cell? ⟨w.heap.size+1,i,none⟩=some (.int .u64 (z:Nat)):=HR.cell Za hz
  have fz:W.frozen? ⟨w.heap.size+1,i,none⟩=false:=HR.frozen _
  rw[hi,hx]
  have HKh:=Zpe HK
  have HRh:=Zpe HR
  have HIh:=Zpe HI
  have Hi:=Zpe hi
  have Hx:=Zpe hx
  clear hi hx HK HR HI hol hz
  have hdi:(1:Int)<=(d:Int):=Za
  gi_wp2
  have hS0:W.drew.cell? ⟨w0.heap.size+1,0,none⟩=some (.int .u64 (r:Nat))/\W.drew.cell? ⟨w.heap.size,0,none⟩=some (.int .u64 d)/\W.drew.cell? ⟨w0.heap.size,0,none⟩=some (.slice (some ⟨w.heap.size+1,0,none⟩) xs.length xs.length):=⟨hr1,cb,co⟩
  refine Zhc 15 (fun w'=>w'.cell? ⟨w0.heap.size+1,0,none⟩=some (.int .u64 (r:Nat))/\w'.cell? ⟨w.heap.size,0,none⟩=some (.int .u64 d)/\w'.cell? ⟨w0.heap.size,0,none⟩=some (.slice (some ⟨w.heap.size+1,0,none⟩) xs.length xs.length)) (fun j=>j==16)
   Zb Zb (fun j hj=>by simp at hj ⊢;omega) (fun _ _ _ _ _ h=>h) (fun _ _ h=>h) hS0 ?_
  simp only[List.take_succ_cons,List.take_zero,List.drop_succ_cons,List.drop_zero]
  obtain⟨s,hs⟩:=Zpg (r*1000000000+x)
  have hrb:r<=999999999:=Za
  have e1:IntKind.u64.wrap ((r:Int)*1000000000)=(r:Int)*1000000000:=IntWalk.u64_in _ Za
  have e2:IntKind.u64.wrap ((r:Int)*1000000000+x)=(s:Int):=by
   have h:=IntWalk.u64_in ((r:Int)*1000000000+x) Za
   rw[h];omega
  obtain⟨q,hq⟩:=Zpg (s/d)
  obtain⟨m,hm⟩:=Zpg (s % d)
  have e3:((s:Int).tdiv d)=(q:Int):=by rw[<- hq];rfl
  have e4:((s:Int).tmod d)=(m:Int):=by rw[<- hm];rfl
  have hqb:q<=999999999999999999:=by rw[<- hq];exact Zoz (Nat.div_le_self _ _) Za
  have e5:IntKind.u64.wrap (q:Int)=(q:Int):=IntWalk.u64_in _ Za
  have hdn:¬ d=0:=Za
  have HS:Hid (ShortInv 1000000000 xs d (xs.length-(k+1)) (o.set i q) m):=by
   have h1:=HIh.out
   rw[hik.out.1] at h1
   have h2:=h1.step HX.out hil (show s=r*1000000000+xs.getD i 0 by rw[<- hs];rw[show xs.getD i 0=x from Hx.out])
   rw[hq,hm] at h2
   show ShortInv _ _ _ _ _ _
   rw[hik.out.2]
   exact h2
  clear hs hq hm
  iterate 15
   refine Zku _ rfl (fun w' hS=>by obtain⟨s1,s2,s3⟩:=hS;exact Zf) ?_
   simp only[Act.put,Zm]
  refine Zl1 ?_
  refine ZfV rfl fun K hK=>?_
  go_simp
  refine hK _ _ ?_ ?_
  ·right
   show ((W.setCell ⟨w.heap.size+1,i,none⟩ (.int .u64 (q:Nat))).drew).cell? _=_/\((W.setCell ⟨w.heap.size+1,i,none⟩ (.int .u64 (q:Nat))).drew).cell? _=_/\((W.setCell ⟨w.heap.size+1,i,none⟩ (.int .u64 (q:Nat))).drew).cell? _=_
   exact⟨(ZoI (Zos W _ _ _ (by simp<;>omega))).trans hr1,(ZoI (Zos W _ _ _ Zc)).trans cb,(ZoI (Zos W _ _ _ (by simp<;>omega))).trans co⟩
  clear hK K
  refine ZfV rfl fun K hK=>?_
  go_simp
  refine hK _ _ (.inl rfl) ?_
  clear hK K
  refine ZkZ ?_
  have k1:∀ S':Nat->Prop,¬ S' (w.heap.size+1)->¬ S' (w0.heap.size+1)->Keeps S' W ((W.setCell ⟨w.heap.size+1,i,none⟩ (.int .u64 (q:Nat))).setCell ⟨w0.heap.size+1,0,none⟩ (.int .u64 (m:Nat))).drew:=
   fun S' n1 n2=>(((Keeps.refl _ _).setCell (p:=⟨w.heap.size+1,i,none⟩) n1 _).setCell (p:=⟨w0.heap.size+1,0,none⟩) n2 _).drew
  refine⟨k1 _ (by simp<;>omega) Zc,⟨⟨o.set i q,m,?_,HS.out,?_,?_⟩,HKh.out.trans (k1 _ Zc Zc)⟩⟩
  ·exact((HRh.out.set i q).setOther (a:=⟨w0.heap.size+1,0,none⟩) (by simp<;>omega) _).drew
  ·exact World.cell?_setCell_same' _ _ _ (by rw[ZoI (Zos W _ _ _ (by simp<;>omega)),hr1];rfl)
  ·show ((W.setCell ⟨w.heap.size+1,i,none⟩ (.int .u64 (q:Nat))).setCell ⟨w0.heap.size+1,0,none⟩ (.int .u64 (m:Nat))).frozen? ⟨w0.heap.size+1,0,none⟩=false
   rw[World.frozen?_setCell,World.frozen?_setCell];exact hr2
 case done=>
  rintro W ⟨⟨o,r,HR,HI,hr1,hr2⟩,HK⟩ hdef
  rw[Nat.sub_self] at HI
  have HV:=Zpe HI.done
  have HLT:Hid (∀ z ∈ o,z<1000000000):=HI.lt
  have HLN:Hid (o.length=xs.length):=HI.len
  have co:W.cell? ⟨w0.heap.size,0,none⟩=some (.slice (some ⟨w.heap.size+1,0,none⟩) xs.length xs.length):=HK.cellAt HOV3.out ⟨by simp<;>omega,by simp<;>omega,Zc⟩
  have HKh:=Zpe HK
  have HRh:=Zpe HR
  have Hdef:=Zpe hdef
  clear HK HR HI hdef
  gi_wp2
  refine wpIn_wide.2 ?_
  go_quiet ((go_at_call 126;exact Calls.quiet_of_same ((Zcr (w:=_) (by exact HRh.out) HLT.out _ HLN.out.symm _ HV.out.1).mono fun e w' h=>⟨h.2.1,h.1.symm⟩)))
  gi_wp2
  have hB:Below w.heap.size w (W.drewN nq):=by
   refine HB0.out.trans ?_
   refine(show Below w.heap.size w0 w3 from ⟨HB3.out.os,HB3.out.tape,HB3.out.output,HB3.out.size,fun k hk=>HB3.out.block k Za⟩).trans ?_
   exact⟨HKh.out.os,HKh.out.tape,HKh.out.output,HKh.out.size,fun k hk=>HKh.out.block k Za ⟨Za,Za,Za⟩⟩
  have hRow:Row .u64 158 ((W.drewN nq).putObj (w0.heap.size+3) (.deferred none)) w.heap.size (w.heap.size+1) xs.length (Zp 1000000000 (val 1000000000 xs/d)):=by
   have h1:=HRh.out.take (Zp 1000000000 (val 1000000000 o)).length
   rw[<- Za7 Za HLT.out,HV.out.1] at h1
   refine h1.kept ?_
   exact ZoJ (w:=W.drewN nq) Za
  have hdef':(W.drewN nq).heap[w0.heap.size+3]?=some (.deferred (some [])):=Hdef.out
  refine⟨Zc,.inl ⟨_,_,rfl,run_takeDeferred hdef',?_⟩⟩
  refine⟨.tuple #[.slice (some ⟨w.heap.size+1,0,none⟩) (Zp 1000000000 (val 1000000000 xs/d)).length xs.length,.int .u64 (r:Nat)],by simp[results,Tryz.f193,go_sem],_,by rw[HV.out.2],⟨_,_,rfl,hRow⟩,?_⟩
  refine hB.trans ?_
  exact⟨rfl,rfl,rfl,Zc,fun k hk=>ZoJ (w:=W.drewN nq) Za⟩
end Go.Proofs.YtmpaflidennnoaaGreatDoor
