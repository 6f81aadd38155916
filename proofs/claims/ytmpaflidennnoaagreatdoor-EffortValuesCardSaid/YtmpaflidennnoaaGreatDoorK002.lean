/- The parts RCurveL, Slope. -/
import Derived.Test.YtmpaflidennnoaaGreatDoorK001
set_option maxRecDepth 100000
set_option maxHeartbeats 4000000
set_option linter.unusedVariables false
set_option linter.unusedSimpArgs false
namespace Go.Proofs.YtmpaflidennnoaaGreatDoor
open Go.RowKit Go.Shelf
attribute [local go_sem ↓] Go.wp_at_zero Go.wp_at_succ
structure UptoC (bs:List BB) (k:Nat):Prop where
 small:∀ i,i<k->Zw 18 (bAt bs i).1=true/\Zw 18 (bAt bs i).2=true
 top:∀ i,i<k->hR bs i<=1
 up:∀ i,i+1<k->cR bs i<cR bs (i+1)/\hR bs i<=hR bs (i+1)
 conc:∀ i,i+2<k->slp (cR bs) (hR bs) (i+1)<=slp (cR bs) (hR bs) i
theorem UptoC.zero (bs:List BB):UptoC bs 0:=⟨fun _ h=>Za,fun _ h=>Za,fun _ h=>Za,fun _ h=>Za⟩
theorem UptoC.step {bs:List BB} {k:Nat} (h:UptoC bs k) (h1:Zw 18 (bAt bs k).1=true/\Zw 18 (bAt bs k).2=true) (h2:hR bs k<=1)
  (h3:∀ i,k=i+1->cR bs i<cR bs (i+1)/\hR bs i<=hR bs (i+1)) (h4:∀ i,k=i+2->slp (cR bs) (hR bs) (i+1)<=slp (cR bs) (hR bs) i):UptoC bs (k+1) where
 small:=fun i hi=>by
  rcases Zow i k with h' | h'
  ·exact h.small i h'
  ·obtain rfl:i=k:=Za
   exact h1
 top:=fun i hi=>by
  rcases Zow i k with h' | h'
  ·exact h.top i h'
  ·obtain rfl:i=k:=Za
   exact h2
 up:=fun i hi=>by
  rcases Zow (i+1) k with h' | h'
  ·exact h.up i h'
  ·exact h3 i Za
 conc:=fun i hi=>by
  rcases Zow (i+2) k with h' | h'
  ·exact h.conc i h'
  ·exact h4 i Za
theorem UptoC.curve {bs:List BB} (h:UptoC bs bs.length) (h1:2<=bs.length/\bs.length<=64) (h2:bAt bs 0=Zcc):CurveP bs:=⟨h1,h2,h.small,h.top,h.up,h.conc⟩
theorem UptoC.isC {bs:List BB} {k:Nat} (h:UptoC bs k) {i:Nat} (hi:i<k):IsP (cR bs i) (bAt bs i).1.1 (bAt bs i).1.2/\Sz 18 (cR bs i):=by
 obtain⟨h1,h2,h3⟩:=Zai.1 (h.small i hi).1
 have:=Zav h3
 exact⟨this,this.sz h1 h2⟩
theorem UptoC.isH {bs:List BB} {k:Nat} (h:UptoC bs k) {i:Nat} (hi:i<k):IsP (hR bs i) (bAt bs i).2.1 (bAt bs i).2.2/\Sz 18 (hR bs i):=by
 obtain⟨h1,h2,h3⟩:=Zai.1 (h.small i hi).2
 have:=Zav h3
 exact⟨this,this.sz h1 h2⟩
theorem Zd2 {s:ByteArray} {l:List UInt8} (h:s.toList=l):s=str l:=by
 rw[ZoN] at h
 rw[<- ZaZ s,h]
theorem ZcX {p:PP} (h:Zw 18 p=true):IsP (ratP p.1 p.2) p.1 p.2/\Sz 18 (ratP p.1 p.2):=by
 obtain⟨h1,h2,h3⟩:=Zai.1 h
 have:=Zav h3
 exact⟨this,this.sz h1 h2⟩
theorem Zit {a b c d:Rat} {s0 t0 u0 v0 s1 t1 u1 v1:ByteArray} (hc:IsP c s0 t0) (ha:IsP a u0 v0) (hd:IsP d s1 t1) (hb:IsP b u1 v1) (zc:Sz 18 c) (za:Sz 18 a) (zd:Sz 18 d) (zb:Sz 18 b) (h1:c<d) (h2:a<=b) :
  (∃ x y,IsP (b-a) x y)/\(∃ x y,IsP (d-c) x y)/\(∃ x y,IsP ((b-a)/(d-c)) x y)/\0<d-c:=by
 have d0:0<d-c:=Zk
 have n0:0<=b-a:=Zk
 have dz:=Sz.sub hd.nn hc.nn (Rat.le_of_lt h1) zd zc
 have nz:=Sz.sub hb.nn ha.nn h2 zb za
 exact⟨Zaa n0 nz Zd Zd,Zaa (Rat.le_of_lt d0) dz Zd Zd,Zaa (Zeo n0 (Rat.le_of_lt d0)) (Sz.div n0 d0 nz dz) Zd Zd,d0⟩
theorem Zi0 {bs:List BB} {k:Nat} (hk:k<bs.length) (h:Zw 18 (bAt bs k).1=false\/Zw 18 (bAt bs k).2=false):¬ CurveP bs:=fun hc=>by
 have:=hc.small k hk
 rcases h with h | h
 ·rw[h] at this;cases this.1
 ·rw[h] at this;cases this.2
theorem ZnS {bs:List BB} {k:Nat} (hk:k<bs.length) (h:¬ hR bs k<=1):¬ CurveP bs:=fun hc=>h (hc.top k hk)
theorem Znk {bs:List BB} {i:Nat} (hk:i+1<bs.length) (h:¬ (cR bs i<cR bs (i+1)/\hR bs i<=hR bs (i+1))):¬ CurveP bs:=fun hc=>h (hc.up i hk)
theorem ZnQ {bs:List BB} {i:Nat} (hk:i+2<bs.length) (h:¬ slp (cR bs) (hR bs) (i+1)<=slp (cR bs) (hR bs) i):¬ CurveP bs:=fun hc=>h (hc.conc i hk)
abbrev S6 (g U:Nat) (s0 t0 s1 t1 x y:ByteArray) (w':World):Prop:=w'.cell? ⟨g,0,none⟩=some (.string s0)/\w'.cell? ⟨g,1,none⟩=some (.string t0)/\
 w'.cell? ⟨g+1,0,none⟩=some (.string s1)/\w'.cell? ⟨g+1,1,none⟩=some (.string t1)/\w'.cell? ⟨U,0,none⟩=some (.string x)/\w'.cell? ⟨U,1,none⟩=some (.string y)
theorem ZeZ {a b c d:Rat} {s0 t0 u0 v0 s1 t1 u1 v1 x1 y1 x2 y2 x y:ByteArray} (hc:IsP c s0 t0) (ha:IsP a u0 v0) (hd:IsP d s1 t1) (hb:IsP b u1 v1) (h1:IsP (b-a) x1 y1) (h2:IsP (d-c) x2 y2) (h3:IsP ((b-a)/(d-c)) x y) (hp:0<d-c)
  (w:World):Calls Tryz.prog 140 #[.agg #[.string s0,.string t0,.string u0,.string v0],.agg #[.string s1,.string t1,.string u1,.string v1]] w (ZV (pV x y) w):=by
 have HC:=Zpe hc
 have HA:=Zpe ha
 have HD:=Zpe hd
 have HBB:=Zpe hb
 have H1:=Zpe h1
 have H2:=Zpe h2
 have H3:=Zpe h3
 have HP:=Zpe hp
 clear hc ha hd hb h1 h2 h3 hp
 go_enter Tryz.func140,Tryz.ntmps140
 go_wp2_with fail
 obtain⟨w0,hw0⟩:=Zpg (((w.alloc (bO s0 t0 u0 v0)).alloc (bO s1 t1 u1 v1)).alloc (pObj Zpa Zpa))
 rw[hw0]
 have HX0:Hid (Zv w.heap.size [bO s0 t0 u0 v0,bO s1 t1 u1 v1,pObj Zpa Zpa] w0):=by rw[<- hw0];exact Zv.three w _ _ _
 have HB0:Zo8 w w0:=by rw[<- hw0];exact(((Zoq _ w).alloc Zpf _).alloc Zc _).alloc (by simp<;>omega) _
 clear hw0
 refine(ZfC HBB.out HA.out H1.out rfl _).mono ?_
 rintro e w1 ⟨rfl,hb⟩
 have HX1:=Zpe (HX0.out.below hb HX0.out.lt)
 have HB1:Zo8 w w1:=HB0.out.trans (hb.mono HB0.out.size)
 clear hb
 go_wp2_with fail
 refine(Zdc x1 y1 0 _).mono ?_
 rintro e w2 ⟨rfl,hb⟩
 have HX2:=Zpe (HX1.out.below hb HX1.out.lt)
 have HB2:Zo8 w w2:=HB1.out.trans (hb.mono HB1.out.size)
 clear hb
 go_wp2_with fail
 obtain⟨U,hU⟩:=Zpg w2.heap.size
 obtain⟨W,hW⟩:=Zpg (w2.alloc (pObj x1 y1))
 have hal:Below w2.heap.size w2 W:=by rw[<- hW];exact(Zoq _ w2).alloc Zpf _
 have HX3:Hid (Zv w.heap.size [bO s0 t0 u0 v0,bO s1 t1 u1 v1,pObj Zpa Zpa] W):=HX2.out.below hal HX2.out.lt
 have HBW:Zo8 w W:=HB2.out.trans (hal.mono HB2.out.size)
 have hu:W.heap[U]?=some (pObj x1 y1):=by rw[<- hW,<- hU];exact Zot w2 _
 have hUl:w.heap.size+3<=U:=by rw[<- hU];exact HX2.out.lt
 have hul:=(Zo9 hu)
 have hS:∀ w',Below W.heap.size W w'->S6 w.heap.size U s0 t0 s1 t1 x1 y1 w':=fun w' h=>by
  have hx:=HX3.out.below h HX3.out.lt
  have hu2:w'.heap[U]?=some (pObj x1 y1):=(h.block U hul).trans hu
  exact⟨hx.cell 0 0 (b:=w.heap.size) rfl rfl rfl,hx.cell 0 1 (b:=w.heap.size) rfl rfl rfl,hx.cell 1 0 (b:=w.heap.size+1) rfl rfl rfl,hx.cell 1 1 (b:=w.heap.size+1) rfl rfl rfl,Zn hu2 0 rfl,Zn hu2 1 rfl⟩
 have HS:=Zpe hS
 have HS2:Hid (∀ w',Below W.heap.size W w'->∀ x y,S6 w.heap.size U s0 t0 s1 t1 x1 y1 ((w'.setCell ⟨w.heap.size+1+1,0,none⟩ (.string x)).setCell ⟨w.heap.size+1+1,1,none⟩ (.string y))):=fun w' h x y=>by
  obtain⟨a0,a1,b0,b1,c0,c1⟩:=hS w' h
  refine⟨?_,?_,?_,?_,?_,?_⟩<;>(rw[World.cell?_setCell_other _ _ _ _ (by simp<;>omega),World.cell?_setCell_other _ _ _ _ (by simp<;>omega)];assumption)
 have HRB:Hid (W.heap[w.heap.size+1+1]?=some (pObj Zpa Zpa)/\w.heap.size+1+1<W.heap.size):=⟨HX3.out.block 2 rfl rfl,by have h:=HX3.out.lt;simp at h;omega⟩
 have HRL:Hid (w.heap.size<=w.heap.size+1+1):=by show _<=_;omega
 have HW0:Hid (Below W.heap.size W W.drew):=(Zoq _ W).drew
 rw[hW,hU]
 clear hW hU hal hu hUl hul hS HX0 HX1 HX2 HB0 HB1 HB2
 refine Zaf [(true,0),(true,1),(true,2),(true,3),(true,4),(false,5),(true,6),(true,7),(false,8),(false,9),(true,10),(true,11),(false,12),(false,13)] (S6 w.heap.size U s0 t0 s1 t1 x1 y1) (fun _=>false)
  Zb Zb (fun _ _=>rfl) Zi (HS.out _ HW0.out) ?_
 iterate 5
  refine Zr _ rfl rfl (fun w' hS=>by obtain⟨a0,a1,b0,b1,c0,c1⟩:=hS;exact Zf) ?_
  simp only[Act.put,Zm]
 refine Zt rfl rfl fun K hK=>?_
 go_simp
 go_at_call 105
 refine(ZfC HD.out HC.out H2.out rfl _).mono ?_
 rintro e w3 ⟨rfl,hb⟩
 have HW3:Zo8 W w3:=HW0.out.trans (hb.mono HW0.out.size)
 have hS9:=HS.out w3 HW3.out
 refine hK _ _ (.inr hS9) ?_
 clear hK K hb hS9
 iterate 2
  refine Zr _ rfl rfl (fun w' hS=>Zf) ?_
  simp only[Act.put,Zm]
 refine Zt rfl rfl fun K hK=>?_
 go_simp
 go_at_call 164
 refine(Zdc x2 y2 0 _).mono ?_
 rintro e w4 ⟨rfl,hb⟩
 have HW4:Zo8 W w4:=HW3.out.trans (hb.mono HW3.out.size)
 have hS9:=HS.out w4 HW4.out
 refine hK _ _ (.inr hS9) ?_
 clear hK K hb hS9
 refine Zt rfl rfl fun K hK=>?_
 go_simp
 go_at_call 145
 refine(ZnB H1.out H2.out H3.out HP.out rfl _).mono ?_
 rintro e w5 ⟨rfl,hb⟩
 have HW5:Zo8 W w5:=HW4.out.trans (hb.mono HW4.out.size)
 have hS9:=HS.out w5 HW5.out
 refine hK _ _ (.inr hS9) ?_
 clear hK K hb hS9
 iterate 2
  refine Zr _ rfl rfl (fun w' hS=>Zf) ?_
  simp only[Act.put,Zm]
 refine Zt rfl rfl fun K hK=>?_
 go_simp
 go_at_call 164
 refine(Zdc x y 0 _).mono ?_
 rintro e w6 ⟨rfl,hb⟩
 have HW6:Zo8 W w6:=HW5.out.trans (hb.mono HW5.out.size)
 have hS9:=HS.out w6 HW6.out
 refine hK _ _ (.inr hS9) ?_
 clear hK K hb hS9
 have hbk:w6.heap[w.heap.size+1+1]?=some (pObj Zpa Zpa):=(HW6.out.block _ HRB.out.2).trans HRB.out.1
 have r0:=Zn hbk 0 rfl
 have r1:=Zn hbk 1 rfl
 have f0:=Zo hbk 0
 have f1:=Zo hbk 1
 refine Zt rfl rfl fun K hK=>?_
 go_simp
 have q:=Zu hbk (.string x) (.string y)
 have HBQ:Hid (Below w.heap.size w ((w6.setCell ⟨w.heap.size+1+1,0,none⟩ (.string x)).setCell ⟨w.heap.size+1+1,1,none⟩ (.string y))):=Zs (HBW.out.trans (HW6.out.mono HBW.out.size)) (b:=w.heap.size+1+1) HRL.out (.string x) (.string y)
 have hS9:=HS2.out w6 HW6.out x y
 refine hK _ _ (.inr hS9) ?_
 clear hK K hS9
 refine ZJ ?_
 obtain⟨w9,hw9⟩:=Zpg ((w6.setCell ⟨w.heap.size+1+1,0,none⟩ (.string x)).setCell ⟨w.heap.size+1+1,1,none⟩ (.string y))
 rw[hw9] at q HBQ ⊢
 obtain⟨q0,q1⟩:=q
 clear r0 r1 f0 f1 hw9 hbk
 go_wp2
 refine Zor (v:=pV x y) (by simp[results,Tryz.f140,go_sem,q0,q1]) rfl ⟨rfl,HBQ.out⟩
end Go.Proofs.YtmpaflidennnoaaGreatDoor
