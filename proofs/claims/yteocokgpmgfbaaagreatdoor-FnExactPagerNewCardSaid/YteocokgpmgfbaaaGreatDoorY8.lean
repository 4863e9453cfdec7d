/-
  Packed:13 texts.
-/
import Derived.Test.YteocokgpmgfbaaaGreatDoorY1
import Derived.Test.YteocokgpmgfbaaaGreatDoorY7
import Derived.Test.YteocokgpmgfbaaaGreatDoorY4
import Derived.Test.YteocokgpmgfbaaaGreatDoorY5
import Derived.Test.YteocokgpmgfbaaaGreatDoorY2
import Derived.Test.YteocokgpmgfbaaaGreatDoorY3
set_option linter.unusedVariables false
set_option maxHeartbeats 16000000
set_option maxRecDepth 100000
namespace Go.Proofs.YteocokgpmgfbaaaGreatDoor
open Go.Proofs.Tryz
open Go.RowKit
def Pg (w:World) (m i e c s l q:Value) (P:BU):Prop:=L6 w m i e c P.kern∧BI w s P.swap∧Ap w l P.low∧A6 3 CQ w q P.pages
structure IP (lo:Nat) (w:World) (m i e c s l q:Value) (P:BU):Prop where
 ker:Ct lo w m i e c P.kern
 swp:∃vs,AV lo w s vs P.swap
 low:AE lo w l P.low
 pgs:AC lo 73 3 CQ w q P.pages
 apart:Ey m s
structure Pe (lo g:Nat) (w:World) (m i e c s l q:Value) (P:BU):Prop where
 blk:w.heap[g]? =some (.cells #[m,i,e,c,s,l,q, .int .i64 P.hand, .int .i64 P.limit] 31 (0,0))
 glo:lo≤g
 own:IP lo w m i e c s l q P
section
variable {lo g:Nat} {w w':World} {m i e c s l q:Value} {P:BU}
theorem Pg.below (h:Pg w m i e c s l q P) (hb:Below w.heap.size w w'):Pg w' m i e c s l q P:=⟨h.1.below hb,h.2.1.below hb,h.2.2.1.below hb,A6.below h.2.2.2 hb⟩
theorem IP.rd (h:IP lo w m i e c s l q P):Pg w m i e c s l q P:=⟨h.ker.rd,h.swp.choose_spec.rd,h.low.rd,h.pgs.rd⟩
theorem IP.below (h:IP lo w m i e c s l q P) (hb:Below w.heap.size w w'):IP lo w' m i e c s l q P:=⟨h.ker.below hb,⟨_,h.swp.choose_spec.below hb⟩,h.low.below hb,h.pgs.below hb,h.apart⟩
theorem IP.lower {lo':Nat} (h:IP lo w m i e c s l q P) (hl:lo'≤lo):IP lo' w m i e c s l q P:=⟨h.ker.lower hl,⟨_,h.swp.choose_spec.lower hl⟩,Bd h.low hl,Bd h.pgs hl,h.apart⟩
theorem IP.far {g T:Nat} {cs:Array Value} {fr:Nat×Nat} (h:IP lo w m i e c s l q P) (hg:w.grownBy w' (some g)) (hB:w.heap[g]? =some (.cells cs T fr))
 (h1:28≠T) (h2:3≠T) (h3:91≠T) (h4:62≠T) (h5:9≠T) (h6:95≠T) (h7:73≠T):IP lo w' m i e c s l q P:=
 ⟨h.ker.far hg hB h1 h2 h3 h4 h5 h6,⟨_,h.swp.choose_spec.far hg hB h1 h2⟩,EN h.low hg hB h2,h.pgs.far hg hB h7,h.apart⟩
theorem Pe.below (h:Pe lo g w m i e c s l q P) (hb:Below w.heap.size w w'):Pe lo g w' m i e c s l q P:=⟨AG h.blk hb,h.glo,h.own.below hb⟩
theorem Ad {t:Nat} {a0 a1 a2 a3 a4 a5 a6 a7 a8:Value} (h:w.heap[g]? =some (.cells #[a0,a1,a2,a3,a4,a5,a6,a7,a8] t (0,0))):
 w.cell? ⟨g,0,none⟩=some a0∧w.cell? ⟨g,1,none⟩=some a1∧w.cell? ⟨g,2,none⟩=some a2∧w.cell? ⟨g,3,none⟩=some a3∧w.cell? ⟨g,4,none⟩=some a4∧w.cell? ⟨g,5,none⟩=some a5∧w.cell? ⟨g,6,none⟩=some a6∧w.cell? ⟨g,7,none⟩=some a7∧w.cell? ⟨g,8,none⟩=some a8:=
 ⟨cell_of_row w g 0 _ _ _ h,cell_of_row w g 1 _ _ _ h,cell_of_row w g 2 _ _ _ h,cell_of_row w g 3 _ _ _ h,cell_of_row w g 4 _ _ _ h,cell_of_row w g 5 _ _ _ h,cell_of_row w g 6 _ _ _ h,cell_of_row w g 7 _ _ _ h,cell_of_row w g 8 _ _ _ h⟩
theorem Pe.cells (h:Pe lo g w m i e c s l q P):w.cell? ⟨g,0,none⟩=some m∧w.cell? ⟨g,1,none⟩=some i∧w.cell? ⟨g,2,none⟩=some e∧w.cell? ⟨g,3,none⟩=some c∧w.cell? ⟨g,4,none⟩=some s∧w.cell? ⟨g,5,none⟩=some l∧w.cell? ⟨g,6,none⟩=some q∧w.cell? ⟨g,7,none⟩=some (.int .i64 P.hand)∧w.cell? ⟨g,8,none⟩=some (.int .i64 P.limit):=Ad h.blk
theorem MF {t:Nat} {a0 a1 a2 a3 a4 a5 a6 a7 a8 m' i' e' c':Value} (h:w.heap[g]? =some (.cells #[a0,a1,a2,a3,a4,a5,a6,a7,a8] t (0,0))):
 ((((w.setCell ⟨g,0,none⟩ m').setCell ⟨g,1,none⟩ i').setCell ⟨g,2,none⟩ e').setCell ⟨g,3,none⟩ c').heap[g]? =some (.cells #[m',i',e',c',a4,a5,a6,a7,a8] t (0,0)):=by
 have h0:=heap_setCell_same w g 0 _ t m' h;have h1:=heap_setCell_same _ g 1 _ t i' h0;have h2:=heap_setCell_same _ g 2 _ t e' h1;have h3:=heap_setCell_same _ g 3 _ t c' h2;simpa using h3
theorem Pe.put {m' i' e' c':Value} {k':AH} {B:Nat} {w1:World} (h:Pe lo g w m i e c s l q P) (hb:Below w.heap.size w w1) (hB:w.heap.size≤B) (hlo:lo≤w.heap.size) (O:Ct B w1 m' i' e' c' k'):
 Pe lo g ((((w1.setCell ⟨g,0,none⟩ m').setCell ⟨g,1,none⟩ i').setCell ⟨g,2,none⟩ e').setCell ⟨g,3,none⟩ c') m' i' e' c' s l q {P with kern:=k'}:=by
 have h':=h.below hb;have hgr:=BJ w1 g m' i' e' c';have O':=O.far hgr h'.blk (by decide) (by decide) (by decide) (by decide) (by decide) (by decide);have F:=h'.own.far hgr h'.blk (by decide) (by decide) (by decide) (by decide) (by decide) (by decide) (by decide);refine⟨MF h'.blk,h.glo,⟨O'.lower (Nat.le_trans hlo hB),F.swp,F.low,F.pgs,fun b hb1 hb2=>?_⟩⟩;obtain⟨vs,r1⟩:=O.1;obtain⟨us,r2⟩:=h.own.swp;have:=(World.ownsRow.lt r1.1 b hb1).1;have:=(World.ownsRow.lt r2.1 b hb2).2;omega
end
def Ju (lo:Nat) (b:Bool) (v:Value) (w:World) (k:AH):Prop:=∃q,v= .pointer (some ⟨q,0,none⟩)∧lo≤q∧if b=true then ∃m i e c,w.heap[q]? =some (.cells #[m,i,e,c] 27 (0,0))∧Ct lo w m i e c k else w.heap[q]? =some (.cells #[.slice none 0 0, .slice none 0 0, .slice none 0 0, .slice none 0 0] 27 (0,0))
theorem Ju.below {lo:Nat} {b:Bool} {v:Value} {w w':World} {k:AH} (h:Ju lo b v w k) (hb:Below w.heap.size w w'):Ju lo b v w' k:=by
 obtain⟨q,h0,h1,h2⟩:=h;refine⟨q,h0,h1,?_⟩;cases b
 ·exact AG h2 hb
 ·obtain⟨m,i,e,c,h3,h4⟩:=h2
  exact⟨m,i,e,c,AG h3 hb,h4.below hb⟩
def Jb (lo:Nat) (v:Value) (w:World) (k:AH) (x y:Int):Prop:=∃m i e c,v= .tuple #[.agg #[m,i,e,c], .int .i64 x, .int .i64 y]∧Ct lo w m i e c k
def IN (lo:Nat) (v:Value) (w:World) (k:AH):Prop:=∃m i e c,v= .agg #[m,i,e,c]∧Ct lo w m i e c k
theorem Jb.below {lo:Nat} {v:Value} {w w':World} {k:AH} {x y:Int} (h:Jb lo v w k x y) (hb:Below w.heap.size w w'):Jb lo v w' k x y:=by obtain⟨m,i,e,c,h1,h2⟩:=h;exact⟨m,i,e,c,h1,h2.below hb⟩
theorem IN.below {lo:Nat} {v:Value} {w w':World} {k:AH} (h:IN lo v w k) (hb:Below w.heap.size w w'):IN lo v w' k:=by obtain⟨m,i,e,c,h1,h2⟩:=h;exact⟨m,i,e,c,h1,h2.below hb⟩
theorem Jb.far {lo g:Nat} {v:Value} {w w':World} {k:AH} {x y:Int} {cs:Array Value} {fr:Nat×Nat} (h:Jb lo v w k x y) (hg:w.grownBy w' (some g)) (hB:w.heap[g]? =some (.cells cs 27 fr)):Jb lo v w' k x y:=by obtain⟨m,i,e,c,h1,h2⟩:=h;exact⟨m,i,e,c,h1,h2.far hg hB (by decide) (by decide) (by decide) (by decide) (by decide) (by decide)⟩
theorem IN.far {lo g:Nat} {v:Value} {w w':World} {k:AH} {cs:Array Value} {fr:Nat×Nat} (h:IN lo v w k) (hg:w.grownBy w' (some g)) (hB:w.heap[g]? =some (.cells cs 27 fr)):IN lo v w' k:=by obtain⟨m,i,e,c,h1,h2⟩:=h;exact⟨m,i,e,c,h1,h2.far hg hB (by decide) (by decide) (by decide) (by decide) (by decide) (by decide)⟩
def Vm (lo g:Nat) (w:World) (s l q:Value) (P:BU) (call:AM) (r:Ending) (w':World):Prop:=
 r= .returned (.int .i64 (AO P.kern call).2.1)∧(∃m i e c,Pe lo g w' m i e c s l q {P with kern:=(AO P.kern call).1}∧Ct w.heap.size w' m i e c (AO P.kern call).1)∧Below lo w w'∧w.grownBy w' (some g)
theorem TS {lo g:Nat} {w:World} {mv iv ev cv sv lv qv:Value} {P:BU} (h:Pe lo g w mv iv ev cv sv lv qv P) (hlo:lo≤w.heap.size) (hK:DV P.kern) (call:AM) (he:0≤call.e) (hn:call.e<3) (hnm:call.nm.size≤maxLen) (hcc:call.c≤9223372036854775807):
 Calls prog 16 #[.pointer (some ⟨g,0,none⟩), .agg #[.int .i64 call.k, .int .i64 call.e, .int .i64 call.a, .int .i64 call.b, .int .i64 call.c, .string call.nm]] w (Vm lo g w sv lv qv P call):=by
 have b0:=AF w (.cells #[.int .i64 call.k, .int .i64 call.e, .int .i64 call.a, .int .i64 call.b, .int .i64 call.c, .string call.nm] 48);have N0:=heap_alloc_new w (.cells #[.int .i64 call.k, .int .i64 call.e, .int .i64 call.a, .int .i64 call.b, .int .i64 call.c, .string call.nm] 48);have CC:=fun W (hW:Below (w.alloc (.cells #[.int .i64 call.k, .int .i64 call.e, .int .i64 call.a, .int .i64 call.b, .int .i64 call.c, .string call.nm] 48)).heap.size (w.alloc (.cells #[.int .i64 call.k, .int .i64 call.e, .int .i64 call.a, .int .i64 call.b, .int .i64 call.c, .string call.nm] 48)) W)=>Qx mv iv ev cv P.kern call W ((h.own.ker.rd.below b0).below hW) hK he hn hnm hcc
 unfold Vm;have HI:=AA (h.below b0);have Hb:=AA (b0.mono hlo);have hl0:w.heap.size<(w.alloc (.cells #[.int .i64 call.k, .int .i64 call.e, .int .i64 call.a, .int .i64 call.b, .int .i64 call.c, .string call.nm] 48)).heap.size:=by simp
 generalize AO P.kern call=res at CC ⊢;obtain⟨kr,vr,nr⟩:=res;obtain⟨ck,ce,ca,cb,cc,nm⟩:=call;dsimp only at*;go_in;go_wp2_with fail;generalize w.alloc _=W0 at*;obtain⟨x0,x1,x2,x3,_⟩:=HI.out.cells;obtain⟨y0,y1,y2,y3,y4,y5⟩:=ME N0;have hgl:=Aq HI.out.blk;have CC:=AA CC;clear N0;refine Cz 14 23 (fun ix=>ix==11) [.p g 0, .p g 0, .p g 0, .a #[mv,iv,ev,cv], .a #[.int .i64 ck, .int .i64 ce, .int .i64 ca, .int .i64 cb, .int .i64 cc, .string nm], .z, .z, .z, .i vr, .i nr, .z, .z, .i vr, .i nr] (fun ll ix vv ww=>match ix with
  |5=>Jb W0.heap.size vv ww kr vr nr
  |6=>Jb W0.heap.size vv ww kr vr nr
  |7=>IN W0.heap.size vv ww kr
  |10=>Ju W0.heap.size (ll 11) vv ww kr
  |_=>True) (fun ll ww=>Below W0.heap.size W0 ww) ?_ ?_ ?_ ?_ ?_ ?_
 ·exact Ao (Below.refl _ _) 1
 ·intro j hj ll i vv wz ww' hi hS hLi hLj hbz hz
  match j,hj with
  |5,_=>exact(Jb.below hz hbz)
  |6,_=>exact(Jb.below hz hbz)
  |7,_=>exact(IN.below hz hbz)
  |10,_=>exact(Ju.below (by rw[ER (by rintro rfl;cases hS)];exact hz) hbz)
  |0,_|1,_|2,_|3,_|4,_|8,_|9,_|11,_|12,_|13,_=>exact hz
 ·intro ll i wz ww' hi hS hLi hbz hg
  exact hg.trans (hbz.mono hg.size)
 ·intro i hi hS o ho a wx Hb ll Hd HL hG K HK
  have mc0:=bc hG hgl x0;have mc1:=bc hG hgl x1;have mc2:=bc hG hgl x2;have mc3:=bc hG hgl x3;have mc4:=bc hG hl0 y0;have mc5:=bc hG hl0 y1;have mc6:=bc hG hl0 y2;have mc7:=bc hG hl0 y3;have mc8:=bc hG hl0 y4;have mc9:=bc hG hl0 y5
  match i,hi,hS with
  |0,_,_|1,_,_|2,_,_|12,_,_|13,_,_=>exact Tk ho HK Hb Hd HL
  |3,_,_=>exact Je ho HK Hb Hd HL (hl:=MY (by assumption) (by assumption) (by assumption) (by assumption))
  |4,_,_=>exact Je ho HK Hb Hd HL (hl:=Vn (by assumption) (by assumption) (by assumption) (by assumption) (by assumption) (by assumption))
  |5,_,_=>exact Vw ho HK Hb Hd HL (CC.out _ hG) (by rintro r w_ ⟨m',i',e',c',rfl,hO,hb2⟩;exact⟨_,rfl,⟨m',i',e',c',rfl,hO.lower hG.size⟩,hb2⟩)
  |11,_,hs=>exact absurd hs (by decide)
  |6,_,_=>clear mc0 mc1 mc2 mc3 mc4 mc5 mc6 mc7 mc8 mc9;obtain rfl:=So_ ho;have d5:Jb W0.heap.size (a.tmps[14]?.getD undef) wx kr vr nr:=Ec Hd HL 5;have u11:=Cl HL 11;clear Hd Hb;refine Aa.of rfl ?_;go_simp;exact HK.out _ _ d5 (Below.refl _ _)
  |7,_,_=>clear mc0 mc1 mc2 mc3 mc4 mc5 mc6 mc7 mc8 mc9;obtain rfl:=So_ ho;have d6:Jb W0.heap.size (a.tmps[8]?.getD undef) wx kr vr nr:=Ec Hd HL 6;have u11:=Cl HL 11;clear Hd Hb;obtain⟨m',i',e',c',d6,hO⟩:=d6;refine Aa.of rfl ?_;go_simp;exact HK.out _ _ ⟨_,_,_,_,rfl,hO⟩ (Below.refl _ _)
  |8,_,_=>clear mc0 mc1 mc2 mc3 mc4 mc5 mc6 mc7 mc8 mc9;obtain rfl:=So_ ho;have d6:Jb W0.heap.size (a.tmps[8]?.getD undef) wx kr vr nr:=Ec Hd HL 6;clear Hd Hb;obtain⟨m',i',e',c',d6,hO⟩:=d6;refine Aa.of rfl ?_;go_simp;exact HK.out _ _ rfl (Below.refl _ _)
  |9,_,_=>clear mc0 mc1 mc2 mc3 mc4 mc5 mc6 mc7 mc8 mc9;obtain rfl:=So_ ho;have d6:Jb W0.heap.size (a.tmps[8]?.getD undef) wx kr vr nr:=Ec Hd HL 6;clear Hd Hb;obtain⟨m',i',e',c',d6,hO⟩:=d6;refine Aa.of rfl ?_;go_simp;exact HK.out _ _ rfl (Below.refl _ _)
  |10,_,_=>clear mc0 mc1 mc2 mc3 mc4 mc5 mc6 mc7 mc8 mc9;obtain rfl:=So_ ho;have u11:=Cl HL 11;clear Hd Hb;refine Aa.of rfl ?_;go_simp;exact HK.out _ _ ⟨_,rfl,hG.size,by rw[ER (by decide),u11];exact heap_alloc_new _ _⟩ (AF _ _)
 ·intro i hi hS o ho a wx Hb ll Hd HL hG K HK
  match i,hi,hS with
  |0,_,hs|1,_,hs|2,_,hs|3,_,hs|4,_,hs|5,_,hs|6,_,hs|7,_,hs|8,_,hs|9,_,hs|10,_,hs|12,_,hs|13,_,hs=>exact absurd hs (by decide)
  |11,_,_=>
   obtain rfl:=So_ ho;have d10:Ju W0.heap.size (ll 11) (a.tmps[5]?.getD undef) wx kr:=Ec Hd HL 10;have d7:IN W0.heap.size (a.tmps[15]?.getD undef) wx kr:=Ec Hd HL 7;clear Hd Hb;obtain⟨qb,e10,hq1,hq2⟩:=d10;rw[HL.out.1] at hq2;replace hq2:wx.heap[qb]? =some (.cells #[.slice none 0 0, .slice none 0 0, .slice none 0 0, .slice none 0 0] 27 (0,0)):=hq2;obtain⟨m',i',e',c',d7,hO⟩:=d7;obtain⟨⟨va,vn,vc,rfl⟩,⟨wa,wn,wc,rfl⟩,⟨xa,xn,xc,rfl⟩,⟨ya,yn,yc,rfl⟩⟩:=hO.shapes;obtain⟨c0,c1_,c2,c3⟩:=AB hq2;have fq:=AI hq2;have hgr:=AA (BJ wx qb (.slice va vn vc) (.slice wa wn wc) (.slice xa xn xc) (.slice ya yn yc));have E10:=AA e10;have Hq:=AA hq2;have HO:=AA hO;clear hq2 hO;refine Aa.of rfl ?_;go_simp;exact HK.out undef _ trivial (AN hG hgr.out hq1 hG.size) (fun j hji hjn hjl hu=>match j,hjn with
    |0,_|1,_|2,_|3,_|4,_|8,_|9,_|11,_|12,_|13,_=>hu
    |5,_=>Jb.far hu hgr.out Hq.out
    |6,_=>Jb.far hu hgr.out Hq.out
    |7,_=>IN.far hu hgr.out Hq.out
    |10,_=>⟨qb,E10.out,hq1,by rw[En];exact⟨_,_,_,_,DB Hq.out,HO.out.far hgr.out Hq.out (by decide) (by decide) (by decide) (by decide) (by decide) (by decide)⟩⟩)
 ·intro vs wx ll hall hR hG
  have q10:Ju W0.heap.size (ll 11) (vs 10) wx kr:=BT hR 10;have q12:(vs 12)= .int .i64 vr:=BT hR 12;clear hR;simp only[DS,BW,List.range,List.range.loop,List.foldl_cons,List.foldl_nil,q12];simp;generalize vs 10=z10 at q10 ⊢;clear q12;obtain⟨qb,rfl,hq1,hq2⟩:=q10;rw[hall 11 (by decide),if_pos rfl] at hq2;obtain⟨m',i',e',c',hqB,hO⟩:=hq2;clear hall;obtain⟨⟨ma,mn,mc,rfl⟩,⟨ia,iN,ic,rfl⟩,⟨ea,en,ec,rfl⟩,⟨qa,qn,qc,rfl⟩⟩:=hO.shapes;obtain⟨c0,c1_,c2,c3⟩:=AB hqB;have hIx:=HI.out.below hG;have fg:=AI hIx.blk;obtain⟨z0,z1,z2,z3,_⟩:=hIx.cells;have R:=AA (HI.out.put hG (Nat.le_refl _) (Nat.le_trans hlo (by omega)) hO);have R2:=AA ((hO.far (BJ wx g (.slice ma mn mc) (.slice ia iN ic) (.slice ea en ec) (.slice qa qn qc)) hIx.blk (by decide) (by decide) (by decide) (by decide) (by decide) (by decide)).lower (Nat.le_of_lt hl0));have B:=AA (AN (Hb.out.trans (hG.mono (Nat.le_trans hlo (by omega)))) (BJ wx g (.slice ma mn mc) (.slice ia iN ic) (.slice ea en ec) (.slice qa qn qc)) HI.out.glo (Nat.le_trans hlo (Nat.le_trans (by omega) hG.size)));have R3:=AA (Bp ⟨b0.os,b0.tape,b0.output,b0.size,fun k hk _=>b0.block k hk⟩ (Bp ⟨hG.os,hG.tape,hG.output,hG.size,fun k hk _=>hG.block k hk⟩ (BJ wx g (.slice ma mn mc) (.slice ia iN ic) (.slice ea en ec) (.slice qa qn qc))));clear hIx hO hqB x0 x1 x2 x3 y0 y1 y2 y3 y4 y5;go_wp2_with fail;go_ret;exact⟨rfl,⟨_,_,_,_,R.out,R2.out⟩,B.out,R3.out⟩
structure Si (lo g:Nat) (o:Value) (st:AH×List Int) (w wr:World) (m i e c:Value):Prop where
 blk:wr.heap[g]? =some (.cells #[m,i,e,c] 27 (0,0))
 glo:lo≤g
 ker:∃vs,AV lo wr m vs st.1.mem∧∀v∈vs,Ey o v
 inf:AC lo 91 3 AX wr i st.1.infos
 env:∃ps,A2 lo wr e ps st.1.envs
 cac:AC lo 95 4 AJ wr c st.1.cache
 out:AE lo wr o st.2
 bel:Below lo w wr
 lo:lo≤wr.heap.size
section
variable {lo g:Nat} {o m i e c:Value} {st:AH×List Int} {w wr w':World}
theorem Si.below (h:Si lo g o st w wr m i e c) (hb:Below wr.heap.size wr w'):Si lo g o st w w' m i e c:=by obtain⟨vs,h1,h2⟩:=h.ker;obtain⟨ps,h3⟩:=h.env;exact⟨AG h.blk hb,h.glo,⟨vs,h1.below hb,h2⟩,h.inf.below hb,⟨ps,h3.below hb⟩,h.cac.below hb,h.out.below hb,h.bel.trans (hb.mono h.lo),Nat.le_trans h.lo hb.size⟩
theorem Si.own (h:Si lo g o st w wr m i e c):Ct lo wr m i e c st.1:=by obtain⟨vs,h1,_⟩:=h.ker;exact⟨⟨vs,h1⟩,h.inf,h.env,h.cac⟩
theorem Si.start {k:AH} {w2:World} (O:Ct lo w2 m i e c k) (hb:Below lo w w2) (hl:lo≤w2.heap.size):Si lo w2.heap.size (.slice none 0 0) (k,[]) w (w2.alloc (.cells #[m,i,e,c] 27)) m i e c:=by
 have b3:=AF w2 (.cells #[m,i,e,c] 27);obtain⟨⟨vs,h1⟩,h2,⟨ps,h3⟩,h4⟩:=O.below b3;exact⟨heap_alloc_new _ _,hl,⟨vs,h1,fun v hv b hb'=>by simp[Value.ownBlock] at hb'⟩,h2,⟨ps,h3⟩,h4,World.ownsRow_nil _ _ _ _,hb.trans (b3.mono hl),Nat.le_trans hl b3.size⟩
theorem Si.put {m' i' e' c':Value} {k':AH} (h:Si lo g o st w wr m i e c) {w1:World} (hb:Below wr.heap.size wr w1) (O:Ct wr.heap.size w1 m' i' e' c' k'):
 Si lo g o (k',st.2) w ((((w1.setCell ⟨g,0,none⟩ m').setCell ⟨g,1,none⟩ i').setCell ⟨g,2,none⟩ e').setCell ⟨g,3,none⟩ c') m' i' e' c':=by
 have h':=h.below hb;have hgr:=BJ w1 g m' i' e' c';obtain⟨⟨vs,h1⟩,h2,⟨ps,h3⟩,h4⟩:=O;refine⟨DB h'.blk,h.glo,⟨vs,(h1.far hgr h'.blk (by decide) (by decide)).lower h.lo,fun v hv b hb1 hb2=>?_⟩,(h2.far hgr h'.blk (by decide)).lower h.lo,⟨ps,(h3.far hgr h'.blk (by decide) (by decide)).lower h.lo⟩,(h4.far hgr h'.blk (by decide)).lower h.lo,EN h'.out hgr h'.blk (by decide),AN h'.bel hgr h.glo h'.lo,Nat.le_trans h'.lo hgr.size⟩;obtain⟨j,hj⟩:=List.getElem?_of_mem hv;have hlen:=h1.2.1.1;obtain⟨x,hx⟩:∃x,k'.mem[j]? =some x:=⟨_,List.getElem?_eq_getElem (by rw[←hlen];exact(List.getElem?_eq_some_iff.1 hj).1)⟩
 have:=(World.ownsRow.lt (h1.2.1.2 j v x hj hx) b hb2).1;have:=(World.ownsRow.lt h.out b hb1).2;omega
theorem Si.push {o':Value} {x:Int} (h:Si lo g o st w wr m i e c) (h1:w'.ownsRow lo 3 1 o' (st.2.length+1) (st.2.map (Value.int .i64)++[.int .i64 x])) (h2:wr.grownBy w' o.ownBlock) (h3:o'.ownBlock=o.ownBlock∨o'.ownBlock=some wr.heap.size) (h4:Below lo wr w'):
 Si lo g o' (st.1,st.2++[x]) w w' m i e c:=by
 obtain⟨vs,r1,r2⟩:=h.ker;obtain⟨ps,r3⟩:=h.env;have hne:=Bs h.out h.blk (by decide);refine⟨(h2.block g (Aq h.blk) (fun e=>hne e.symm)).trans h.blk,h.glo,⟨vs,⟨An r1.1 h2 (BA r1.1 h.out (by decide)).ne,?_,r1.2.2⟩,?_⟩,An h.inf h2 (BA h.inf h.out (by decide)).ne,⟨ps,An r3.1 h2 (BA r3.1 h.out (by decide)).ne,r3.2.1.mono fun _ _ x=>⟨An x.1 h2 (BA x.1 h.out (by decide)).ne,x.2⟩,r3.2.2⟩,An h.cac h2 (BA h.cac h.out (by decide)).ne,by simpa[AE] using h1,h.bel.trans h4,Nat.le_trans h.lo h4.size⟩
 ·refine⟨r1.2.1.1,fun j u y hu hy=>An (r1.2.1.2 j u y hu hy) h2 ?_⟩
  exact(r2 u (List.mem_of_getElem? hu)).symm.ne
 ·intro v hv
  obtain⟨j,hj⟩:=List.getElem?_of_mem hv;obtain⟨y,hy⟩:∃y,st.1.mem[j]? =some y:=⟨_,List.getElem?_eq_getElem (by rw[←r1.2.1.1];exact(List.getElem?_eq_some_iff.1 hj).1)⟩
  exact(r2 v hv).grown h3 (fun b hb=>(World.ownsRow.lt (r1.2.1.2 j v y hj hy) b hb).2)
end
theorem R0 (w:World) (a b:Obj):((w.alloc a).alloc b).heap[w.heap.size]? =some a∧((w.alloc a).alloc b).heap[w.heap.size+1]? =some b∧Below w.heap.size w ((w.alloc a).alloc b)∧((w.alloc a).alloc b).heap.size=w.heap.size+2:=by have h1:=heap_alloc_new w a;have h2:=heap_alloc_new (w.alloc a) b;have h4:=AG h1 (AF _ b);simp only[World.size_alloc] at h2;exact⟨h4,h2,FQ w a b,by simp⟩
structure L5 (l:List Oper) (n:Nat) (a0:Act) (R:Nat→Value→World→Prop) (G:(Nat→Bool)→(Nat→Value)→World→Prop) (listed:Array Bool) (a:Act) (w:World):Prop where
 head:HeadInv .any l.toArray n listed
 defers:a.defers=a0.defers
 size:a.tmps.size=a0.tmps.size
 base:∀t,(∀i,i<n→AQ l i≠t)→a.tmps[t]? =a0.tmps[t]?
 post:∀i,i<n→listed.getD i false=true→R i (a.tmps.getD (AQ l i) undef) w
 glob:G (fun j=>listed.getD j false) (fun j=>a.tmps.getD (AQ l j) undef) w
section
variable {P:Program}
theorem L5.wpAny {l:List Oper} {n:Nat} {a0:Act} {R:Nat→Value→World→Prop} {G:(Nat→Bool)→(Nat→Value)→World→Prop} {Q:Exit→Act→World→Prop}
 (hB:Ft l n=true) (hdst:∀i,i<n→AQ l i<a0.tmps.size)
 (hstep:∀i,i<n→∀o,l[i]? =some o→∀a w,a.defers=a0.defers→a.tmps.size=a0.tmps.size→(∀t,(∀i,i<n→AQ l i≠t)→a.tmps[t]? =a0.tmps[t]?)→
  (∀j,Region.waitsFor .any l.toArray i j=true→R j (a.tmps.getD (AQ l j) undef) w)→∀L:Nat→Bool,L i=false→(∀j,Region.waitsFor .any l.toArray i j=true→L j=true)→(∀j j',L j=true→Region.waitsFor .any l.toArray j j'=true→L j'=true)→G L (fun j=>a.tmps.getD (AQ l j) undef) w→
  ∀K:Act→World→Prop,(∀v w',R i v w'→(∀vs',vs' i=v→(∀j,j<n→j≠i→vs' j=a.tmps.getD (AQ l j) undef)→G (Gy L i) vs' w')→(∀j u,j≠i→j<n→L j=true→R j u w→R j u w')→K (a.put o.dst v) w')→Aa P l o a w K Q)
 (htail:∀a w,a.defers=a0.defers→a.tmps.size=a0.tmps.size→(∀t,(∀i,i<n→AQ l i≠t)→a.tmps[t]? =a0.tmps[t]?)→
  (∀i,i<n→R i (a.tmps.getD (AQ l i) undef) w)→∀L:Nat→Bool,(∀i,i<n→L i=true)→G L (fun j=>a.tmps.getD (AQ l j) undef) w→wpList P l.toArray Q (l.drop n) a w):
 ∀(f:Nat) (listed:Array Bool) (a:Act) (w:World),f=(l.length - n)+((List.range n).filter fun i=>!listed.getD i false).length→L5 l n a0 R G listed a w→Go.wpAny P .any l.toArray Q f listed a w:=by
 simp only[Ft,Bool.and_eq_true,decide_eq_true_eq] at hB;obtain⟨⟨⟨⟨⟨⟨hn,hs⟩,hc⟩,hg⟩,hdis⟩,hseq⟩,hback⟩:=hB;have hgd:∀i,i<n→∃o d,l[i]? =some o∧o.dst=some d∧AQ l i=d:=by
  intro i hi;have:=List.all_eq_true.1 hg i (List.mem_range.2 hi);cases ho:l[i]? with
  |none=>rw[ho] at this;cases this
  |some o=>rw[ho] at this;simp only[Option.isSome_iff_exists] at this;obtain⟨d,h2⟩:=this;exact⟨o,d,rfl,h2,by simp[AQ,ho,h2]⟩
 have hne:∀i j,i<n→j<n→i≠j→AQ l i≠AQ l j:=by intro i j hi hj hij;have:=List.all_eq_true.1 (List.all_eq_true.1 hdis i (List.mem_range.2 hi)) j (List.mem_range.2 hj);simpa[hij] using this
 have hn':n<l.toArray.size:=by simpa using hn
 intro f
 induction f with
 |zero=>intro listed a w hf _;omega
 |succ f ih=>
  intro listed a w hf inv
  by_cases hall:∀i,i<n→listed.getD i false=true
  ·have hlisted:listed=Array.ofFn (n:=l.length) fun i=>decide (i.val<n):=by
    have hsz:listed.size=l.length:=by have:=inv.head.size;simpa using this
    apply Array.ext
    ·simp[hsz]
    ·intro i h1 h2
     simp only[Array.getElem_ofFn]
     by_cases hi:i<n
     ·have:=hall i hi
      simp[h1] at this;simp[hi,this]
     ·have:=inv.head.tail i (by omega) (by simpa[hsz] using h1)
      simp[h1] at this;simp[hi,this]
   have h0:((List.range n).filter fun i=>!listed.getD i false)=[]:=by rw[List.filter_eq_nil_iff];intro i hi;simp[hall i (List.mem_range.1 hi)]
   have hT:=htail a w inv.defers inv.size inv.base (fun i hi=>inv.post i hi (hall i hi)) _ hall inv.glob;have hW:=wpAny_of_seq (P:=P) (md:= .any) (ops:=l.toArray) (Q':=Q) (l.drop n) n listed a w (fun j=>by simp[List.getElem?_drop]) (by rw[hlisted];simpa using hseq) hT;have e:(l.drop n).length=f+1:=by rw[h0] at hf;simp at hf ⊢;omega
   rw[e] at hW;exact hW
  ·obtain⟨i0,hi0⟩:=Classical.not_forall.1 hall
   obtain⟨hi0n,hi0l⟩:=Classical.not_imp.1 hi0;have hi0f:listed.getD i0 false=false:=by simpa using hi0l
   have hsz:listed.size=l.length:=by have:=inv.head.size;simpa using this
   have hi0t:listed.getD i0 true=false:=getD_in (by omega) hi0f;refine⟨fun hr=>?_,fun i hi=>?_⟩
   ·exfalso
    have:∀k,k≤l.length→∀i,i<k→i<n→listed.getD i true=false→False:=by
     intro k
     induction k with
     |zero=>intro _ i hi;omega
     |succ k ihk=>
      intro hk i hik hin hun;have hnr:i∉Region.ready .any l.toArray listed:=by rw[hr];simp
      obtain⟨o,d,ho,_,_⟩:=hgd i hin;apply hnr;rw[mem_ready];refine⟨hun,o,by simpa using ho,fun e he hb=>?_⟩;have hlt:e.on<i:=by have:=List.all_eq_true.1 hback i (List.mem_range.2 (by omega));rw[ho] at this;simpa[hb] using Array.all_eq_true'.1 this e he
      cases hx:listed.getD e.on false with
      |true=>rfl
      |false=>exact(ihk (by omega) e.on (by omega) (by omega) (getD_in (by omega) hx)).elim
    exact this l.length (Nat.le_refl _) i0 (by omega) hi0n hi0t
   ·have hin:i<n:=by
     rcases Nat.lt_or_ge i n with h|h
     ·exact h
     ·exact absurd hi (tail_waits hs hc hn' inv.head _ i0 rfl hi0n hi0t i h)
    obtain⟨o,d,ho,hod,hdo⟩:=hgd i hin;obtain⟨hun,o',ho',hdep⟩:=mem_ready.1 hi;obtain rfl:o'=o:=by
     have:l[i]? =some o':=by simpa using ho'
     rw[ho] at this;exact(So_ this).symm
    have hdeps:∀j,Region.waitsFor .any l.toArray i j=true→R j (a.tmps.getD (AQ l j) undef) w:=by
     intro j hj;obtain⟨oj,hoj,e,he,hb,rfl⟩:=Region.waitsFor_spec hj;obtain rfl:oj=o':=So_ (hoj.symm.trans ho');have hlt:e.on<i:=by have:=List.all_eq_true.1 hback i (List.mem_range.2 (by omega));rw[ho] at this;simpa[hb] using Array.all_eq_true'.1 this e he
     exact inv.post e.on (by omega) (hdep e he hb)
    unfold Go.wpOp;rw[ho'];have hlis:∀j,Region.waitsFor .any l.toArray i j=true→listed.getD j false=true:=by intro j hj;obtain⟨oj,hoj,e,he,hb,rfl⟩:=Region.waitsFor_spec hj;obtain rfl:oj=o':=So_ (hoj.symm.trans ho');exact hdep e he hb
    suffices H:∀K:Act→World→Prop,(∀v w',R i v w'→(∀vs',vs' i=v→(∀j,j<n→j≠i→vs' j=a.tmps.getD (AQ l j) undef)→G (Gy (fun j=>listed.getD j false) i) vs' w')→(∀j u,j≠i→j<n→listed.getD j false=true→R j u w→R j u w')→K (a.put o'.dst v) w')→Aa P l o' a w K Q by
     have hK:=H (Go.wpAny P .any l.toArray Q f (listed.setIfInBounds i true)) ?_
     ·cases hwt:Region.wanted o' (yielded l.toArray a.tmps) with
      |true=>dsimp only;rw[hwt,if_pos rfl];exact .inl (hK.1 hwt)
      |false=>dsimp only;rw[hwt,if_neg Bool.false_ne_true];exact hK.2 hwt
     ·intro v w' hR hG' hkeep
      have hcount:f=(l.length - n)+((List.range n).filter fun k=>!(listed.setIfInBounds i true).getD k false).length:=by
       have hone:((List.range n).filter fun k=>!listed.getD k false).length=((List.range n).filter fun k=>!(listed.setIfInBounds i true).getD k false).length+1:=by
        have hmem:i∈(List.range n).filter fun k=>!listed.getD k false:=by rw[List.mem_filter];exact⟨List.mem_range.2 hin,by simp[getD_both hun]⟩
        have hnd:((List.range n).filter fun k=>!listed.getD k false).Nodup:=List.nodup_range.filter _;have he:((List.range n).filter fun k=>!(listed.setIfInBounds i true).getD k false)=((List.range n).filter fun k=>!listed.getD k false).erase i:=by
         rw[hnd.erase_eq_filter,List.filter_filter];refine List.filter_congr fun k hk=>?_
         by_cases hki:k=i
         ·subst hki
          simp[Dt (show k<listed.size by omega)]
         ·rw[getD_set_ne false (Ne.symm hki)]
          simp[hki]
        rw[he,List.length_erase_of_mem hmem];have:=List.length_pos_of_mem hmem;omega
       omega
      refine ih _ _ _ hcount ⟨inv.head.set hi hin,?_,?_,?_,?_,?_⟩
      ·rw[hod];exact inv.defers
      ·rw[hod];simpa[Act.put] using inv.size
      ·intro t ht
       rw[hod];simp only[Act.put];rw[Array.getElem?_setIfInBounds_ne (by rw[←hdo];exact ht i hin)];exact inv.base t ht
      ·intro j hj hjl
       rw[hod];simp only[Act.put]
       by_cases hji:j=i
       ·subst hji
        rw[hdo];have:d<a.tmps.size:=by rw[←hdo,inv.size];exact hdst j hj
        simpa[this] using hR
       ·have hjl':listed.getD j false=true:=by rwa [getD_set_ne false (Ne.symm hji)] at hjl
        have h1:=hkeep j _ hji hj hjl' (inv.post j hj hjl');have e:(a.tmps.setIfInBounds d v).getD (AQ l j) undef=a.tmps.getD (AQ l j) undef:=by
         have:d≠AQ l j:=by rw[←hdo];exact hne i j hin hj (Ne.symm hji)
         simp only[Array.getD_eq_getD_getElem?];rw[Array.getElem?_setIfInBounds_ne this]
        rw[e];exact h1
      ·have eL:(fun j=>(listed.setIfInBounds i true).getD j false)=Gy (fun j=>listed.getD j false) i:=by
        funext j
        unfold Gy
        by_cases hji:j=i
        ·subst hji
         rw[if_pos rfl,Dt (by omega)]
        ·rw[if_neg hji,getD_set_ne false (Ne.symm hji)]
       rw[eL];refine hG' _ ?_ (fun j hj hji=>?_)
       ·show(a.put o'.dst v).tmps.getD (AQ l i) undef=v
        rw[hod];simp only[Act.put];rw[hdo];have:d<a.tmps.size:=by rw[←hdo,inv.size];exact hdst i hin
        simp[this]
       ·show(a.put o'.dst v).tmps.getD (AQ l j) undef=a.tmps.getD (AQ l j) undef
        rw[hod];simp only[Act.put];have:d≠AQ l j:=by rw[←hdo];exact hne i j hin hj (Ne.symm hji)
        simp only[Array.getD_eq_getD_getElem?];rw[Array.getElem?_setIfInBounds_ne this]
    have hclo:∀j j',listed.getD j false=true→Region.waitsFor .any l.toArray j j'=true→listed.getD j' false=true:=by intro j j' hj hw;obtain⟨oj,hoj,e,he,hb,rfl⟩:=Region.waitsFor_spec hw;exact inv.head.closed j oj hoj hj e he hb
    exact fun K hK=>hstep i hin o' ho a w inv.defers inv.size inv.base hdeps _ (getD_both hun) hlis hclo inv.glob K hK
theorem LE {id:Nat} {Q:Exit→Act→World→Prop} {a0:Act} {w0:World} {l:List Oper} (n:Nat) (hm:P.follows .mixedOrders=true) (hB:Ft l n=true)
 (N:Nat) (hN:a0.tmps.size=N) (hD:Qz l n N=true) (R:Nat→Value→World→Prop) (G:(Nat→Bool)→(Nat→Value)→World→Prop) (hG:∀vs,G (fun _=>false) vs {w0 with drawn:=w0.drawn+1})
 (hstep:∀i,i<n→∀o,l[i]? =some o→∀a w,Hid (a.defers=a0.defers∧a.tmps.size=a0.tmps.size∧∀t,(∀i,i<n→AQ l i≠t)→a.tmps[t]? =a0.tmps[t]?)→
  Hid (∀j,Region.waitsFor .any l.toArray i j=true→R j (a.tmps[AQ l j]?.getD undef) w)→∀L:Nat→Bool,Hid (L i=false∧(∀j,Region.waitsFor .any l.toArray i j=true→L j=true)∧∀j j',L j=true→Region.waitsFor .any l.toArray j j'=true→L j'=true)→G L (fun j=>a.tmps.getD (AQ l j) undef) w→
  ∀K:Act→World→Prop,Hid (∀v w',R i v w'→(∀vs',vs' i=v→(∀j,j<n→j≠i→vs' j=a.tmps.getD (AQ l j) undef)→G (Gy L i) vs' w')→(∀j u,j≠i→j<n→L j=true→R j u w→R j u w')→K (a.put o.dst v) w')→Aa P l o a w K Q)
 (htail:∀(vs:Nat→Value) w,(∀i,i<n→R i (vs i) w)→∀L:Nat→Bool,(∀i,i<n→L i=true)→G L vs w→wpList P l.toArray Q (l.drop n) {a0 with tmps:=Ai l (List.range n) vs a0.tmps} w):
 (Code.region id l.toArray true).wp P Q a0 w0:=by
 have hdst:∀i,i<n→AQ l i<a0.tmps.size:=fun i hi=>by have:=List.all_eq_true.1 hD i (List.mem_range.2 hi);rw[hN];simpa using this
 refine wp_region_any hm ?_;refine L5.wpAny (a0:=a0) (R:=R) (G:=G) hB hdst (fun i hi o ho a w h1 h2 h3 h4 L h6 h7 h8 h5 K hK=>hstep i hi o ho a w (AA ⟨h1,h2,h3⟩) (AA fun j hj=>by have:=h4 j hj;rwa [Array.getD_eq_getD_getElem?] at this) L (AA ⟨h6,h7,h8⟩) h5 K (AA hK)) (fun a w h1 h2 h3 h4 L h6 h5=>?_) _ _ _ _ ?_ ⟨⟨by simp,fun j oj _ hl=>(by rw[getD_replicate_false] at hl;cases hl),fun t _ ht=>getD_in (by simpa using ht) (getD_replicate_false _ _)⟩,rfl,rfl,fun _ _=>rfl,fun i _ hl=>(by rw[getD_replicate_false] at hl;cases hl),(show G (fun j=>(Array.replicate l.toArray.size false).getD j false) _ _ from(funext fun j=>getD_replicate_false _ _:(fun j=>(Array.replicate l.toArray.size false).getD j false)=fun _=>false)▸hG _)⟩
 ·have e:=Ng l (List.range n) a0.tmps a.tmps h2 (fun t ht=>h3 t fun i hi=>ht i (List.mem_range.2 hi))
  have:=htail (fun i=>a.tmps.getD (AQ l i) undef) w h4 L h6 h5;rw[←e] at this;obtain⟨tm,df⟩:=a;dsimp only at h1 this;subst h1;exact this
 ·have hn:n<l.length:=by
   simp only[Ft,Bool.and_eq_true,decide_eq_true_eq] at hB;exact hB.1.1.1.1.1.1
  have:((List.range n).filter fun i=>!(Array.replicate l.toArray.size false).getD i false)=List.range n:=by rw[List.filter_eq_self];intro i _;rw[getD_replicate_false];rfl
  rw[this];simp;omega
theorem M6 {id:Nat} {Q:Exit→Act→World→Prop} {a0:Act} {w0:World} {l:List Oper} (n:Nat) (hm:P.follows .mixedOrders=true) (hB:Ft l n=true)
 (N:Nat) (hN:a0.tmps.size=N) (hD:Qz l n N=true) (i1 i2:Nat) (hw:Region.waitsFor .any l.toArray i2 i1=true) (h1n:i1<n) (h2n:i2<n) (Pair:Value→Value→Prop) (R:Nat→Value→World→Prop) (hmono:∀i,i<n→∀v w w',Below w.heap.size w w'→R i v w→R i v w')
 (hstep:∀i,i<n→i≠i2→∀o,l[i]? =some o→∀a w,Hid (a.defers=a0.defers∧a.tmps.size=a0.tmps.size∧∀t,(∀i,i<n→AQ l i≠t)→a.tmps[t]? =a0.tmps[t]?)→
  Hid (∀j,Region.waitsFor .any l.toArray i j=true→R j (a.tmps[AQ l j]?.getD undef) w)→Below w0.heap.size w0 w→
  ∀K:Act→World→Prop,Hid (∀v w',R i v w'→Below w.heap.size w w'→K (a.put o.dst v) w')→Aa P l o a w K Q)
 (hpair:∀o,l[i2]? =some o→∀a w,Hid (a.defers=a0.defers∧a.tmps.size=a0.tmps.size∧∀t,(∀i,i<n→AQ l i≠t)→a.tmps[t]? =a0.tmps[t]?)→
  Hid (∀j,Region.waitsFor .any l.toArray i2 j=true→R j (a.tmps[AQ l j]?.getD undef) w)→Below w0.heap.size w0 w→
  ∀K:Act→World→Prop,Hid (∀v w',R i2 v w'→Pair (a.tmps[AQ l i1]?.getD undef) v→Below w.heap.size w w'→K (a.put o.dst v) w')→Aa P l o a w K Q)
 (htail:∀(vs:Nat→Value) w,(∀i,i<n→R i (vs i) w)→Pair (vs i1) (vs i2)→Below w0.heap.size w0 w→wpList P l.toArray Q (l.drop n) {a0 with tmps:=Ai l (List.range n) vs a0.tmps} w):
 (Code.region id l.toArray true).wp P Q a0 w0:=by
 refine LE n hm hB N hN hD R (fun L vs w=>Below w0.heap.size w0 w∧(L i2=true→Pair (vs i1) (vs i2))) (fun vs=>⟨⟨rfl,rfl,rfl,Nat.le_refl _,fun _ _=>rfl⟩,fun h=>by cases h⟩) ?_ (fun vs w h1 L hL h2=>htail vs w h1 (h2.2 (hL i2 h2n)) h2.1);intro i hi o ho a w Hb Hd L HL hG K HK;have up:∀{w':World},Below w.heap.size w w'→Below w0.heap.size w0 w':=fun h2=>hG.1.trans ⟨h2.os,h2.tape,h2.output,h2.size,fun k hk=>h2.block k (Nat.lt_of_lt_of_le hk hG.1.size)⟩
 by_cases e2:i=i2
 ·subst e2
  refine hpair o ho a w Hb Hd hG.1 K (AA fun v w' h1 hp h2=>HK.out v w' h1 (fun vs' hv ho'=>⟨up h2,fun _=>?_⟩) (fun j u _ hj _ h=>hmono j hj u w w' h2 h));have hne:i1≠i:=fun e=>by have:=HL.out.2.1 i1 hw;rw[e,HL.out.1] at this;cases this
  rw[hv,ho' i1 h1n hne,Array.getD_eq_getD_getElem?];exact hp
 ·refine hstep i hi e2 o ho a w Hb Hd hG.1 K (AA fun v w' h1 h2=>HK.out v w' h1 (fun vs' hv ho'=>⟨up h2,fun hl=>?_⟩) (fun j u _ hj _ h=>hmono j hj u w w' h2 h))
  have hl2:L i2=true:=by unfold Gy at hl;rwa [if_neg (Ne.symm e2)] at hl
  have e1:i1≠i:=fun e=>by have:=HL.out.2.2 i2 i1 hl2 hw;rw[e,HL.out.1] at this;cases this
  have:=hG.2 hl2;rw[ho' i1 h1n e1,ho' i2 h2n (Ne.symm e2)];exact this
end
theorem Mi (v:Value) (m:List (List Int)) (w:World) (h:BI w v m) (hml:m.length=16) (hok:∀k,k<16→(AK m k).length≤4):
 Calls prog 41 #[v] w fun e w'=>∃v' vs,e= .returned v'∧AV w.heap.size w' v' vs m∧Below w.heap.size w w':=by
 obtain⟨vs,h1,h2⟩:=h;have hvl:vs.length=16:=by rw[h2.1,hml]
 have CC:=AA (Jf v vs w h1 (by omega) (Nv h2));have CI:=AA (fun k (hk:k<16) W (hW:Below w.heap.size w W)=>HZ (vs.getD k (.bool false)) (AK m k) W (Ap.below (h2.2 k _ _ (Ba (by omega)) (by unfold AK;exact Ba (by omega))) hW) (by have:=hok k hk;omega));have SH:=AA (fun k (hk:k<16)=>(by obtain⟨a,c,e,_⟩:=(h2.2 k _ _ (Ba (d:=Value.bool false) (by omega)) (Ba (d:=[]) (by omega))).open;exact⟨a,_,c,e⟩:∃a n c,vs.getD k (.bool false)= .slice a n c));have Hvl:=AA hvl;have Hml:=AA hml;obtain⟨ai,ci,rfl,_,_⟩:=h1.shape;clear h1 h2 hok hml;rw[hvl] at CC ⊢;clear hvl;go_in;go_wp2_with fail;refine(CC.out).mono ?_;rintro e w1 ⟨v',rfl,hO,hb1⟩;obtain⟨g,cap,rfl,c1,c2,q1,q2,hfz⟩:=hO.shapeOwn (by have:=Hvl.out;omega);unfold maxLen at c2;rw[Hvl.out] at hO c1 ⊢;have HO:=AA hO;have HB:=AA hb1;clear hO hb1 hfz;go_wp2_with fail;go_loopw [10] (fun i wr=>∃us:List Value,us.length≤16∧i= .int .i64 us.length∧EW w.heap.size wr (.slice (some ⟨g,0,none⟩) 16 cap) us (vs.drop us.length) m∧Below w.heap.size w wr) (fun i _=>16 - (intOf i).toNat)
 case atStart=>exact⟨[],by simp,rfl,⟨HO.out,Ei.nil,Bj.nil⟩,HB.out⟩
 case round=>
  obtain⟨us,hk,rfl,hH,hbel⟩:=hrel
  by_cases hlt:us.length<16
  ·have hlv:us.length<vs.length:=by rw[Hvl.out];exact hlt
   have ed:vs.drop us.length=vs.getD us.length (.bool false)::vs.drop (us.length+1):=by
    rw[List.drop_eq_getElem_cons hlv]
    congr 1
    simp[hlv]
   rw[ed] at hH;have hlen:(us++vs.getD us.length (.bool false)::vs.drop (us.length+1)).length=16:=by have:=Hvl.out;simp only[List.length_append,List.length_cons,List.length_drop];omega
   have hH1:=hH.1;rw[←hlen] at hH1;have D:=AC.cellsAt D8 hH1 (k:=us.length) (x:=vs.getD us.length (.bool false)) (by simp) 0 _ rfl;rw[Nat.mul_one,Nat.add_zero] at D;have C:=CI.out _ hlt wr hbel;have hr:m[us.length]? =some (AK m us.length):=by unfold AK;exact Ba (by rw[Hml.out];exact hlt)
   have HH:=AA hH;have HR:=AA hr;have CH:=AA C;have Hlen:=AA hlen;have hfz:=World.ownsRow.frozenAt hH1 us.length;have c12:(16:Int)≤cap:=by omega
   clear hH hH1 hr C ed hlen;generalize hu0:vs.getD us.length (.bool false)=u0 at*;obtain⟨a0,n0,c0,rfl⟩:∃a n c,u0= .slice a n c:=by have:=SH.out _ hlt;rwa [hu0] at this
   go_wp2_with fail;refine(CH.out).mono ?_;rintro e w2 ⟨u,rfl,hu,hb2⟩;have D2:=(hb2.cell (p:=⟨g,us.length,none⟩) (World.block_lt_of_cell? wr _ D)).trans D;have hfz2:=(hb2.frozen (p:=⟨g,us.length,none⟩) (World.block_lt_of_cell? wr _ D)).trans hfz;have ST:=AA (EW.step HH.out Hlen.out.symm hb2 hbel.size hu HR.out);have HB2:=AA (AN (hbel.trans (hb2.mono hbel.size)) ST.out.2 q1 (Nat.le_trans hbel.size hb2.size));obtain⟨a9,c9,rfl,_⟩:=hu.rd.open;clear D hfz hu hb2 hbel;go_wp2_with fail;go_roundw
   case rel=>refine⟨us++[.slice a9 (AK m us.length).length c9],by rw[List.length_append,List.length_singleton];omega,by rw[List.length_append,List.length_singleton];go_num,?_,HB2.out⟩;rw[List.length_append,List.length_singleton];exact ST.out.1
   case measure=>simp[intOf];omega
  ·have e12:us.length=16:=by omega
   rw[List.drop_eq_nil_of_le (by rw[e12,Hvl.out];exact Nat.le_refl _)] at hH;have R:=AA (hH.whole (by rw[e12,Hml.out]));clear hH;go_wp2_with fail;go_ret;exact⟨_,us,rfl,R.out,hbel⟩
theorem IP.shapes {lo:Nat} {w:World} {m i e c s l q:Value} {P:BU} (h:IP lo w m i e c s l q P):((∃a n q,m= .slice a n q)∧(∃a n q,i= .slice a n q)∧(∃a n q,e= .slice a n q)∧∃a n q,c= .slice a n q)∧(∃a n q,s= .slice a n q)∧(∃a n q,l= .slice a n q)∧∃a n r,q= .slice a n r:=by obtain⟨h1,⟨_,h2⟩,h3,h4,_⟩:=h;obtain⟨_,_,rfl,_,_⟩:=h2.1.rd.shape;obtain⟨_,_,rfl,_,_⟩:=h3.rd.open;obtain⟨_,_,rfl,_,_⟩:=h4.rd.shape;exact⟨h1.shapes,⟨_,_,_,rfl⟩,⟨_,_,_,rfl⟩,⟨_,_,_,rfl⟩⟩
theorem UU {P:BU} (h:KF P):P.swap.length=16∧∀k,k<16→(AK P.swap k).length≤4:=by
 refine⟨h.swapl,fun k hk=>?_⟩
 rcases h.swapr k hk with e|e
 ·rw[e];exact Nat.zero_le _
 ·have:=(BZ.1 e).1;omega
section
variable {w:World} {g t:Nat} {a0 a1 a2 a3 a4 a5 a6 a7 a8 b0 b1 b2 b3 b4 b5 b6 b7 b8:Value}
def Lf (w:World) (g:Nat) (b0 b1 b2 b3 b4 b5 b6:Value):World:=((((((w.setCell ⟨g,0,none⟩ b0).setCell ⟨g,1,none⟩ b1).setCell ⟨g,2,none⟩ b2).setCell ⟨g,3,none⟩ b3).setCell ⟨g,4,none⟩ b4).setCell ⟨g,5,none⟩ b5).setCell ⟨g,6,none⟩ b6
theorem Uc (h:w.heap[g]? =some (.cells #[a0,a1,a2,a3,a4,a5,a6,a7,a8] t (0,0))):(((w.setCell ⟨g,4,none⟩ b4).setCell ⟨g,5,none⟩ b5).setCell ⟨g,6,none⟩ b6).heap[g]? =some (.cells #[a0,a1,a2,a3,b4,b5,b6,a7,a8] t (0,0)):=by have h4:=heap_setCell_same _ g 4 _ t b4 h;have h5:=heap_setCell_same _ g 5 _ t b5 h4;have h6:=heap_setCell_same _ g 6 _ t b6 h5;simpa using h6
theorem Rt:w.grownBy (((w.setCell ⟨g,4,none⟩ b4).setCell ⟨g,5,none⟩ b5).setCell ⟨g,6,none⟩ b6) (some g):=AZ (AZ (Aj _ _ _ _) _ _) _ _
theorem Ud (h:w.heap[g]? =some (.cells #[a0,a1,a2,a3,a4,a5,a6,a7,a8] t (0,0))):(Lf w g b0 b1 b2 b3 b4 b5 b6).heap[g]? =some (.cells #[b0,b1,b2,b3,b4,b5,b6,a7,a8] t (0,0)):=by have h0:=heap_setCell_same w g 0 _ t b0 h;have h1:=heap_setCell_same _ g 1 _ t b1 h0;have h2:=heap_setCell_same _ g 2 _ t b2 h1;have h3:=heap_setCell_same _ g 3 _ t b3 h2;have h4:=heap_setCell_same _ g 4 _ t b4 h3;have h5:=heap_setCell_same _ g 5 _ t b5 h4;have h6:=heap_setCell_same _ g 6 _ t b6 h5;unfold Lf;simpa using h6
theorem Rv:w.grownBy (Lf w g b0 b1 b2 b3 b4 b5 b6) (some g):=by unfold Lf;exact AZ (AZ (AZ (AZ (AZ (AZ (Aj _ _ _ _) _ _) _ _) _ _) _ _) _ _) _ _
theorem JF (h:w.heap[g]? =some (.cells #[a0,a1,a2,a3,a4,a5,a6,a7,a8] t (0,0))):(((Lf w g b0 b1 b2 b3 b4 b5 b6).setCell ⟨g,7,none⟩ b7).setCell ⟨g,8,none⟩ b8).heap[g]? =some (.cells #[b0,b1,b2,b3,b4,b5,b6,b7,b8] t (0,0)):=by have h7:=heap_setCell_same _ g 7 _ t b7 (Ud (b0:=b0) (b1:=b1) (b2:=b2) (b3:=b3) (b4:=b4) (b5:=b5) (b6:=b6) h);have h8:=heap_setCell_same _ g 8 _ t b8 h7;simpa using h8
theorem Gw:w.grownBy (((Lf w g b0 b1 b2 b3 b4 b5 b6).setCell ⟨g,7,none⟩ b7).setCell ⟨g,8,none⟩ b8) (some g):=AZ (AZ Rv _ _) _ _
end
def Cu (m i e c s l q:Value) (h n:Int):Value:= .agg #[m,i,e,c,s,l,q, .int .i64 h, .int .i64 n]
def Ux (w:World) (P:BU) (r:Ending) (w':World):Prop:=∃m i e c s l q,r= .returned (Cu m i e c s l q P.hand P.limit)∧IP w.heap.size w' m i e c s l q P∧Below w.heap.size w w'
theorem Sl {lo:Nat} {v m i e c s:Value} {w w':World} {k:AH} {vs:List Value} {xss:List (List Int)} (h:IN lo v w k) (E:v= .agg #[m,i,e,c]) (o:AV w.heap.size w' s vs xss):Ey m s:=by obtain⟨m1,i1,e1,c1,rfl,⟨us,h1⟩,_⟩:=h;simp only[Value.agg.injEq,Array.mk.injEq,List.cons.injEq,and_true] at E;obtain⟨rfl,_⟩:=E;intro b hb hb';have:=(World.ownsRow.lt h1.1 b hb).2;have:=(World.ownsRow.lt o.1 b hb').1;omega
theorem UW (mv iv ev cv sv lv qv:Value) (P:BU) (w:World) (h:Pg w mv iv ev cv sv lv qv P) (hP:KF P):
 Calls prog 18 #[Cu mv iv ev cv sv lv qv P.hand P.limit] w (Ux w P):=by
 unfold Cu;obtain⟨B0,B1,hb0,hs0⟩:=R0 w (.cells #[mv,iv,ev,cv,sv,lv,qv, .int .i64 P.hand, .int .i64 P.limit] 31) (.cells #[.slice none 0 0, .slice none 0 0, .slice none 0 0, .slice none 0 0, .slice none 0 0, .slice none 0 0, .slice none 0 0, .int .i64 0, .int .i64 0] 31);have h':=h.below hb0;have hsw:=UU hP;go_in;go_wp2_with fail;generalize(w.alloc _).alloc _=W0 at*;have C1:=AA (fun W (hW:Below W0.heap.size W0 W)=>PI mv iv ev cv P.kern W (h'.1.below hW) hP.k);have C2:=AA (fun W (hW:Below W0.heap.size W0 W)=>Mi sv P.swap W (h'.2.1.below hW) hsw.1 hsw.2);have C3:=AA (fun W (hW:Below W0.heap.size W0 W)=>HZ lv P.low W (h'.2.2.1.below hW) (by rw[hP.lowl];omega));have C4:=AA (fun W (hW:Below W0.heap.size W0 W)=>M8 qv P.pages W (A6.below h'.2.2.2 hW) (by rw[hP.pagel];omega));have HB0:=AA B0;have HB1:=AA B1;have Hb0:=AA hb0;obtain⟨x0,x1,x2,x3,x4,x5,x6,x7,x8⟩:=Ad B0;have hl0:w.heap.size<W0.heap.size:=by omega
 clear h h' hsw B0 B1 hb0 x7 x8 hP;refine M6 13 mixed (by kernel_rfl) 20 rfl (by kernel_rfl) 2 5 (by kernel_rfl) (by decide) (by decide) (fun V1 V2=>∀m i e c,V1= .agg #[m,i,e,c]→Ey m V2) (fun ix vv ww=>match ix with
  |0=>vv= .pointer (some ⟨w.heap.size,0,none⟩)
  |1=>vv= .agg #[mv,iv,ev,cv]
  |2=>IN W0.heap.size vv ww P.kern
  |3=>vv= .pointer (some ⟨w.heap.size,4,none⟩)
  |4=>vv=sv
  |5=>∃vs',AV W0.heap.size ww vv vs' P.swap
  |6=>vv= .pointer (some ⟨w.heap.size,5,none⟩)
  |7=>vv=lv
  |8=>AE W0.heap.size ww vv P.low
  |9=>vv= .pointer (some ⟨w.heap.size,6,none⟩)
  |10=>vv=qv
  |11=>AC W0.heap.size 73 3 CQ ww vv P.pages
  |12=>vv= .pointer (some ⟨w.heap.size,0,none⟩)
  |_=>True) ?_ ?_ ?_ ?_
 ·intro i hi vv wz ww' hbz hz
  match i,hi with
  |0,_|1,_=>exact hz
  |2,_=>exact(IN.below hz hbz)
  |3,_|4,_=>exact hz
  |5,_=>exact(by obtain⟨vs',h'⟩:=hz;exact⟨vs',h'.below hbz⟩)
  |6,_|7,_=>exact hz
  |8,_=>exact(AE.below hz hbz)
  |9,_|10,_=>exact hz
  |11,_=>exact(AC.below hz hbz)
  |12,_=>exact hz
 ·intro i hi his o ho a wx Hb Hd hG K HK
  match i,hi,his with
  |0,_,_=>exact dF ho rfl (gn rfl) HK rfl UC (eb (SA Hb 1)) rfl
  |1,_,_=>exact dL ho rfl (gn rfl) HK rfl (et (Bx Hd 0)) (MY (bc hG hl0 x0) (bc hG hl0 x1) (bc hG hl0 x2) (bc hG hl0 x3)) rfl
  |2,_,_=>obtain rfl:=So_ ho;have d1:(a.tmps[4]?.getD undef)= .agg #[mv,iv,ev,cv]:=Bx Hd 1;clear Hd Hb;refine Aa.of rfl ?_;go_simp;refine(C1.out _ hG).mono ?_;rintro r w_ ⟨m',i',e',c',rfl,hO,hb2⟩;exact HK.out _ _ ⟨m',i',e',c',rfl,hO.lower hG.size⟩ hb2
  |3,_,_=>exact dF ho rfl (gn rfl) HK rfl VX (eb (SA Hb 1)) rfl
  |4,_,_=>exact dL ho rfl (gn rfl) HK rfl (et (Bx Hd 3)) (Ff (bc hG hl0 x4)) rfl
  |5,_,hs=>exact absurd rfl hs
  |6,_,_=>exact dF ho rfl (gn rfl) HK rfl VY (eb (SA Hb 1)) rfl
  |7,_,_=>exact dL ho rfl (gn rfl) HK rfl (et (Bx Hd 6)) (Ra (bc hG hl0 x5)) rfl
  |8,_,_=>obtain rfl:=So_ ho;have d7:(a.tmps[10]?.getD undef)=lv:=Bx Hd 7;clear Hd Hb;refine Aa.of rfl ?_;go_simp;refine(C3.out _ hG).mono ?_;rintro e w_ ⟨v',rfl,hO,hb2⟩;exact HK.out _ _ (Bd hO hG.size) hb2
  |9,_,_=>exact dF ho rfl (gn rfl) HK rfl VZ (eb (SA Hb 1)) rfl
  |10,_,_=>exact dL ho rfl (gn rfl) HK rfl (et (Bx Hd 9)) (Vy (bc hG hl0 x6)) rfl
  |11,_,_=>obtain rfl:=So_ ho;have d10:(a.tmps[13]?.getD undef)=qv:=Bx Hd 10;clear Hd Hb;refine Aa.of rfl ?_;go_simp;refine(C4.out _ hG).mono ?_;rintro e w_ ⟨v',rfl,hO,hb2⟩;exact HK.out _ _ (hO.lower hG.size) hb2
  |12,_,_=>exact dF ho rfl (gn rfl) HK rfl UC (eb (SA Hb 1)) rfl
 ·intro o ho a wx Hb Hd hG K HK
  obtain rfl:=So_ ho;have d4:(a.tmps[7]?.getD undef)=sv:=Bx Hd 4;have d2:IN W0.heap.size (a.tmps[5]?.getD undef) wx P.kern:=Bx Hd 2;clear Hd Hb;refine Aa.of rfl ?_;go_simp;refine(C2.out _ hG).mono ?_;rintro e w_ ⟨v',vs',rfl,hO,hb2⟩;exact HK.out _ _ ⟨vs',hO.lower hG.size⟩ (fun m i e c E=>Sl d2 E hO) hb2
 ·intro vs wx hR hP hG
  have q2:IN W0.heap.size (vs 2) wx P.kern:=BT hR 2;have q5:∃vs',AV W0.heap.size wx (vs 5) vs' P.swap:=BT hR 5
  have q8:AE W0.heap.size wx (vs 8) P.low:=BT hR 8;have q11:AC W0.heap.size 73 3 CQ wx (vs 11) P.pages:=BT hR 11;have q12:(vs 12)= .pointer (some ⟨w.heap.size,0,none⟩):=BT hR 12;clear hR;simp only[Ai,AQ,List.range,List.range.loop,List.foldl_cons,List.foldl_nil,q12];simp;generalize vs 2=z2 at q2 hP ⊢;generalize vs 5=z5 at q5 hP ⊢;generalize vs 8=z8 at q8 ⊢;generalize vs 11=z11 at q11 ⊢;clear q12;obtain⟨m',i',e',c',rfl,k1⟩:=q2;obtain⟨vs',k2⟩:=q5;have hap:Ey m' z5:=hP _ _ _ _ rfl;have O:=(⟨k1,⟨vs',k2⟩,q8,q11,hap⟩:IP W0.heap.size wx m' i' e' c' z5 z8 z11 P);obtain⟨⟨⟨ma,mn,mc,rfl⟩,⟨ia,iN,ic,rfl⟩,⟨ea,en,ec,rfl⟩,⟨qa,qn,qc,rfl⟩⟩,⟨sa,sn,sc,rfl⟩,⟨la,ln,lc,rfl⟩,⟨pa,pn,pc,rfl⟩⟩:=O.shapes;have B0:=(hG.block _ hl0).trans HB0.out;have B1:=(hG.block (w.heap.size+1) (by omega)).trans HB1.out;obtain⟨x0',x1',x2',x3',x4',x5',x6',x7',x8'⟩:=Ad B0;have f0:=AI B0;go_step;go_simp;have gr1:=BJ wx w.heap.size (.slice ma mn mc) (.slice ia iN ic) (.slice ea en ec) (.slice qa qn qc);have B0a:=MF (m':= .slice ma mn mc) (i':= .slice ia iN ic) (e':= .slice ea en ec) (c':= .slice qa qn qc) B0;have O1:=O.far gr1 B0 (by decide) (by decide) (by decide) (by decide) (by decide) (by decide) (by decide);have B1a:=(gr1.block (w.heap.size+1) (by have:=hG.size;omega) (by intro e;have:=So_ e;omega)).trans B1;have bw:=AN (Hb0.out.trans (hG.mono Hb0.out.size)) gr1 (Nat.le_refl _) (Nat.le_trans Hb0.out.size hG.size);clear O gr1 B0 B1 hG f0 x0' x1' x2' x3' x4' x5' x6' x7' x8' k1 k2 q8 q11 hP hap x0 x1 x2 x3 x4 x5 x6;generalize(((wx.setCell _ _).setCell _ _).setCell _ _).setCell _ _=W1 at*;obtain⟨_,_,_,_,c4,c5,c6,_⟩:=Ad B0a;have f4:=AI B0a;have S2:=Uc (b4:= .slice sa sn sc) (b5:= .slice la ln lc) (b6:= .slice pa pn pc) B0a;have gr2:=Rt (w:=W1) (g:=w.heap.size) (b4:= .slice sa sn sc) (b5:= .slice la ln lc) (b6:= .slice pa pn pc);have O2:=O1.far gr2 B0a (by decide) (by decide) (by decide) (by decide) (by decide) (by decide) (by decide);have B1b:=(gr2.block (w.heap.size+1) (Aq B1a) (by intro e;have:=So_ e;omega)).trans B1a;have bw2:=AN bw gr2 (Nat.le_refl _) bw.size;obtain⟨y0,y1,y2,y3,y4,y5,y6,y7,y8⟩:=Ad S2;obtain⟨u0,u1,u2,u3,u4,u5,u6,u7,u8⟩:=Ad B1b;have f1:=AI B1b;have HO2:=AA O2;have HB1b:=AA B1b;have Hbw2:=AA bw2;clear O1 B0a B1a bw gr2 S2 O2 B1b bw2;go_wp2_with fail;clear y0 y1 y2 y3 y4 y5 y6 y7 y8 u0 u1 u2 u3 u4 u5 u6 u7 u8 f1 c4 c5 c6 f4;generalize((W1.setCell _ _).setCell _ _).setCell _ _=W2 at*;have gr3:=Gw (w:=W2) (g:=w.heap.size+1) (b0:= .slice ma mn mc) (b1:= .slice ia iN ic) (b2:= .slice ea en ec) (b3:= .slice qa qn qc) (b4:= .slice sa sn sc) (b5:= .slice la ln lc) (b6:= .slice pa pn pc) (b7:= .int .i64 P.hand) (b8:= .int .i64 P.limit);have N3:=JF (b0:= .slice ma mn mc) (b1:= .slice ia iN ic) (b2:= .slice ea en ec) (b3:= .slice qa qn qc) (b4:= .slice sa sn sc) (b5:= .slice la ln lc) (b6:= .slice pa pn pc) (b7:= .int .i64 P.hand) (b8:= .int .i64 P.limit) HB1b.out
  have O3:=(HO2.out.far gr3 HB1b.out (by decide) (by decide) (by decide) (by decide) (by decide) (by decide) (by decide)).lower Hb0.out.size;have B3:=AN Hbw2.out gr3 (by omega) Hbw2.out.size;unfold Lf at gr3 N3 O3 B3;obtain⟨E0,E1,E2,E3,E4,E5,E6,E7,E8⟩:=Ad N3;exact bodyPost_ret (v:= .agg #[_,_,_,_,_,_,_,_,_]) (by simp[results,Tryz.results18,go_sem,E0,E1,E2,E3,E4,E5,E6,E7,E8]) rfl ⟨_,_,_,_,_,_,_,rfl,O3,B3⟩
def FE (k:Int) (K:AH):Int:=k+EC 0 (CL K.mem)+3*K.infos.length+EC 1 (DC K.envs)+4*K.cache.length
def Mc (k:Int) (P:BU):BU:=⟨Ik k P.kern,FL (FE k P.kern) (CL P.swap),ID (FE k P.kern+EC 0 (CL P.swap)) P.low.length,Ev Gs 3 (FE k P.kern+EC 0 (CL P.swap)+P.low.length) P.pages.length,P.hand,P.limit⟩
structure Vv (P:BU):Prop where
 ker:Vu P.kern
 swp:P.swap.length≤1000
 row:∀x∈P.swap,x.length≤1000
 low:P.low.length≤1000
 pgs:P.pages.length≤1000
structure KC (lo:Nat) (w:World) (m i e c s l q:Value) (vs us:List Value) (ps:List (Value×Int)) (P:BU):Prop where
 mem:AV lo w m vs P.kern.mem
 inf:AC lo 91 3 AX w i P.kern.infos
 env:A2 lo w e ps P.kern.envs
 cac:AC lo 95 4 AJ w c P.kern.cache
 swp:AC lo 28 1 Dz w s us
 swe:us.length=P.swap.length∧(∀u∈us,∃a c,u= .slice a 0 c∧c≤maxLen∧(a=none→c=0))∧∀x∈P.swap,x=[]
 low:AE lo w l P.low
 pgs:AC lo 73 3 CQ w q P.pages
 a2:∀b,l.ownBlock=some b→¬Ut vs b
section
variable {lo:Nat} {w w':World} {m i e c s l q:Value} {vs us:List Value} {ps:List (Value×Int)} {P:BU} {S:Nat→Prop} {ts:Nat→Prop}
theorem KC.below (h:KC lo w m i e c s l q vs us ps P) (hb:Below w.heap.size w w'):KC lo w' m i e c s l q vs us ps P:=⟨h.mem.below hb,AC.below h.inf hb,h.env.below hb,AC.below h.cac hb,AC.below h.swp hb,h.swe,h.low.below hb,AC.below h.pgs hb,h.a2⟩
theorem KC.tyK (h:KC lo w m i e c s l q vs us ps P):Up w (fun t=>t=3∨t=91∨t=62∨t=9∨t=95) (Tn i e c vs (ps.map (·.1))):=by
 rintro b (hb|hb|hb|hb)
 ·obtain⟨cur,t,rfl,h1⟩:=h.mem.tyV b hb;exact⟨cur,_, .inl rfl,h1⟩
 ·obtain⟨cur,t,rfl,h1⟩:=Vg h.inf b hb;exact⟨cur,_, .inr (.inl rfl),h1⟩
 ·obtain⟨cur,t,h2,h1⟩:=h.env.tyE b hb
  exact⟨cur,t,by rcases h2 with rfl|rfl;(· exact .inr (.inr (.inl rfl)));(· exact .inr (.inr (.inr (.inl rfl)))),h1⟩
 ·obtain⟨cur,t,rfl,h1⟩:=Vg h.cac b hb;exact⟨cur,_, .inr (.inr (.inr (.inr rfl))),h1⟩
theorem KC.notK {lo':Nat} {u:Value} {xs:List Int} (h:KC lo w m i e c s l q vs us ps P) (ho:AE lo' w u xs) (hn:∀b,u.ownBlock=some b→¬Ut vs b):∀b,u.ownBlock=some b→¬Tn i e c vs (ps.map (·.1)) b:=by
 intro b hb hx;obtain⟨cur,h0⟩:=A8 ho b hb;have no:∀t cur',t≠3→w.heap[b]? =some (.cells cur' t (0,0))→False:=fun t cur' ht h1=>by rw[h0] at h1;simp at h1;exact ht h1.2.symm
 rcases hx with hx|hx|hx|hx
 ·exact hn b hb hx
 ·obtain⟨cur',t,rfl,h1⟩:=Vg h.inf b hx;exact no _ _ (by decide) h1
 ·obtain⟨cur',t,h2,h1⟩:=h.env.tyE b hx
  exact no t _ (by rcases h2 with rfl|rfl<;>decide) h1
 ·obtain⟨cur',t,rfl,h1⟩:=Vg h.cac b hx;exact no _ _ (by decide) h1
theorem AV.chgN {v:Value} {xss:List (List Int)} (h:AV lo w v us xss) (hc:H6 S w w') (h1:∀b,v.ownBlock=some b→¬S b) (h2:∀b,Ut us b→¬S b):AV lo w' v us xss:=
 ⟨hc.own h.1 h1,⟨h.2.1.1,fun j u x hu hx=>hc.own (h.2.1.2 j u x hu hx) fun b hb=>h2 b ⟨u,List.mem_of_getElem? hu,hb⟩⟩,h.2.2⟩
theorem Vq {t sz n:Nat} {lo':Nat} {v:Value} {xs:List Value} (hS:Up w ts S) (ho:w.ownsRow lo' t sz v n xs) (ht:¬ts t):∀b,v.ownBlock=some b→¬S b:=fun b hb hs=>by obtain⟨cur,h1⟩:=A8 ho b hb;obtain⟨cur',t',h2,h3⟩:=hS b hs;rw[h1] at h3;simp at h3;exact ht (h3.2▸h2)
end
theorem Below.low {lo B:Nat} {w w':World} (h:Below B w w') (hl:lo≤B):Below lo w w':=⟨h.os,h.tape,h.output,h.size,fun b hb=>h.block b (Nat.lt_of_lt_of_le hb hl)⟩
theorem Uk {xss:List (List Int)} (h:∀x∈xss,x=[]):EC 0 (CL xss)=0:=by
 induction xss with
 |nil=>rfl
 |cons x xss ih=>
  have h1:=h x (List.mem_cons_self ..);subst h1;have:=ih fun y hy=>h y (List.mem_cons_of_mem _ hy)
  simp only[CL,List.map_cons,EC] at this ⊢;simp[this]
theorem Rc {xss:List (List Int)} (h:∀x∈xss,x=[]) (k:Int):∀x∈FL k (CL xss),x=[]:=by
 induction xss generalizing k with
 |nil=>intro x hx;cases hx
 |cons y xss ih=>
  intro x hx;have h1:=h y (List.mem_cons_self ..);subst h1;simp only[CL,List.map_cons,FL,List.length_nil,List.mem_cons] at hx
  rcases hx with rfl|hx
  ·rfl
  ·exact ih (fun y hy=>h y (List.mem_cons_of_mem _ hy)) _ x hx
theorem Tb {w:World} {us:List Value} {xss:List (List Int)} {k:Int} (h:us.length=xss.length∧(∀u∈us,∃a c,u= .slice a 0 c∧c≤maxLen∧(a=none→c=0))∧∀x∈xss,x=[]):Ei (Ap w) us (FL k (CL xss)):=by
 refine⟨by rw[JS];simpa[CL] using h.1,fun i u x hu hx=>?_⟩;obtain⟨a,c,rfl,hc⟩:=h.2.1 u (List.mem_of_getElem? hu);obtain rfl:=Rc h.2.2 k x (List.mem_of_getElem? hx);exact⟨a,c,rfl,Nat.zero_le _,hc.1,rfl,hc.2,fun h=>absurd h (Nat.lt_irrefl _)⟩
theorem NM (a:Option Addr) (c:Nat) (k:Int) (w:World):Calls prog 25 #[.slice a 0 c, .int .i64 k] w fun e w'=>e= .returned (.int .i64 k)∧w=w':=by go_in;go_wp2_with fail;refine wp_loop_rounds 1 ?_;rw[rounds_succ];go_wp2_with fail;go_ret;exact⟨rfl,rfl⟩
theorem Md (lo:Nat) (v:Value) (us:List Value) (k:Int) (w:World) (h:AC lo 28 1 Dz w v us) (hu:∀u∈us,∃a c,u= .slice a 0 c∧c≤maxLen∧(a=none→c=0)) (hs:us.length≤1000) (hk0:0≤k) (hk1:k≤900000):
 Calls prog 24 #[v, .int .i64 k] w fun e w'=>e= .returned (.int .i64 k)∧Below w.heap.size w w':=by
 obtain⟨a,c,rfl,hc,hcm,H⟩:=A6.open D8 (by decide) h.rd;unfold maxLen at hcm;have HH:=AA H;have Hu:=AA hu;generalize hn:us.length=n at*;have Hn:=AA hn;clear h H hu hn;go_in;go_wp2_with fail;go_loopw [1,5] (fun m i wr=>∃q:Nat,q≤n∧i= .int .i64 q∧m= .int .i64 k∧Below w.heap.size w wr) (fun _ i _=>n - (intOf i).toNat)
 case atStart=>exact⟨0,Nat.zero_le _,rfl,rfl,Below.refl _ _⟩
 case round=>
  obtain⟨q,hq,rfl,rfl,hb⟩:=hrel
  by_cases hlt:q<n
  ·have hqv:q<us.length:=by rw[Hn.out];exact hlt
   have hqi:(q:Int)<n:=by omega
   obtain⟨u,hu⟩:∃u,us[q]? =some u:=⟨_,List.getElem?_eq_getElem hqv⟩
   obtain⟨ua,uc,rfl,_⟩:=Hu.out u (List.mem_of_getElem? hu);obtain⟨b,off,rfl,hbl,HC⟩:=HH.out q _ hu;have D:wr.cell? ⟨b,off+q,none⟩=some (.slice ua 0 uc):=(hb.cell (p:=⟨b,off+q,none⟩) hbl).trans (by simpa using HC 0 _ rfl);have Hb:=AA hb;clear HC hu hb;go_wp2_with fail;refine(NM ua uc k wr).mono ?_;rintro e w1 ⟨rfl,rfl⟩;go_wp2_with fail;go_roundw
   case rel=>exact⟨q+1,by omega,by go_num,rfl,Hb.out⟩
   case measure=>simp[intOf];omega
  ·obtain rfl:q=n:=by omega
   go_wp2_with fail;go_ret;exact⟨rfl,hb⟩
theorem NQ (lo:Nat) (m i e c s l q:Value) (vs us:List Value) (ps:List (Value×Int)) (P:BU) (k:Int) (w:World) (h:KC lo w m i e c s l q vs us ps P) (hz:Vv P) (hk0:0≤k) (hk1:FE k P.kern+EC 0 (CL P.swap)+P.low.length+3*P.pages.length≤900000) (hlo:lo≤w.heap.size):
 Calls prog 7 #[Cu m i e c s l q P.hand P.limit, .int .i64 k] w fun r w'=>r= .returned (.int .i64 (FE k P.kern+EC 0 (CL P.swap)+P.low.length+3*P.pages.length))∧Pg w' m i e c s l q (Mc k P)∧Below lo w w'∧∀(b:Nat) (cu:Array Value),w.heap[b]? =some (Obj.cells cu 31 (0,0))→w'.heap[b]? =some (Obj.cells cu 31 (0,0)):=by
 unfold Cu;have hb0:=AF w (.cells #[m,i,e,c,s,l,q, .int .i64 P.hand, .int .i64 P.limit] 31);have N0:=heap_alloc_new w (.cells #[m,i,e,c,s,l,q, .int .i64 P.hand, .int .i64 P.limit] 31);have h0:=h.below hb0;have t1:=Bt 0 (CL P.swap);have t2:k≤FE k P.kern:=by have:=Bt 0 (CL P.kern.mem);have:=Bt 1 (DC P.kern.envs);unfold FE;omega
 have hkc:k+NF P.kern≤900000:=by
  have e:k+NF P.kern=FE k P.kern:=by unfold NF FE;omega
  omega
 go_in;go_wp2_with fail;generalize w.alloc _=W0 at*;have HF:=AA h0;have HN:=AA N0;have Hb:=AA hb0;have Hz:=AA hz;have Hlo:=AA (Nat.le_trans hlo hb0.size);have Hl0:=AA hlo;obtain⟨x0,x1,x2,x3,x4,x5,x6,x7,x8⟩:=Ad N0;have C1:=Me lo m i e c vs ps P.kern k W0 h0.mem h0.inf h0.env h0.cac hz.ker hk0 hkc;clear h h0 hb0 N0 hz;refine C1.mono ?_;rintro r w1 ⟨rfl,⟨M1,I1,⟨ps',E1⟩,K1⟩,c1⟩;have TK:=HF.out.tyK;have S1:AC lo 28 1 Dz w1 s us:=c1.ownT TK HF.out.swp (by decide);have L1:AE lo w1 l P.low:=c1.own HF.out.low (HF.out.notK HF.out.low HF.out.a2);have Q1:AC lo 73 3 CQ w1 q P.pages:=c1.ownT TK HF.out.pgs (by decide);have N1:∀(b:Nat) (cu:Array Value),W0.heap[b]? =some (Obj.cells cu 31 (0,0))→w1.heap[b]? =some (Obj.cells cu 31 (0,0)):=fun b cu hB=>c1.blkT TK hB (by decide)
 have B1:=c1.below (lo:=lo) (fun b hb=>by
  rcases hb with⟨u,hu,hb⟩|hb|(hb|⟨u,hu,hb⟩)|hb
  ·obtain⟨j,hj,hx⟩:=List.getElem_of_mem hu
   exact(World.ownsRow.lt (HF.out.mem.2.1.2 j u _ (by rw[List.getElem?_eq_getElem hj,hx]) (List.getElem?_eq_getElem (by rw[←HF.out.mem.2.1.1];exact hj))) b hb).1
  ·exact(World.ownsRow.lt HF.out.inf b hb).1
  ·exact(World.ownsRow.lt HF.out.env.1 b hb).1
  ·obtain⟨p,hp,rfl⟩:=List.mem_map.1 hu
   obtain⟨j,hj,hx⟩:=List.getElem_of_mem hp;exact(World.ownsRow.lt (HF.out.env.2.1.2 j p _ (by rw[List.getElem?_eq_getElem hj,hx]) (List.getElem?_eq_getElem (by rw[←HF.out.env.2.1.1];exact hj))).1 b hb).1
  ·exact(World.ownsRow.lt HF.out.cac b hb).1) Hlo.out
 have H1:=AA (And.intro M1 (And.intro I1 (And.intro E1 (And.intro K1 (And.intro S1 (And.intro L1 (And.intro Q1 (And.intro N1 B1))))))));clear M1 I1 E1 K1 S1 L1 Q1 B1 TK c1 C1 x0 x1 x2 x3 x4 x5 x6 x7 x8;obtain⟨x0,x1,x2,x3,x4,x5,x6,x7,x8⟩:=Ad (N1 _ _ HN.out);clear N1;have hz2:EC 0 (CL P.swap)=0:=Uk HF.out.swe.2.2;have C2:=Md lo s us (FE k P.kern) w1 H1.out.2.2.2.2.1 HF.out.swe.2.1 (by rw[HF.out.swe.1];exact Hz.out.swp) (by omega) (by omega)
 change Calls _ _ #[s, .int .i64 (k+EC 0 (CL P.kern.mem)+3*P.kern.infos.length+EC 1 (DC P.kern.envs)+4*P.kern.cache.length)] _ _ at C2
 go_wp2_with fail;refine C2.mono ?_;rintro r w2 ⟨rfl,b2⟩;have N2:∀(b:Nat) (cu:Array Value),W0.heap[b]? =some (Obj.cells cu 31 (0,0))→w2.heap[b]? =some (Obj.cells cu 31 (0,0)):=fun b cu hB=>AG (H1.out.2.2.2.2.2.2.2.1 b cu hB) b2
 have M2:=H1.out.1.below b2;have I2:=AC.below H1.out.2.1 b2;have E2:=H1.out.2.2.1.below b2;have K2:=AC.below H1.out.2.2.2.1 b2;have S2:=AC.below H1.out.2.2.2.2.1 b2;have L2:=H1.out.2.2.2.2.2.1.below b2;have Q2:=AC.below H1.out.2.2.2.2.2.2.1 b2;have B2:=H1.out.2.2.2.2.2.2.2.2.trans (Below.low b2 (Nat.le_trans Hlo.out H1.out.2.2.2.2.2.2.2.2.size));have H2:=AA (And.intro M2 (And.intro I2 (And.intro E2 (And.intro K2 (And.intro S2 (And.intro L2 (And.intro Q2 (And.intro N2 B2))))))));clear M2 I2 E2 K2 S2 L2 Q2 B2 b2 C2 x0 x1 x2 x3 x4 x5 x6 x7 x8;obtain⟨x0,x1,x2,x3,x4,x5,x6,x7,x8⟩:=Ad (N2 _ _ HN.out);clear N2;have C3:=KT lo l P.low (FE k P.kern) w2 H2.out.2.2.2.2.2.1 (Nat.le_trans Hz.out.low (by decide)) (by omega) (by omega)
 change Calls _ _ #[l, .int .i64 (k+EC 0 (CL P.kern.mem)+3*P.kern.infos.length+EC 1 (DC P.kern.envs)+4*P.kern.cache.length)] _ _ at C3
 go_wp2_with fail;refine C3.mono ?_;rintro r w3 ⟨zs,rfl,zl,zn,L3,g3⟩;have eZ:=QN zl zn;have c3:=H6.of g3;have T3:Up w2 (fun t=>t=3) (fun b=>l.ownBlock=some b):=fun b hb=>by obtain⟨cur,hc⟩:=A8 H2.out.2.2.2.2.2.1 b hb;exact⟨cur,_,rfl,hc⟩
 have M3:=H2.out.1.chgN c3 (Vq T3 H2.out.1.1 (by decide)) fun b hb h1=>HF.out.a2 b h1 hb
 have S3:AC lo 28 1 Dz w3 s us:=c3.ownT T3 H2.out.2.2.2.2.1 (by decide);have I3:AC lo 91 3 AX w3 i _:=c3.ownT T3 H2.out.2.1 (by decide);have E3:=H2.out.2.2.1.chgT c3 T3 (by decide) (by decide);have K3:AC lo 95 4 AJ w3 c _:=c3.ownT T3 H2.out.2.2.2.1 (by decide);have Q3:AC lo 73 3 CQ w3 q P.pages:=c3.ownT T3 H2.out.2.2.2.2.2.2.1 (by decide);have N3:∀(b:Nat) (cu:Array Value),W0.heap[b]? =some (Obj.cells cu 31 (0,0))→w3.heap[b]? =some (Obj.cells cu 31 (0,0)):=fun b cu hB=>c3.blkT T3 (H2.out.2.2.2.2.2.2.2.1 b cu hB) (by decide)
 have B3:=H2.out.2.2.2.2.2.2.2.2.trans (c3.below (lo:=lo) (fun b hb=>(World.ownsRow.lt H2.out.2.2.2.2.2.1 b hb).1) (Nat.le_trans Hlo.out H2.out.2.2.2.2.2.2.2.2.size));rw[eZ] at L3;have H3:=AA (And.intro M3 (And.intro I3 (And.intro E3 (And.intro K3 (And.intro S3 (And.intro L3 (And.intro Q3 (And.intro N3 B3))))))));clear M3 I3 E3 K3 S3 L3 Q3 B3 T3 c3 C3 x0 x1 x2 x3 x4 x5 x6 x7 x8 g3 zn eZ zl;obtain⟨x0,x1,x2,x3,x4,x5,x6,x7,x8⟩:=Ad (N3 _ _ HN.out);clear N3;have C4:=NP lo q P.pages (FE k P.kern+P.low.length) w3 H3.out.2.2.2.2.2.2.1 Hz.out.pgs (by omega) (by omega)
 change Calls _ _ #[q, .int .i64 (k+EC 0 (CL P.kern.mem)+3*P.kern.infos.length+EC 1 (DC P.kern.envs)+4*P.kern.cache.length+P.low.length)] _ _ at C4
 go_wp2_with fail;refine C4.mono ?_;rintro r w4 ⟨rfl,Q4,g4⟩;have c4:=H6.of g4;have T4:=Vg H3.out.2.2.2.2.2.2.1;have e9:Mc k P=⟨Ik k P.kern,FL (FE k P.kern) (CL P.swap),ID (FE k P.kern) P.low.length,Ev Gs 3 (FE k P.kern+P.low.length) P.pages.length,P.hand,P.limit⟩:=by unfold Mc;rw[hz2];simp only[Int.add_zero]
 have HR0:Pg w4 m i e c s l q ⟨Ik k P.kern,FL (FE k P.kern) (CL P.swap),ID (FE k P.kern) P.low.length,Ev Gs 3 (FE k P.kern+P.low.length) P.pages.length,P.hand,P.limit⟩∧Below lo W0 w4∧(∀(b:Nat) (cu:Array Value),W0.heap[b]? =some (Obj.cells cu 31 (0,0))→w4.heap[b]? =some (Obj.cells cu 31 (0,0))):=
  ⟨⟨⟨(H3.out.1.chgT c4 T4 (by decide) (by decide)).rd,(show AC lo 91 3 AX w4 i _ from c4.ownT T4 H3.out.2.1 (by decide)).rd,(H3.out.2.2.1.chgT c4 T4 (by decide) (by decide)).rd,(show AC lo 95 4 AJ w4 c _ from c4.ownT T4 H3.out.2.2.2.1 (by decide)).rd⟩,⟨us,(show AC lo 28 1 Dz w4 s us from c4.ownT T4 H3.out.2.2.2.2.1 (by decide)).rd,Tb HF.out.swe⟩,AE.rd (show AE lo w4 l _ from c4.ownT T4 H3.out.2.2.2.2.2.1 (by decide)),Q4.rd⟩,
   H3.out.2.2.2.2.2.2.2.2.trans (c4.below (lo:=lo) (fun b hb=>(World.ownsRow.lt H3.out.2.2.2.2.2.2.1 b hb).1) (Nat.le_trans Hlo.out H3.out.2.2.2.2.2.2.2.2.size)),fun b cu hB=>c4.blkT T4 (H3.out.2.2.2.2.2.2.2.1 b cu hB) (by decide)⟩
 rw[←e9] at HR0;have HR:=AA HR0;clear HR0 e9;clear C4 Q4 c4 T4 g4 x0 x1 x2 x3 x4 x5 x6 x7 x8;go_wp2_with fail;go_ret;exact⟨BQ (by rw[hz2];omega),HR.out.1,(Below.low Hb.out Hl0.out).trans HR.out.2.1,fun b cu hB=>HR.out.2.2 b cu (AG hB Hb.out)⟩
theorem NI (m i e c s l q:Value) (P:BU) (k:Int) (w:World) (h:Pg w m i e c s l q (Mc k P)) (hz:Vv P) (hk0:0≤k) (hk1:FE k P.kern+EC 0 (CL P.swap)+P.low.length+3*P.pages.length≤900000):
 Calls prog 8 #[Cu m i e c s l q P.hand P.limit, .int .i64 k] w fun r w'=>r= .returned (.int .i64 (FE k P.kern+EC 0 (CL P.swap)+P.low.length+3*P.pages.length))∧Below w.heap.size w w':=by
 unfold Cu;have b0:=AF w (.cells #[m,i,e,c,s,l,q, .int .i64 P.hand, .int .i64 P.limit] 31);have N0:=heap_alloc_new w (.cells #[m,i,e,c,s,l,q, .int .i64 P.hand, .int .i64 P.limit] 31);have h0:=h.below b0;have t1:=Bt 0 (CL P.swap);have t2:k≤FE k P.kern:=by have:=Bt 0 (CL P.kern.mem);have:=Bt 1 (DC P.kern.envs);unfold FE;omega
 have hkc:k+NF P.kern≤900000:=by
  have e:k+NF P.kern=FE k P.kern:=by unfold NF FE;omega
  omega
 go_in;go_wp2_with fail;generalize w.alloc _=W0 at*;have HH:=AA h0;have HN:=AA N0;have HB0:=AA b0;have Hz:=AA hz;obtain⟨x0,x1,x2,x3,x4,x5,x6,x7,x8⟩:=Ad N0;clear h h0 b0 N0 hz;have hb:Below W0.heap.size W0 W0:=Below.refl _ _;refine(MP m i e c P.kern k W0 HH.out.1 Hz.out.ker hk0 hkc).mono ?_;rintro r w_ ⟨rfl,hb_⟩;replace hb:=hb.trans (hb_.mono hb.size);rw[show k+EC 0 (CL P.kern.mem)+3*(P.kern.infos.length:Int)+EC 1 (DC P.kern.envs)+4*(P.kern.cache.length:Int)=FE k P.kern from rfl];clear hb_ x0 x1 x2 x3 x4 x5 x6 x7 x8;obtain⟨x0,x1,x2,x3,x4,x5,x6,x7,x8⟩:=Ad (AG HN.out hb);generalize hE:FE k P.kern=E at*;have HE:=AA hE;clear hE;have R2:=AA (show BI W0 s (FL E (CL P.swap)) from HE.out▸HH.out.2.1);have R3:=AA (show Ap W0 l (ID (E+EC 0 (CL P.swap)) P.low.length) from HE.out▸HH.out.2.2.1);have R4:=AA (show A6 3 CQ W0 q (Ev Gs 3 (E+EC 0 (CL P.swap)+P.low.length) P.pages.length) from HE.out▸HH.out.2.2.2);go_wp2_with fail;refine(Jj s (CL P.swap) E _ (R2.out.below hb) (by simpa[CL] using Hz.out.swp) (fun n hn=>by obtain⟨x,hx,rfl⟩:=List.mem_map.1 hn;exact Hz.out.row x hx) (by omega) (by omega)).mono ?_;rintro r w2 ⟨rfl,rfl⟩;go_wp2_with fail;refine(KQ l _ (E+EC 0 (CL P.swap)) _ (R3.out.below hb) (by rw[Fs];exact Nat.le_trans Hz.out.low (by decide)) (by omega) (by omega) (fun j hj=>Nk _ (by rwa [Fs] at hj))).mono ?_;rintro r w3 ⟨rfl,rfl⟩;rw[Fs];go_wp2_with fail;refine(NH q _ P.pages.length _ (A6.below R4.out hb) Hz.out.pgs (by omega) (by omega)).mono ?_;rintro r w_ ⟨rfl,hb_⟩;replace hb:=hb.trans (hb_.mono hb.size);clear hb_ x0 x1 x2 x3 x4 x5 x6 x7 x8;go_wp2_with fail;go_ret;exact⟨BQ (by rw[HE.out]),HB0.out.trans (hb.mono HB0.out.size)⟩
theorem CY (n:Int) (w:World):Calls prog 94 #[.int .i64 n] w fun e w'=>e= .returned (.bool (Bv n 0 11))∧w=w':=by go_in;go_wp2_with (go_at_call 9;refine(DH _ _ _ _).mono ?_;rintro e w' ⟨rfl,rfl⟩);go_ret;exact⟨rfl,rfl⟩
theorem IB (n:Int) (w:World):Calls prog 104 #[.int .i64 n] w fun e w'=>e= .returned (.bool (Bv n 0 2))∧w=w':=by go_in;go_wp2_with (go_at_call 9;refine(DH _ _ _ _).mono ?_;rintro e w' ⟨rfl,rfl⟩);go_ret;exact⟨rfl,rfl⟩
theorem FT (n:Int) (w:World):Calls prog 95 #[.int .i64 n] w fun e w'=>e= .returned (.bool (Bg n))∧w=w':=by
 by_cases h2:n=2
 ·subst h2
  go_in;go_wp2_with fail;go_ret;exact⟨rfl,rfl⟩
 ·have t2:(n==2)=false:=by simp[h2]
  have E:=AA (show Bg n=(n==3) by by_cases h3:n=3<;>simp[Bg,h2,h3]);clear h2;go_in;go_wp2_with fail;go_ret;exact⟨AP E.out.symm,rfl⟩
def DJ (x:Int):Int:=if x=0 then 0 else if BV x then 1 else 2
theorem Hh (x:Int) (w:World):Calls prog 98 #[.int .i64 x] w fun e w'=>e= .returned (.int .i64 (DJ x))∧w=w':=by
 by_cases h0:x=0
 ·subst h0
  go_in;go_wp2_with fail;go_ret;exact⟨rfl,rfl⟩
 ·have t0:(x==0)=false:=by simp[h0]
  by_cases h1:0<x
  ·by_cases h2:x%2=1
   ·have t2:(x%2==1)=true:=by simp[h2]
    by_cases h3:x<48
    ·have E:=AA (show DJ x=1 by unfold DJ;rw[if_neg h0,if_pos (by simp[BV,h1,h2,h3])])
     clear h2 h0;go_in;go_wp2_with fail;go_ret;exact⟨BQ E.out.symm,rfl⟩
    ·have E:=AA (show DJ x=2 by unfold DJ;rw[if_neg h0,if_neg (by simp[BV,h1,h2,h3])])
     clear h2 h0;go_in;go_wp2_with fail;go_ret;exact⟨BQ E.out.symm,rfl⟩
   ·have t2:(x%2==1)=false:=by simp[h2]
    have E:=AA (show DJ x=2 by unfold DJ;rw[if_neg h0,if_neg (by simp[BV,h2])]);clear h2 h0;go_in;go_wp2_with fail;go_ret;exact⟨BQ E.out.symm,rfl⟩
  ·have E:=AA (show DJ x=2 by unfold DJ;rw[if_neg h0,if_neg (by simp[BV,h1])])
   clear h0;go_in;go_wp2_with fail;go_ret;exact⟨BQ E.out.symm,rfl⟩
theorem Bz (x:Int) (w:World) (hx:x≤9223372036854775807):Calls prog 97 #[.int .i64 x] w fun e w'=>e= .returned (Oh x)∧w=w':=by
 cases hg:BV x
 ·have E:=AA (Dh hg)
  have K:(DJ x !=1)=true:=by unfold DJ;split<;>simp[hg]
  generalize hk:DJ x=k at K;have HK:=AA hk;clear hg hk;go_in;go_wp2_with (go_at_call 98;refine(Hh _ _).mono ?_;rintro e w' ⟨rfl,rfl⟩;rw[HK.out]);go_ret3;exact⟨LB E.out.symm,rfl⟩
 ·have hp:0<x∧x%2=1∧x<48:=by simpa[BV,and_assoc] using hg
  have W:IS x=(x%4==3):=by cases h:(x%4==3)<;>simp_all[IS]
  have E:=AA (show Oh x= .tuple #[.int .i64 (x/4), .bool (x%4==3), .bool true] by rw[Dd hg,Ps hg,W]);have HK:=AA (show DJ x=1 by unfold DJ;rw[if_neg (by omega),hg];rfl);have h0:0≤x:=by omega
  clear hg W hp;go_in;go_wp2_with (go_at_call 98;refine(Hh _ _).mono ?_;rintro e w' ⟨rfl,rfl⟩;rw[HK.out]);go_ret3;exact⟨LB E.out.symm,rfl⟩
theorem U2 (a b:ByteArray):((b.extract 0 a.size).toList==a.toList)=Kw a b:=by rw[Bool.eq_iff_iff,beq_iff_eq,Lib.toList_data,Lib.toList_data];unfold Kw;rw[List.isPrefixOf_iff_prefix,List.prefix_iff_eq_take];simp only[ByteArray.data_extract,Array.toList_extract,List.extract,Nat.sub_zero,List.drop_zero,Array.length_toList,ByteArray.size_data];exact eq_comm
theorem Jl (a b:ByteArray) (w:World) (ha:a.size≤maxLen) (hb:b.size≤maxLen):Calls prog 147 #[.string a, .string b] w fun e w'=>e= .returned (.bool (Kw a b))∧w=w':=by
 unfold maxLen at ha hb
 by_cases h:a.size≤b.size
 ·have h1:(a.size:Int)≤b.size:=by omega
  have E:=AA (U2 a b);go_in;go_wp2_with fail;go_ret;exact⟨AP E.out,rfl⟩
 ·have h1:¬(a.size:Int)≤b.size:=by omega
  have E:=AA (show Kw a b=false by
   cases hc:Kw a b
   ·rfl
   ·have:=(List.isPrefixOf_iff_prefix.1 hc).length_le
    simp at this;omega)
  go_in;go_wp2_with fail;go_ret;exact⟨AP E.out.symm,rfl⟩
theorem KI {α:Type} {p:α→Bool} {xs:List α} {f:Nat→α} (hf:∀k,k<xs.length→xs[k]? =some (f k)) (h:∀j,j<xs.length→p (f j)=true):xs.all p=true:=by rw[List.all_eq_true];intro x hx;obtain⟨j,hj,rfl⟩:=List.getElem_of_mem hx;have:=h j hj;have e:=hf j hj;rw[List.getElem?_eq_getElem hj] at e;rw[So_ e];exact this
theorem MC {α:Type} {p:α→Bool} {xs:List α} {x:α} {k:Nat} (hx:xs[k]? =some x) (hp:p x=false):xs.all p=false:=by rw[List.all_eq_false];exact⟨x,List.mem_of_getElem? hx,by simp[hp]⟩
theorem Ob {α:Type} {p:α→Bool} {xs:List α} {x:α} {k:Nat} (hx:xs[k]? =some x) (hp:p x=true):xs.any p=true:=List.any_eq_true.2 ⟨x,List.mem_of_getElem? hx,hp⟩
theorem KJ {α:Type} {p:α→Bool} {xs:List α} {f:Nat→α} (hf:∀k,k<xs.length→xs[k]? =some (f k)) (h:∀j,j<xs.length→p (f j)=false):xs.any p=false:=by rw[List.any_eq_false];intro x hx;obtain⟨j,hj,rfl⟩:=List.getElem_of_mem hx;have:=h j hj;have e:=hf j hj;rw[List.getElem?_eq_getElem hj] at e;rw[So_ e];simp[this]
theorem Lm {xs:List Int} {k:Nat} (h:k<xs.length):xs[k]? =some (nth xs k):=Mh h
theorem QJ (v:Value) (r:List Int) (w:World) (h:Ap w v r):Calls prog 239 #[v] w fun e w'=>e= .returned (.bool (Em r))∧Below w.heap.size w w':=by
 obtain⟨a,c,rfl,hc,hcm,H⟩:=h.open;unfold maxLen at hcm;have HH:=AA H;clear h H;go_in;go_wp2_with fail;go_loopw [3] (fun ix wr=>∃k:Nat,k≤r.length∧ix= .int .i64 k∧(∀j,j<k→Ee (nth r j)=true)∧Below w.heap.size w wr) (fun ix _=>r.length - (intOf ix).toNat)
 case atStart=>exact⟨0,Nat.zero_le _,rfl,fun j hj=>absurd hj (Nat.not_lt_zero _),Below.refl _ _⟩
 case round=>
  obtain⟨k,hk,rfl,hpre,hb⟩:=hrel;have Hpre:=AA hpre;clear hpre
  by_cases hlt:k<r.length
  ·have hlti:(k:Int)<(r.length:Int):=by omega
   obtain⟨b,off,rfl,D⟩:=(HH.out.below hb).at hlt;cases hp:Ee (nth r k)
   ·have S:=AA (show Em r=false by unfold Em;rw[MC (Lm hlt) hp];rfl)
    have Hp:=AA hp;clear hp;go_wp2_with fail;refine(DH _ _ _ _).mono ?_;rintro e w' ⟨rfl,rfl⟩;rw[show Bv _ 0 9999=false from Hp.out];go_wp2_with fail;go_ret;exact⟨AP S.out.symm,hb⟩
   ·have Hp:=AA hp
    clear hp;go_wp2_with fail;refine(DH _ _ _ _).mono ?_;rintro e w' ⟨rfl,rfl⟩;rw[show Bv _ 0 9999=true from Hp.out];go_wp2_with fail;go_roundw
    case rel=>exact⟨k+1,by omega,by go_num,BK Hpre.out Hp.out,hb⟩
    case measure=>simp[intOf];omega
  ·have ek:k=r.length:=by omega
   have hpre:=Hpre.out;rw[ek] at hpre;have S:=AA (show Em r=((r.length:Int)==4) by unfold Em;rw[KI (fun k hk=>Lm hk) hpre];by_cases h4:r.length=4<;>simp[h4]<;>omega);clear Hpre hpre;go_wp2_with fail;go_ret;exact⟨AP S.out.symm,hb⟩
theorem PS {m:List (List Int)} {k:Nat} (h:k<m.length):m[k]? =some (AK m k):=by unfold AK;exact Ba h
theorem LC (v:Value) (m:List (List Int)) (w:World) (h:BI w v m):Calls prog 230 #[v] w fun e w'=>e= .returned (.bool (Bq m))∧Below w.heap.size w w':=by
 obtain⟨a,c,rfl,hc,hcm,H⟩:=h.open;unfold maxLen at hcm;have HH:=AA H;clear h H;go_in;go_wp2_with fail;go_loopw [3] (fun ix wr=>∃k:Nat,k≤m.length∧ix= .int .i64 k∧(∀j,j<k→Em (AK m j)=true)∧Below w.heap.size w wr) (fun ix _=>m.length - (intOf ix).toNat)
 case atStart=>exact⟨0,Nat.zero_le _,rfl,fun j hj=>absurd hj (Nat.not_lt_zero _),Below.refl _ _⟩
 case round=>
  obtain⟨k,hk,rfl,hpre,hb⟩:=hrel;have Hpre:=AA hpre;clear hpre
  by_cases hlt:k<m.length
  ·have hlti:(k:Int)<(m.length:Int):=by omega
   obtain⟨b,off,u,rfl,hbl,D,hr⟩:=(HH.out.below hb) k hlt;have C:=AA (QJ u _ wr hr);clear hr;cases hp:Em (AK m k)
   ·have S:=AA (show Bq m=false by unfold Bq;rw[MC (PS hlt) hp];rfl)
    have Hp:=AA hp;clear hp;go_wp2_with fail;refine C.out.mono ?_;rintro e w2 ⟨rfl,b2⟩;rw[Hp.out];go_wp2_with fail;go_ret;exact⟨AP S.out.symm,hb.trans (b2.mono hb.size)⟩
   ·have Hp:=AA hp
    clear hp;go_wp2_with fail;refine C.out.mono ?_;rintro e w2 ⟨rfl,b2⟩;rw[Hp.out];go_wp2_with fail;go_roundw
    case rel=>exact⟨k+1,by omega,by go_num,BK Hpre.out Hp.out,hb.trans (b2.mono hb.size)⟩
    case measure=>simp[intOf];omega
  ·have ek:k=m.length:=by omega
   have hpre:=Hpre.out;rw[ek] at hpre;have S:=AA (show Bq m=((m.length:Int)==12) by unfold Bq;rw[KI (fun k hk=>PS hk) hpre];by_cases h4:m.length=12<;>simp[h4]<;>omega);clear Hpre hpre;go_wp2_with fail;go_ret;exact⟨AP S.out.symm,hb⟩
theorem Rp {x:AL} (hk:x.k=0):Cb x=decide (x=AL.zero):=by unfold Cb;rw[show Bv x.k 1 3=false from RO.2 (by omega)];simp
theorem J8 {x:AL} (hk:x.k≠0):Cb x=(Bv x.k 1 3&&Az x.g&&Bv x.r 0 50):=by unfold Cb;rw[show decide (x=AL.zero)=false by simp;intro e;rw[e] at hk;exact hk rfl];simp
theorem QB (x:AL) (w:World) (hs:x.g.size≤maxLen):Calls prog 182 #[x.val] w fun e w'=>e= .returned (.bool (Cb x))∧Below w.heap.size w w':=by
 have E0:=Rp (x:=x);have E1:=J8 (x:=x);generalize Cb x=res at E0 E1 ⊢;obtain⟨k,g,r⟩:=x;simp only[AL.val];dsimp only at E0 E1 hs;have C:=AA (fun W=>DN g W hs)
 by_cases hk:k=0
 ·subst hk
  have R:=AA (show res=(decide (g=⟨#[]⟩)&&decide (r=0)) by rw[E0 rfl];simp[AL.zero]);clear E0 E1
  by_cases hg:g=⟨#[]⟩
  ·subst hg
   by_cases hr:r=0
   ·subst hr
    go_in;go_wp2_with fail;go_ret;exact⟨AP (by rw[R.out];rfl),AF _ _⟩
   ·have R2:=AA (show res=false by rw[R.out];simp[hr])
    go_in;go_wp2_with fail;go_ret;exact⟨AP R2.out.symm,AF _ _⟩
  ·have R2:=AA (show res=false by rw[R.out];simp[hg])
   have hgl:¬g.toList=[]:=fun e=>hg (by rw[Lib.toList_data] at e;obtain⟨⟨l⟩⟩:=g;simp at e;rw[e])
   go_in;go_wp2_with fail;go_ret;exact⟨AP R2.out.symm,AF _ _⟩
 ·have t0:(k==0)=false:=by simp[hk]
  have R:=AA (E1 hk);clear E0 E1 hk;go_in;go_wp2_with fail;refine(DH _ _ _ _).mono ?_;rintro e w2 ⟨rfl,rfl⟩;cases h1:Bv k 1 3
  ·have R2:=AA (show res=false by rw[R.out,h1];rfl)
   go_wp2_with fail;go_ret;exact⟨AP R2.out.symm,AF _ _⟩
  ·go_wp2_with fail
   refine(C.out _).mono ?_;rintro e w2 ⟨rfl,rfl⟩;cases h2:Az g
   ·have R2:=AA (show res=false by rw[R.out,h1,h2];rfl)
    go_wp2_with fail;go_ret;exact⟨AP R2.out.symm,AF _ _⟩
   ·have R2:=AA (show res=Bv r 0 50 by rw[R.out,h1,h2];rfl)
    go_wp2_with fail;refine(DH _ _ _ _).mono ?_;rintro e w2 ⟨rfl,rfl⟩;go_wp2_with fail;go_ret;exact⟨AP R2.out.symm,AF _ _⟩
theorem Dl (v:Value) (xs:List AL) (w:World) (h:BH w v xs) (hs:Hj xs):Calls prog 139 #[v] w fun e w'=>e= .returned (.bool (A3 xs))∧Below w.heap.size w w':=by
 obtain⟨a,c,rfl,hc,hcm,H⟩:=A6.open Ak (by decide) h;unfold maxLen at hcm;have HH:=AA H;have HS:=AA hs;clear h H hs;go_in;go_wp2_with fail;go_loopw [3] (fun ix wr=>∃k:Nat,k≤xs.length∧ix= .int .i64 k∧(∀j,j<k→Cb (infoAt xs j)=true)∧Below w.heap.size w wr) (fun ix _=>xs.length - (intOf ix).toNat)
 case atStart=>exact⟨0,Nat.zero_le _,rfl,fun j hj=>absurd hj (Nat.not_lt_zero _),Below.refl _ _⟩
 case round=>
  obtain⟨k,hk,rfl,hpre,hb⟩:=hrel;have Hpre:=AA hpre;clear hpre
  by_cases hlt:k<xs.length
  ·have hlti:(k:Int)<(xs.length:Int):=by omega
   obtain⟨b,off,rfl,hbl,D0,D1,D2⟩:=(HH.out.below hb).infoCells hlt;have C:=QB (infoAt xs k) wr (HS.out _ (List.mem_of_getElem? (Br hlt)));simp only[AL.val] at C;have HC:=AA C;clear C;cases hp:Cb (infoAt xs k)
   ·have S:=AA (show A3 xs=false by unfold A3;rw[MC (Br hlt) hp];rfl)
    have Hp:=AA hp;clear hp;go_wp2_with fail;refine HC.out.mono ?_;rintro e w2 ⟨rfl,b2⟩;rw[Hp.out];go_wp2_with fail;go_ret;exact⟨AP S.out.symm,hb.trans (b2.mono hb.size)⟩
   ·have Hp:=AA hp
    clear hp;go_wp2_with fail;refine HC.out.mono ?_;rintro e w2 ⟨rfl,b2⟩;rw[Hp.out];go_wp2_with fail;go_roundw
    case rel=>exact⟨k+1,by omega,by go_num,BK Hpre.out Hp.out,hb.trans (b2.mono hb.size)⟩
    case measure=>simp[intOf];omega
  ·have ek:k=xs.length:=by omega
   have hpre:=Hpre.out;rw[ek] at hpre;have S:=AA (show A3 xs=((xs.length:Int)==12) by unfold A3;rw[KI (fun k hk=>Br hk) hpre];by_cases h4:xs.length=12<;>simp[h4]<;>omega);clear Hpre hpre;go_wp2_with fail;go_ret;exact⟨AP S.out.symm,hb⟩
theorem UG {xs:List AL} {k:Nat} (hk:k<xs.length) (h:∀j,j<k→decide ((infoAt xs j).k=0)=false) (hp:decide ((infoAt xs k).k=0)=true):Cs xs=(k:Int):=by
 have g:∀j (hj:j<xs.length),xs[j]=infoAt xs j:=fun j hj=>by have:=Br hj;rw[List.getElem?_eq_getElem hj] at this;exact So_ this
 unfold Cs;rw[if_pos (Ob (Br hk) hp)];have:xs.findIdx (fun x=>decide (x.k=0))=k:=by
  rw[List.findIdx_eq hk];exact⟨by rw[g k hk];exact hp,fun j hj=>by rw[g j (by omega)];exact h j hj⟩
 rw[this]
theorem Sz {xs:List AL} (h:∀j,j<xs.length→decide ((infoAt xs j).k=0)=false):Cs xs= -1:=by
 unfold Cs;rw[if_neg];rw[KJ (fun k hk=>Br hk) h];simp
theorem LL (v:Value) (xs:List AL) (w:World) (h:BH w v xs):Calls prog 90 #[v] w fun e w'=>e= .returned (.int .i64 (Cs xs))∧Below w.heap.size w w':=by
 obtain⟨a,c,rfl,hc,hcm,H⟩:=A6.open Ak (by decide) h;unfold maxLen at hcm;have HH:=AA H;clear h H;go_in;go_wp2_with fail;go_loopw [3] (fun ix wr=>∃k:Nat,k≤xs.length∧ix= .int .i64 k∧(∀j,j<k→decide ((infoAt xs j).k=0)=false)∧Below w.heap.size w wr) (fun ix _=>xs.length - (intOf ix).toNat)
 case atStart=>exact⟨0,Nat.zero_le _,rfl,fun j hj=>absurd hj (Nat.not_lt_zero _),Below.refl _ _⟩
 case round=>
  obtain⟨k,hk,rfl,hpre,hb⟩:=hrel;have Hpre:=AA hpre;clear hpre
  by_cases hlt:k<xs.length
  ·have hlti:(k:Int)<(xs.length:Int):=by omega
   obtain⟨b,off,rfl,hbl,D0,D1,D2⟩:=(HH.out.below hb).infoCells hlt;cases hp:decide ((infoAt xs k).k=0)
   ·have t0:((infoAt xs k).k==0)=false:=by simpa using hp
    have Hp:=AA hp;clear hp;go_wp2_with fail;go_roundw
    case rel=>exact⟨k+1,by omega,by go_num,BK Hpre.out Hp.out,hb⟩
    case measure=>simp[intOf];omega
   ·have t0:((infoAt xs k).k==0)=true:=by simpa using hp
    have S:=AA (UG hlt Hpre.out hp);have Hp:=AA hp;clear hp;go_wp2_with fail;go_ret;exact⟨BQ S.out.symm,hb⟩
  ·have ek:k=xs.length:=by omega
   have hpre:=Hpre.out;rw[ek] at hpre;have S:=AA (Sz hpre);clear Hpre hpre;go_wp2_with fail;go_ret;exact⟨BQ S.out.symm,hb⟩
theorem Ni (v:Value) (xs:List Int) (n:Int) (w:World) (h:Ap w v xs):Calls prog 143 #[v, .int .i64 n] w fun e w'=>e= .returned (.bool (xs.any fun x=>decide (x=n)))∧Below w.heap.size w w':=by
 obtain⟨a,c,rfl,hc,hcm,H⟩:=h.open;unfold maxLen at hcm;have HH:=AA H;clear h H;go_in;go_wp2_with fail;go_loopw [5] (fun ix wr=>∃k:Nat,k≤xs.length∧ix= .int .i64 k∧(∀j,j<k→decide (nth xs j=n)=false)∧Below w.heap.size w wr) (fun ix _=>xs.length - (intOf ix).toNat)
 case atStart=>exact⟨0,Nat.zero_le _,rfl,fun j hj=>absurd hj (Nat.not_lt_zero _),Below.refl _ _⟩
 case round=>
  obtain⟨k,hk,rfl,hpre,hb⟩:=hrel;have Hpre:=AA hpre;clear hpre
  by_cases hlt:k<xs.length
  ·have hlti:(k:Int)<(xs.length:Int):=by omega
   obtain⟨b,off,rfl,D⟩:=(HH.out.below hb).at hlt;cases hp:decide (nth xs k=n)
   ·have t0:(nth xs k==n)=false:=by simpa using hp
    have Hp:=AA hp;clear hp;go_wp2_with fail;go_roundw
    case rel=>exact⟨k+1,by omega,by go_num,BK Hpre.out Hp.out,hb⟩
    case measure=>simp[intOf];omega
   ·have t0:(nth xs k==n)=true:=by simpa using hp
    have S:=AA (Ob (p:=fun x=>decide (x=n)) (Lm hlt) hp);have Hp:=AA hp;clear hp;go_wp2_with fail;go_ret;exact⟨AP S.out.symm,hb⟩
  ·have ek:k=xs.length:=by omega
   have hpre:=Hpre.out;rw[ek] at hpre;have S:=AA (KJ (p:=fun x=>decide (x=n)) (fun k hk=>Lm hk) hpre);clear Hpre hpre;go_wp2_with fail;go_ret;exact⟨AP S.out.symm,hb⟩
theorem J3 (v:Value) (ss:List ByteArray) (g:ByteArray) (w:World) (h:BG w v ss) (hs:Dr ss) (hg:g.size≤maxLen):Calls prog 138 #[v, .string g] w fun e w'=>e= .returned (.bool (Cc ss g))∧Below w.heap.size w w':=by
 obtain⟨a,c,rfl,hc,hcm,H⟩:=A6.open DE (by decide) h;unfold maxLen at hcm;have HH:=AA H;have HS:=AA (And.intro hs hg);clear h H hs hg;go_in;go_wp2_with fail;go_loopw [5] (fun ix wr=>∃k:Nat,k≤ss.length∧ix= .int .i64 k∧(∀j,j<k→Kw (Bi ss j) g=false)∧Below w.heap.size w wr) (fun ix _=>ss.length - (intOf ix).toNat)
 case atStart=>exact⟨0,Nat.zero_le _,rfl,fun j hj=>absurd hj (Nat.not_lt_zero _),Below.refl _ _⟩
 case round=>
  obtain⟨k,hk,rfl,hpre,hb⟩:=hrel;have Hpre:=AA hpre;clear hpre
  by_cases hlt:k<ss.length
  ·have hlti:(k:Int)<(ss.length:Int):=by omega
   obtain⟨b,off,rfl,D⟩:=(HH.out.below hb).str hlt;have C:=AA (Jl (Bi ss k) g wr (HS.out.1 _ (List.mem_of_getElem? (FV hlt))) HS.out.2);cases hp:Kw (Bi ss k) g
   ·have Hp:=AA hp
    clear hp;go_wp2_with fail;refine C.out.mono ?_;rintro e w2 ⟨rfl,rfl⟩;rw[Hp.out];go_wp2_with fail;go_roundw
    case rel=>exact⟨k+1,by omega,by go_num,BK Hpre.out Hp.out,hb⟩
    case measure=>simp[intOf];omega
   ·have S:=AA (show Cc ss g=true from Ob (p:=fun s=>Kw s g) (FV hlt) hp)
    have Hp:=AA hp;clear hp;go_wp2_with fail;refine C.out.mono ?_;rintro e w2 ⟨rfl,rfl⟩;rw[Hp.out];go_wp2_with fail;go_ret;exact⟨AP S.out.symm,hb⟩
  ·have ek:k=ss.length:=by omega
   have hpre:=Hpre.out;rw[ek] at hpre;have S:=AA (show Cc ss g=false from KJ (p:=fun s=>Kw s g) (fun k hk=>FV hk) hpre);clear Hpre hpre;go_wp2_with fail;go_ret;exact⟨AP S.out.symm,hb⟩
def IT (fs:List Nat) (k:Nat):Nat:=fs.getD k 0
theorem F9 {fs:List Nat} {k:Nat} (h:k<fs.length):fs[k]? =some (IT fs k):=by unfold IT;exact Ba h
theorem Ou {fs:List Nat} {k:Nat}:nth (Ah fs) k=(IT fs k:Int):=by unfold nth Ah IT;simp only[List.getD_eq_getElem?_getD,List.getElem?_map];cases fs[k]? <;>rfl
theorem CU {fs:List Nat}:(Ah fs).length=fs.length:=by simp[Ah]
theorem FU (v1 v2 v3:Value) (xs:List AL) (fs:List Nat) (ss:List ByteArray) (w:World) (h1:BH w v1 xs) (h2:Ap w v2 (Ah fs)) (h3:BG w v3 ss) (hf:∀f∈fs,f<xs.length) (hI:Hj xs) (hs:Dr ss):
 Calls prog 101 #[v1,v2,v3] w fun e w'=>e= .returned (.bool (At xs fs ss))∧Below w.heap.size w w':=by
 obtain⟨a1,c1,rfl,hc1,hcm1,H1⟩:=A6.open Ak (by decide) h1;obtain⟨a2,c2,rfl,hc2,hcm2,H2⟩:=h2.open;rw[CU] at hc2 ⊢;unfold maxLen at hcm1 hcm2;have CM:=AA (fun W (hW:Below w.heap.size w W) (g:ByteArray) (hg:g.size≤maxLen)=>J3 v3 ss g W (A6.below h3 hW) hs hg);have HH1:=AA H1;have HH2:=AA H2;have HF:=AA (And.intro hf hI);obtain⟨a3,c3,rfl,hc3,hcm3⟩:=h3.shape;clear h1 h2 h3 H1 H2 hf hI hs;go_in;go_wp2_with fail;go_loopw [7] (fun ix wr=>∃k:Nat,k≤fs.length∧ix= .int .i64 k∧(∀j,j<k→Cc ss (infoAt xs (IT fs j)).g=true)∧Below w.heap.size w wr) (fun ix _=>fs.length - (intOf ix).toNat)
 case atStart=>exact⟨0,Nat.zero_le _,rfl,fun j hj=>absurd hj (Nat.not_lt_zero _),Below.refl _ _⟩
 case round=>
  obtain⟨k,hk,rfl,hpre,hb⟩:=hrel;have Hpre:=AA hpre;clear hpre
  by_cases hlt:k<fs.length
  ·have hlti:(k:Int)<(fs.length:Int):=by omega
   obtain⟨b2,off2,rfl,D⟩:=(HH2.out.below hb).at (k:=k) (by rw[CU];exact hlt);rw[Ou] at D;have hfl:=HF.out.1 _ (List.mem_of_getElem? (F9 hlt));obtain⟨b,off,rfl,hbl,D0,D1,D2⟩:=(HH1.out.below hb).infoCells hfl;have hfi:(IT fs k:Int)<xs.length:=by omega
   have C:=AA (CM.out wr hb (infoAt xs (IT fs k)).g (HF.out.2 _ (List.mem_of_getElem? (Br hfl))));cases hp:Cc ss (infoAt xs (IT fs k)).g
   ·have S:=AA (show At xs fs ss=false from MC (p:=fun f=>Cc ss (infoAt xs f).g) (F9 hlt) hp)
    have Hp:=AA hp;clear hp;go_wp2_with fail;refine C.out.mono ?_;rintro e w2 ⟨rfl,b2⟩;rw[Hp.out];go_wp2_with fail;go_ret;exact⟨AP S.out.symm,hb.trans (b2.mono hb.size)⟩
   ·have Hp:=AA hp
    clear hp;go_wp2_with fail;refine C.out.mono ?_;rintro e w2 ⟨rfl,b2⟩;rw[Hp.out];go_wp2_with fail;go_roundw
    case rel=>exact⟨k+1,by omega,by go_num,BK Hpre.out Hp.out,hb.trans (b2.mono hb.size)⟩
    case measure=>simp[intOf];omega
  ·have ek:k=fs.length:=by omega
   have hpre:=Hpre.out;rw[ek] at hpre;have S:=AA (show At xs fs ss=true from KI (p:=fun f=>Cc ss (infoAt xs f).g) (fun k hk=>F9 hk) hpre);clear Hpre hpre;go_wp2_with fail;go_ret;exact⟨AP S.out.symm,hb⟩
theorem P7 {a b:List Nat}:Ah (a++b)=Ah a++Ah b:=by simp[Ah]
theorem GG {lo:Nat} {w:World} {v:Value} {ys zs:List Nat} (h:w.ownsRow lo 3 1 v (ys.length+zs.length) ((Ah ys).map (Value.int .i64)++(Ah zs).map (Value.int .i64))):AE lo w v (Ah (ys++zs)):=by unfold AE;rw[P7,List.map_append,List.length_append,CU,CU];exact h
theorem JC (xs:List Int):∀u∈xs.map (Value.int .i64),u.oneCell'=true:=by intro u hu;obtain⟨x,_,rfl⟩:=List.mem_map.1 hu;rfl
theorem FW (w:World):AE w.heap.size (w.alloc (.cells #[] 3)) (.slice (some ⟨w.heap.size,0,none⟩) 0 0) (Ah []):=By w 3 1
theorem G6 (v:Value) (r:List Int) (w:World) (h:Ap w v r) (hl:r.length≤100) (hx:∀k,k<r.length→nth r k≤9223372036854775807):Calls prog 142 #[v] w fun e w'=>∃v',e= .returned v'∧AE w.heap.size w' v' (Ah (named r))∧Below w.heap.size w w':=by
 obtain⟨a,c,rfl,hc,hcm,H⟩:=h.open;unfold maxLen at hcm;have HH:=AA H;have HX:=AA hx;have bA:=AF w (.cells #[] 3);have o1:=FW w;clear h H hx;go_in;go_wp2_with fail;generalize w.alloc (.cells #[] 3)=wa at o1 bA ⊢;generalize(Value.slice (some ⟨w.heap.size,0,none⟩) 0 0)=o at o1 ⊢;go_loopw [3,4,5,6,7] (fun o ix _ _ _ wr=>∃k:Nat,k≤r.length∧ix= .int .i64 k∧AE w.heap.size wr o (Ah (named (r.take k)))∧Below w.heap.size w wr) (fun _ ix _ _ _ _=>r.length - (intOf ix).toNat)
 case atStart=>exact⟨0,Nat.zero_le _,rfl,o1,bA⟩
 case round=>
  clear o1 bA;obtain⟨k,hk,rfl,hown,hb⟩:=hrel
  by_cases hlt:k<r.length
  ·have hlti:(k:Int)<(r.length:Int):=by omega
   obtain⟨b,off,rfl,D⟩:=(HH.out.below hb).at hlt;have hxk:=HX.out k hlt;have Nx:=AA (J5 hlt);have hnl:(named (r.take k)).length≤100:=by have:=FM (r:=r.take k);rw[List.length_take] at this;omega
   change (Hid (named (r.take (k+1))=named (r.take k)++(if BV (nth r k) then[A1 (nth r k)] else[]))) at Nx
   generalize named (r.take k)=ys at hown Nx hnl;generalize nth r k=x at D Nx hxk;have Hown:=AA hown;obtain⟨_,_,rfl,_⟩:=(AE.rd hown).open;clear hown;go_wp2_with fail;refine(Bz x _ hxk).mono ?_;rintro e w2 ⟨rfl,rfl⟩;cases hg:BV x
   ·rw[Dh hg]
    have Nx':=AA (show named (r.take (k+1))=ys by rw[Nx.out,hg];simp);clear hg Nx;go_wp2_with fail;go_roundw
    case rel=>exact⟨k+1,by omega,by go_num,by rw[Nx'.out];exact Hown.out,hb⟩
    case measure=>simp[intOf];omega
   ·rw[Dd hg]
    have Nx':=AA (show named (r.take (k+1))=ys++[A1 x] by rw[Nx.out,hg];simp);generalize A1 x=f at Nx';clear hg Nx;rw[CU];go_wp2_with (at_builtin;go_must (refine BX (lo:=w.heap.size) (n:=ys.length) (xs:=(Ah ys).map (Value.int .i64)) (m:=1) (news:=[.int .i64 f]) rfl rfl 3 (.int .i64 0) 1 8 underlying28 Tryz.infoInt rfl (by decide) rfl (by have:=AE.below Hown.out (AF wr (.cells #[.int .i64 f] 3));unfold AE at this;rw[CU] at this;exact this) rfl (Rd.newsAt _ #[_] _ 1 1 _ (by simp) rfl (by simp[maxLen])) (by simp[Value.oneCell']) (by unfold maxLen;omega) (by omega) (by have:=hb.size;simp;omega) ?_;intro o' w9 k1 k2 k3 k4));go_roundw
    case rel=>exact⟨k+1,by omega,by go_num,by rw[Nx'.out];exact GG (zs:=[f]) k1,(hb.alloc hb.size _).trans k4⟩
    case measure=>simp[intOf];omega
  ·obtain rfl:k=r.length:=by omega
   rw[List.take_length] at hown;go_wp2_with fail;go_ret;exact⟨_,rfl,hown,hb⟩
theorem Ic {lo:Nat} {w w':World} {v:Value} {ys:List Nat} (h:AE lo w v (Ah ys)) (hb:Below w.heap.size w w'):w'.ownsRow lo 3 1 v ys.length ((Ah ys).map (Value.int .i64)):=by
 have:=AE.below h hb;unfold AE at this
 rwa [CU] at this
theorem Df {lo:Nat} {w:World} {v:Value} {ys:List Nat} (h:AE lo w v (Ah ys)):∃a c,v= .slice a ys.length c∧ys.length≤c:=by obtain⟨a,c,e,hc,_⟩:=(AE.rd h).open;rw[CU] at e hc;exact⟨a,c,e,hc⟩
def Fb (fs:List Nat) (k:Nat):List Nat:=(List.range k).filter fun f=>fs.contains f
theorem NW {fs:List Nat} {k:Nat}:Fb fs (k+1)=Fb fs k++(if fs.contains k then[k] else[]):=by
 unfold Fb;rw[List.range_succ,List.filter_append]
 congr 1
 simp only[List.filter_cons,List.filter_nil]
theorem PX {fs:List Nat} {k:Nat}:(Fb fs k).length≤k:=by
 have:=List.length_filter_le (fun f=>fs.contains f) (List.range k);simpa[Fb] using this
theorem Py {fs:List Nat} {k:Nat}:((Ah fs).any fun x=>decide (x=(k:Int)))=fs.contains k:=by
 rw[Bool.eq_iff_iff,List.contains_iff_mem];simp[Ah];constructor
 ·rintro⟨x,hx,e⟩
  obtain rfl:x=k:=by omega
  exact hx
 ·intro h
  exact⟨k,h,rfl⟩
theorem IY (v:Value) (fs:List Nat) (w:World) (h:Ap w v (Ah fs)):Calls prog 145 #[v] w fun e w'=>∃v',e= .returned v'∧AE w.heap.size w' v' (Ah (Fy fs))∧Below w.heap.size w w':=by
 have C:=AA (fun(k:Nat) W (hW:Below w.heap.size w W)=>Ni v (Ah fs) (k:Int) W (Ap.below h hW));have bA:=AF w (.cells #[] 3);have o1:=FW w;clear h;go_in;go_wp2_with fail;generalize w.alloc (.cells #[] 3)=wa at o1 bA ⊢;generalize(Value.slice (some ⟨w.heap.size,0,none⟩) 0 0)=o at o1 ⊢;go_loopw [3,4] (fun o ix wr=>∃k:Nat,k≤12∧ix= .int .i64 k∧AE w.heap.size wr o (Ah (Fb fs k))∧Below w.heap.size w wr) (fun _ ix _=>12 - (intOf ix).toNat)
 case atStart=>exact⟨0,Nat.zero_le _,rfl,o1,bA⟩
 case round=>
  clear o1 bA;obtain⟨k,hk,rfl,hown,hb⟩:=hrel
  by_cases hlt:k<12
  ·have hlti:(k:Int)<12:=by omega
   have Nx:=AA (NW (fs:=fs) (k:=k));have hnl:=PX (fs:=fs) (k:=k);generalize Fb fs k=ys at hown Nx hnl;have Ck:=C.out k wr hb;rw[Py] at Ck;have HC:=AA Ck;have Hown:=AA hown;obtain⟨_,_,rfl,_⟩:=Df hown;clear hown Ck;go_wp2_with fail;refine HC.out.mono ?_;rintro e w2 ⟨rfl,b2⟩;have hb2:=hb.trans (b2.mono hb.size);have Hown2:=AA (Hown.out.below b2);cases hg:fs.contains k
   ·have Nx':=AA (show Fb fs (k+1)=ys by rw[Nx.out,hg];simp)
    clear hg Nx;go_wp2_with fail;go_roundw
    case rel=>exact⟨k+1,by omega,by go_num,by rw[Nx'.out];exact Hown2.out,hb2⟩
    case measure=>simp[intOf];omega
   ·have Nx':=AA (show Fb fs (k+1)=ys++[k] by rw[Nx.out,hg];simp)
    clear hg Nx;go_wp2_with (at_builtin;go_must (refine BX (lo:=w.heap.size) (n:=ys.length) (xs:=(Ah ys).map (Value.int .i64)) (m:=1) (news:=[.int .i64 k]) rfl rfl 3 (.int .i64 0) 1 8 underlying28 Tryz.infoInt rfl (by decide) rfl (Ic Hown2.out (AF _ (.cells #[.int .i64 k] 3))) rfl (Rd.newsAt _ #[_] _ 1 1 _ (by simp) rfl (by simp[maxLen])) (by simp[Value.oneCell']) (by unfold maxLen;omega) (by omega) (by have:=hb2.size;simp;omega) ?_;intro o' w9 k1 k2 k3 k4));go_roundw
    case rel=>exact⟨k+1,by omega,by go_num,by rw[Nx'.out];exact GG (zs:=[k]) k1,(hb2.alloc hb2.size _).trans k4⟩
    case measure=>simp[intOf];omega
  ·obtain rfl:k=12:=by omega
   rw[show((12:Nat):Int)=12 from rfl];go_wp2_with fail;go_ret;exact⟨_,rfl,hown,hb⟩
theorem Kh {m:List (List Int)} (hm:Bq m=true) {f:Nat} (hf:f<12):∀k,k<(AK m f).length→nth (AK m f) k≤9223372036854775807:=fun k hk=>by obtain⟨h4,hw⟩:=BZ.1 ((Af.1 hm).2 f hf);have:=(hw _ (De (d:=0) hk)).2;unfold nth;omega
theorem IZ (v:Value) (m:List (List Int)) (root:Nat) (w:World) (h:BI w v m) (hm:Bq m=true) (hr:root<12):Calls prog 144 #[v, .int .i64 root] w fun e w'=>∃v',e= .returned v'∧AE w.heap.size w' v' (Ah (Di m root))∧Below w.heap.size w w':=by
 obtain⟨a,c,rfl,hc,hcm,H⟩:=h.open;have hml:=(Af.1 hm).1;have hrl:=(BZ.1 ((Af.1 hm).2 root hr)).1;obtain⟨b,off,u,rfl,hbl,D,hR⟩:=H root (by omega);have C:=AA (G6 u (AK m root) w hR (by omega) (Kh hm hr));have hri:(root:Int)<12:=by omega
 rw[hml];obtain⟨_,_,rfl,_⟩:=hR.open;unfold Di;clear h H hR hm hml hc hcm hrl;go_in;go_wp2_with fail;refine C.out.mono ?_;rintro e w1 ⟨v1,rfl,o1,b1⟩;have C2:=AA (IY v1 _ w1 (AE.rd o1));have Hb1:=AA b1;clear o1 b1 C;go_wp2_with fail;refine C2.out.mono ?_;rintro e w2 ⟨v2,rfl,o2,b2⟩;have Ho2:=AA (J7 o2 Hb1.out.size);have Hb2:=AA (Hb1.out.trans (b2.mono Hb1.out.size));clear o2 b2 C2;go_wp2_with fail;go_ret;exact⟨_,rfl,Ho2.out,Hb2.out⟩
def EX (m:List (List Int)) (ts:List Nat) (k:Nat):List Nat:=(ts.take k).flatMap fun t=>named (AK m t)
theorem Ji {m:List (List Int)} {ts:List Nat} {k:Nat} (h:k<ts.length):EX m ts (k+1)=EX m ts k++named (AK m (IT ts k)):=by unfold EX;rw[DI (F9 h),List.flatMap_append];simp
theorem Oo {m:List (List Int)} {ts:List Nat} {k:Nat} (hl:∀t∈ts,(AK m t).length=4):(EX m ts k).length≤4*k:=by
 induction k with
 |zero=>simp[EX]
 |succ k ih=>
  by_cases h:k<ts.length
  ·rw[Ji h,List.length_append]
   have h1:=FM (r:=AK m (IT ts k));have h2:=hl _ (List.mem_of_getElem? (F9 h));omega
  ·have:EX m ts (k+1)=EX m ts k:=by unfold EX;rw[List.take_of_length_le (by omega),List.take_of_length_le (by omega)]
   rw[this];omega
theorem PB (v:Value) (m:List (List Int)) (root:Nat) (w:World) (h:BI w v m) (hm:Bq m=true) (hr:root<12):Calls prog 146 #[v, .int .i64 root] w fun e w'=>∃v',e= .returned v'∧AE w.heap.size w' v' (Ah (GV m root))∧Below w.heap.size w w':=by
 have bA:=AF w (.cells #[] 3);have o1:=FW w;have C:=AA (IZ v m root _ (h.below bA) hm hr);obtain⟨a,c,rfl,hc,hcm,H⟩:=h.open;have hml:=(Af.1 hm).1;have hT:∀t∈Di m root,t<12:=fun t ht=>Ek (GJ.1 ht)
 have hrow:∀t∈Di m root,(AK m t).length=4:=fun t ht=>(BZ.1 ((Af.1 hm).2 t (hT t ht))).1
 have hl12:(Di m root).length≤12:=JH;have FS:GV m root=Fy (EX m (Di m root) (Di m root).length):=by unfold GV EX;rw[List.take_length]
 rw[FS];have HH:=AA H;have HT:=AA (And.intro hT hrow);have Hm:=AA hm;rw[hml] at C ⊢;generalize Di m root=ts at*;clear h H hm hT hrow FS hc hcm;go_in;go_wp2_with fail;generalize w.alloc (.cells #[] 3)=wa at o1 bA C ⊢;refine C.out.mono ?_;rintro e w1 ⟨v1,rfl,t1,b1⟩;have hb1:=bA.trans (b1.mono bA.size);have o2:=AE.below o1 b1;obtain⟨a1,c1,rfl,hc1⟩:=Df t1;have HT1:=AA t1;have Hb1:=AA hb1;have hap:Ey (.slice (some ⟨w.heap.size,0,none⟩) 0 0) (.slice a1 ts.length c1):=fun b hb hb'=>by have h1:=(World.ownsRow.lt t1 b hb').1;have h2:=(World.ownsRow.lt o1 b hb).2;omega
 clear C o1 bA t1 b1 hb1;go_wp2_with fail;generalize(Value.slice (some ⟨w.heap.size,0,none⟩) 0 0)=o at o2 hap ⊢;go_loopw [5,7] (fun o ix wr=>∃k:Nat,k≤ts.length∧ix= .int .i64 k∧AE w.heap.size wr o (Ah (EX m ts k))∧Below w.heap.size w wr∧AE wa.heap.size wr (.slice a1 ts.length c1) (Ah ts)∧Ey o (.slice a1 ts.length c1)) (fun _ ix _=>ts.length - (intOf ix).toNat)
 case atStart=>exact⟨0,Nat.zero_le _,rfl,o2,Hb1.out,HT1.out,hap⟩
 case round=>
  clear o2 hap;obtain⟨k,hk,rfl,hown,hb,ht1,hap⟩:=hrel
  by_cases hlt:k<ts.length
  ·have hlti:(k:Int)<(ts.length:Int):=by omega
   obtain⟨_,_,e1,_,_,H1⟩:=(AE.rd ht1).open;simp only[Value.slice.injEq] at e1;obtain⟨rfl,e2,rfl⟩:=e1;clear e2;obtain⟨b1,off1,rfl,D1⟩:=H1.at (k:=k) (by rw[CU];exact hlt);rw[Ou] at D1;clear H1;have hmem:=List.mem_of_getElem? (F9 hlt);have hf:=HT.out.1 _ hmem;have hr4:=HT.out.2 _ hmem;obtain⟨b,off,u,rfl,hbl,D,hR⟩:=(HH.out.below hb) (IT ts k) (by omega);have CN:=AA (G6 u (AK m (IT ts k)) wr hR (by omega) (Kh Hm.out hf));have hfi:(IT ts k:Int)<12:=by omega
   have Nx:=AA (Ji (m:=m) hlt);have hnl:=Oo (k:=k) HT.out.2;have hnm:=FM (r:=AK m (IT ts k));rw[hr4] at hnm;obtain⟨_,_,rfl,_⟩:=hR.open;generalize EX m ts k=ys at hown Nx hnl;generalize named (AK m (IT ts k))=zs at CN Nx hnm;generalize IT ts k=f at*;have Hown:=AA hown;obtain⟨_,_,rfl,_⟩:=Df hown;have Ht:=AA (And.intro ht1 hap);clear hown hR hmem hr4 ht1 hap;go_wp2_with fail;refine CN.out.mono ?_;rintro e w2 ⟨v2,rfl,o2,b2⟩;have Hb2:=AA (hb.trans (b2.mono hb.size));have Ht2:=AA (And.intro (AE.below Ht.out.1 b2) Ht.out.2);have Hown2:=AA (Hown.out.below b2);have hRd:=AE.rd o2;obtain⟨az,cz,rfl,hcz⟩:=Df o2;have HRd:=AA hRd;clear o2 b2 hRd D D1;go_wp2_with (at_builtin;go_must (refine BX (lo:=w.heap.size) (n:=ys.length) (xs:=(Ah ys).map (Value.int .i64)) (m:=zs.length) (news:=(Ah zs).map (Value.int .i64)) rfl rfl 3 (.int .i64 0) 1 8 underlying28 Tryz.infoInt rfl (by decide) rfl (Ic Hown2.out (Below.refl _ _)) rfl (by have:=HRd.out;unfold Ap at this;rw[CU] at this;exact this) (JC _) (by unfold maxLen;omega) (by omega) (by have:=Hb2.out.size;omega) ?_;intro o' w9 k1 k2 k3 k4));go_roundw
   case rel=>exact⟨k+1,by omega,by go_num,by rw[Nx.out];exact GG k1,Hb2.out.trans k4,An Ht2.out.1 k2 Ht2.out.2.symm.ne,Ht2.out.2.grown k3 (fun b hb=>(World.ownsRow.lt Ht2.out.1 b hb).2)⟩
   case measure=>simp[intOf];omega
  ·obtain rfl:k=ts.length:=by omega
   have C2:=AA (IY _ _ wr (AE.rd hown));obtain⟨_,_,rfl,_⟩:=Df hown;have Hb:=AA hb;clear hown hb;go_wp2_with fail;refine C2.out.mono ?_;rintro e w2 ⟨v2,rfl,o2,b2⟩;have Ho2:=AA (J7 o2 Hb.out.size);have Hb2:=AA (Hb.out.trans (b2.mono Hb.out.size));clear o2 b2 C2;go_wp2_with fail;go_ret;exact⟨_,rfl,Ho2.out,Hb2.out⟩
theorem SV (w:World) (n:Nat):AE w.heap.size (w.alloc (.cells #[.int .i64 n] 3)) (.slice (some ⟨w.heap.size,0,none⟩) 1 1) (Ah [n]):=PJ (n:=1) (C:=1) rfl (Nat.le_refl _) (by decide) (Nat.le_refl _)
theorem IW (v:Value) (m:List (List Int)) (root:Int) (w:World) (h:BI w v m) (hm:Bq m=true) (hr:root<12):Calls prog 103 #[v, .int .i64 root] w fun e w'=>∃v',e= .returned v'∧AE w.heap.size w' v' (Ah (EP m root))∧Below w.heap.size w w':=by
 by_cases hn:root<0
 ·have E:EP m root=[]:=by unfold EP;rw[if_pos hn]
  have o1:=FW w;rw[E];go_in;go_wp2_with fail;go_ret;exact⟨_,rfl,o1,AF _ _⟩
 ·obtain⟨r,rfl⟩:∃r:Nat,root=(r:Int):=⟨root.toNat,by omega⟩
  have E:EP m (r:Int)=Fy (([r]++Di m r)++GV m r):=by unfold EP;rw[if_neg hn,Int.toNat_natCast];rfl
  have hr12:r<12:=by omega
  rw[E];have b0:=AF w (.cells #[.int .i64 r] 3);have o0:=SV w r;have CT:=AA (fun W (hW:Below w.heap.size w W)=>IZ v m r W (h.below hW) hm hr12);have CF:=AA (fun W (hW:Below w.heap.size w W)=>PB v m r W (h.below hW) hm hr12);have ht:(Di m r).length≤12:=JH;have hf:(GV m r).length≤12:=JH;obtain⟨a,c,rfl,hc,hcm,_⟩:=h.open;generalize Di m r=ts at*;generalize GV m r=fs at*;clear h hm E hc hcm;go_in;go_wp2_with fail;generalize w.alloc _=wa at o0 b0 ⊢;refine(CT.out wa b0).mono ?_;rintro e w1 ⟨v1,rfl,o1,b1⟩;have O0:=AE.below o0 b1;have hb1:=b0.trans (b1.mono b0.size);have HRd:=AA (AE.rd o1);have hlw:w.heap.size≤w1.heap.size:=hb1.size;have Hb1:=AA hb1;obtain⟨az,cz,rfl,hcz⟩:=Df o1;clear o0 b0 o1 b1 hb1;have ys1:Ah [r]=Ah ([r]:List Nat):=rfl;go_wp2_with (at_builtin;go_must (refine BX (lo:=w.heap.size) (n:=1) (xs:=(Ah [r]).map (Value.int .i64)) (m:=ts.length) (news:=(Ah ts).map (Value.int .i64)) rfl rfl 3 (.int .i64 0) 1 8 underlying28 Tryz.infoInt rfl (by decide) rfl (Ic O0 (Below.refl _ _)) rfl (by have:=HRd.out;unfold Ap at this;rw[CU] at this;exact this) (JC _) (by unfold maxLen;omega) (by omega) (by omega) ?_;intro o' w9 k1 k2 k3 k4));have hb9:=Hb1.out.trans k4;refine(CF.out w9 hb9).mono ?_;rintro e w2 ⟨v2,rfl,o2,b2⟩;have O9:=GG (ys:=[r]) (zs:=ts) k1;have O2:=AE.below O9 b2;have Hb2:=AA (hb9.trans (b2.mono hb9.size));have HRd2:=AA (AE.rd o2);obtain⟨ay,cy,rfl,hcy⟩:=Df o2;obtain⟨ax,cx,rfl,hcx⟩:=Df O2;clear O0 HRd k1 k2 k3 k4 hb9 O9 o2 b2;go_wp2_with (at_builtin;go_must (refine BX (lo:=w.heap.size) (n:=([r]++ts).length) (xs:=(Ah ([r]++ts)).map (Value.int .i64)) (m:=fs.length) (news:=(Ah fs).map (Value.int .i64)) rfl rfl 3 (.int .i64 0) 1 8 underlying28 Tryz.infoInt rfl (by decide) rfl (Ic O2 (Below.refl _ _)) rfl (by have:=HRd2.out;unfold Ap at this;rw[CU] at this;exact this) (JC _) (by simp only[List.length_append,List.length_singleton];unfold maxLen;omega) (by simp only[List.length_append,List.length_singleton];omega) (by have:=Hb2.out.size;omega) ?_;intro o8 w8 k1 k2 k3 k4));have hb8:=Hb2.out.trans k4;have O8:=GG k1;refine(IY o8 _ w8 (AE.rd O8)).mono ?_;rintro e w3 ⟨v3,rfl,o3,b3⟩;have Ho3:=AA (J7 o3 hb8.size);have Hb3:=AA (hb8.trans (b3.mono hb8.size));clear O8 hb8 k1 k2 k3 k4 o3 b3 O2;go_wp2_with fail;go_ret;exact⟨_,rfl,Ho3.out,Hb3.out⟩
theorem Mr (w:World) (a b:Obj):((w.alloc a).alloc b).heap[w.heap.size]? =some a∧((w.alloc a).alloc b).heap[w.heap.size+1]? =some b∧Below w.heap.size w ((w.alloc a).alloc b)∧((w.alloc a).alloc b).heap.size=w.heap.size+2:=by have h1:=heap_alloc_new w a;have h2:=heap_alloc_new (w.alloc a) b;have h4:=AG h1 (AF _ b);simp only[World.size_alloc] at h2;exact⟨h4,h2,FQ w a b,by simp⟩
def FB (k:AH) (a n:Nat):List Nat:=(List.range n).filter (Mv k a)
theorem NY {k:AH} {a n:Nat}:FB k a (n+1)=FB k a n++(if Mv k a n then[n] else[]):=by
 unfold FB;rw[List.range_succ,List.filter_append]
 congr 1
 simp only[List.filter_cons,List.filter_nil]
theorem Pc {k:AH} {a n:Nat}:(FB k a n).length≤n:=by have:=List.length_filter_le (Mv k a) (List.range n);simpa[FB] using this
theorem PA (mv iv ev cv:Value) (k:AH) (a:Nat) (w:World) (h:L6 w mv iv ev cv k) (hk:DV k):Calls prog 100 #[.agg #[mv,iv,ev,cv], .int .i64 a] w fun e w'=>∃v',e= .returned v'∧AE w.heap.size w' v' (Ah (Pb k a))∧Below w.heap.size w w':=by
 obtain⟨N0,N1,hb0,hs0⟩:=Mr w (.cells #[mv,iv,ev,cv] 27) (.cells #[] 3);have o1:AE w.heap.size ((w.alloc (.cells #[mv,iv,ev,cv] 27)).alloc (.cells #[] 3)) (.slice (some ⟨w.heap.size+1,0,none⟩) 0 0) (Ah []):=by have:=FW (w.alloc (.cells #[mv,iv,ev,cv] 27));simp only[World.size_alloc] at this;exact J7 this (Nat.le_succ _)
 have CT:=AA (fun(r:Nat) (hr:r<12) W (hW:Below w.heap.size w W)=>IZ mv k.mem r W (h.1.below hW) hk.mem hr);obtain⟨ae,ce,rfl,hce,hcme,HE⟩:=h.2.2.1.open;rw[hk.envl] at hce N0 o1 hb0 ⊢;have HR:=AA hk.roots;have HHE:=AA HE;have Henvl:=AA hk.envl;have US:Pb k a=FB k a 3:=rfl;rw[US];clear h hk HE US hs0 N1;go_in;go_wp2_with fail;generalize(w.alloc _).alloc _=wa at o1 hb0 N0 ⊢;have HN0:=AA N0;clear N0;generalize(Value.slice (some ⟨w.heap.size+1,0,none⟩) 0 0)=o at o1 ⊢;go_loopw [5,6,7] (fun o ix _ wr=>∃n:Nat,n≤3∧ix= .int .i64 n∧AE w.heap.size wr o (Ah (FB k a n))∧Below w.heap.size w wr∧wr.heap[w.heap.size]? =some (.cells #[mv,iv, .slice ae 3 ce,cv] 27 (0,0))) (fun _ ix _ _=>3 - (intOf ix).toNat)
 case atStart=>exact⟨0,Nat.zero_le _,rfl,o1,hb0,HN0.out⟩
 case round=>
  clear o1 hb0;obtain⟨n,hn,rfl,hown,hb,hN⟩:=hrel;obtain⟨x0,_,x2,_⟩:=AB hN
  by_cases hlt:n<3
  ·have hlti:(n:Int)<3:=by omega
   obtain⟨b,off,ua,uc,rfl,hbl,D0,D1,_⟩:=(HHE.out.below hb) n (by rw[Henvl.out];exact hlt);have hroot:=HR.out n hlt;have Nx:=AA (NY (k:=k) (a:=a) (n:=n));have hnl:=Pc (k:=k) (a:=a) (n:=n);have UE:Mv k a n=(decide ((AD k.envs n).root=(a:Int))||(decide (0≤(AD k.envs n).root)&&(Di k.mem (AD k.envs n).root.toNat).contains a)):=rfl
   change (AD k.envs n).root= -1∨(0≤(AD k.envs n).root∧(AD k.envs n).root≤11∧_) at hroot
   generalize FB k a n=ys at hown Nx hnl;generalize Mv k a n=ub at Nx UE;generalize(AD k.envs n).root=rt at D1 hroot UE;have Hown:=AA hown;have HN:=AA hN;obtain⟨_,_,rfl,_⟩:=Df hown;clear hown hN D0;have YES:Hid (ub=true→FB k a (n+1)=ys++[n]):=AA fun e=>by rw[Nx.out,e];simp
   have NO:Hid (ub=false→FB k a (n+1)=ys):=AA fun e=>by rw[Nx.out,e];simp
   clear Nx
   by_cases e1:rt=(a:Int)
   ·have t1:(rt==(a:Int))=true:=by simp[e1]
    have Nx':=AA (YES.out (by rw[UE];simp[e1]));clear YES NO UE e1 hroot;go_wp2_with (at_builtin;go_must (refine BX (lo:=w.heap.size) (n:=ys.length) (xs:=(Ah ys).map (Value.int .i64)) (m:=1) (news:=[.int .i64 n]) rfl rfl 3 (.int .i64 0) 1 8 underlying28 Tryz.infoInt rfl (by decide) rfl (Ic Hown.out (AF _ (.cells #[.int .i64 n] 3))) rfl (Rd.newsAt _ #[_] _ 1 1 _ (by simp) rfl (by simp[maxLen])) (by simp[Value.oneCell']) (by unfold maxLen;omega) (by omega) (by have:=hb.size;simp;omega) ?_;intro o' w9 k1 k2 k3 k4));go_roundw
    case rel=>exact⟨n+1,by omega,by go_num,by rw[Nx'.out];exact GG (zs:=[n]) k1,(hb.alloc hb.size _).trans k4,(k2.block w.heap.size (by have:=Aq HN.out;simp;omega) (fun e=>Bs Hown.out HN.out (by decide) e.symm)).trans (AG HN.out (AF _ _))⟩
    case measure=>simp[intOf];omega
   ·have t1:(rt==(a:Int))=false:=by simp[e1]
    rcases hroot with rfl|⟨h0,h11,_⟩
    ·have Nx':=AA (NO.out (by rw[UE];simp[e1]))
     clear YES NO UE e1;go_wp2_with fail;go_roundw
     case rel=>exact⟨n+1,by omega,by go_num,by rw[Nx'.out];exact Hown.out,hb,HN.out⟩
     case measure=>simp[intOf];omega
    ·obtain⟨r,rfl⟩:∃r:Nat,rt=(r:Int):=⟨rt.toNat,by omega⟩
     have C:=AA (CT.out r (by omega) wr hb);rw[Int.toNat_natCast] at UE;go_wp2_with fail;refine C.out.mono ?_;rintro e w2 ⟨v2,rfl,o2,b2⟩;have CH:=Ni v2 _ (a:Int) w2 (AE.rd o2);rw[Py] at CH;generalize(Di k.mem r).contains a=bt at UE CH;have HCH:=AA CH;have hb2:=hb.trans (b2.mono hb.size);have Hown2:=AA (Hown.out.below b2);have HN2:=AA (AG HN.out b2);clear CH o2 b2 C x0 x2 D1;go_wp2_with fail;refine HCH.out.mono ?_;rintro e w3 ⟨rfl,b3⟩;have hb3:=hb2.trans (b3.mono hb2.size);have Hown3:=AA (Hown2.out.below b3);have HN3:=AA (AG HN2.out b3);clear b3 hb2;cases bt
     ·have Nx':=AA (NO.out (by rw[UE];simp[e1]))
      clear YES NO UE e1;go_wp2_with fail;go_roundw
      case rel=>exact⟨n+1,by omega,by go_num,by rw[Nx'.out];exact Hown3.out,hb3,HN3.out⟩
      case measure=>simp[intOf];omega
     ·have Nx':=AA (YES.out (by rw[UE];simp))
      clear YES NO UE e1;go_wp2_with (at_builtin;go_must (refine BX (lo:=w.heap.size) (n:=ys.length) (xs:=(Ah ys).map (Value.int .i64)) (m:=1) (news:=[.int .i64 n]) rfl rfl 3 (.int .i64 0) 1 8 underlying28 Tryz.infoInt rfl (by decide) rfl (Ic Hown3.out (AF _ (.cells #[.int .i64 n] 3))) rfl (Rd.newsAt _ #[_] _ 1 1 _ (by simp) rfl (by simp[maxLen])) (by simp[Value.oneCell']) (by unfold maxLen;omega) (by omega) (by have:=hb3.size;simp;omega) ?_;intro o' w9 k1 k2 k3 k4));go_roundw
      case rel=>exact⟨n+1,by omega,by go_num,by rw[Nx'.out];exact GG (zs:=[n]) k1,(hb3.alloc hb3.size _).trans k4,(k2.block w.heap.size (by have:=Aq HN3.out;simp;omega) (fun e=>Bs Hown3.out HN3.out (by decide) e.symm)).trans (AG HN3.out (AF _ _))⟩
      case measure=>simp[intOf];omega
  ·obtain rfl:n=3:=by omega
   rw[show((3:Nat):Int)=3 from rfl];go_wp2_with fail;go_ret;exact⟨_,rfl,hown,hb⟩
theorem F5 {l:List AU} {k:Nat} (h:k<l.length):l[k]? =some (Ae l k):=by simp[Ae,h]
theorem Iz {α:Type} {p:α→Bool} {l:List α} {k:Nat} {x:α} (h:l[k]? =some x):(l.take (k+1)).filter p=(l.take k).filter p++(if p x then[x] else[]):=by
 rw[DI h,List.filter_append]
 congr 1
 simp only[List.filter_cons,List.filter_nil]
theorem GN {α:Type} {p:α→Bool} {l:List α} {k:Nat}:((l.take k).filter p).length≤l.length:=Nat.le_trans (List.length_filter_le _ _) (by rw[List.length_take];omega)
theorem Gq (v:Value) (c:List AU) (e:Int) (w:World) (h:Bh w v c) (hl:c.length≤100):Calls prog 102 #[v, .int .i64 e] w fun r w'=>∃v',r= .returned v'∧AC w.heap.size 95 4 AJ w' v' (Cg c e)∧Below w.heap.size w w':=by
 obtain⟨a,cp,rfl,hc,hcm,H⟩:=A6.open BP (by decide) h;unfold maxLen at hcm;have HH:=AA H;have bA:=AF w (.cells #[] 95);have o1:=Bw AJ w 95 4;clear h H;go_in;go_wp2_with fail;generalize w.alloc (.cells #[] 95)=wa at o1 bA ⊢;generalize(Value.slice (some ⟨w.heap.size,0,none⟩) 0 0)=o at o1 ⊢;go_loopw [5,6] (fun o ix wr=>∃k:Nat,k≤c.length∧ix= .int .i64 k∧AC w.heap.size 95 4 AJ wr o ((c.take k).filter (fun y=>decide (y.e≠e)))∧Below w.heap.size w wr) (fun _ ix _=>c.length - (intOf ix).toNat)
 case atStart=>exact⟨0,Nat.zero_le _,rfl,o1,bA⟩
 case round=>
  clear o1 bA;obtain⟨k,hk,rfl,hown,hb⟩:=hrel
  by_cases hlt:k<c.length
  ·have hlti:(k:Int)<(c.length:Int):=by omega
   obtain⟨b,off,rfl,hbl,D0,D1,D2,D3⟩:=(HH.out.below hb).cachedCells hlt;have Nx:=AA (Iz (p:=fun y=>decide (y.e≠e)) (F5 hlt));have hnl:=GN (p:=fun y=>decide (y.e≠e)) (l:=c) (k:=k);generalize Ae c k=x at D0 D1 D2 D3 Nx;generalize(c.take k).filter (fun y=>decide (y.e≠e))=ys at hown Nx hnl;have Hown:=AA hown;obtain⟨_,_,rfl,_⟩:=hown.rd.shape;clear hown;cases hp:decide (x.e≠e)
   ·have t0:(x.e !=e)=false:=by simpa using hp
    have Nx':=AA (show(c.take (k+1)).filter (fun y=>decide (y.e≠e))=ys by rw[Nx.out,hp];simp);have Hp:=AA hp;clear hp Nx;go_wp2_with fail;go_roundw
    case rel=>exact⟨k+1,by omega,by go_num,by rw[Nx'.out];exact Hown.out,hb⟩
    case measure=>simp[intOf];omega
   ·have t0:(x.e !=e)=true:=by simpa using hp
    have Nx':=AA (show(c.take (k+1)).filter (fun y=>decide (y.e≠e))=ys++[x] by rw[Nx.out,hp];simp);have Hp:=AA hp;clear hp Nx;go_wp2_with (at_builtin;go_must (refine BX (lo:=w.heap.size) (n:=ys.length) (xs:=Bf AJ ys) (m:=1) (news:=[.int .i64 x.e, .int .i64 x.p, .int .i64 x.f, .bool x.w]) rfl rfl 95 (.agg #[.int .i64 0, .int .i64 0, .int .i64 0, .bool false]) 4 32 underlying25 Tryz.infoCachedK rfl (by decide) rfl (Bn (Hown.out) (AF _ _)) rfl (Rd.newsAt _ #[.int .i64 x.e, .int .i64 x.p, .int .i64 x.f, .bool x.w] _ 4 1 _ rfl (by simp) (by simp[maxLen])) (by simp[Value.oneCell']) (by unfold maxLen;omega) (by omega) (by have:=(hb).size;simp;omega) ?_;intro o' w9 k1 k2 k3 k4));go_roundw
    case rel=>exact⟨k+1,by omega,by go_num,by rw[Nx'.out];unfold AC;rw[BN,Dn,List.length_append];exact k1,((hb).alloc (hb).size _).trans k4⟩
    case measure=>simp[intOf];omega
  ·obtain rfl:k=c.length:=by omega
   rw[List.take_length] at hown;go_wp2_with fail;go_ret;exact⟨_,rfl,hown,hb⟩
theorem UD {c:List AU} {e p:Int} {k:Nat} (hk:k<c.length) (h:∀j,j<k→Ay e p (Ae c j)=false) (hp:Ay e p (Ae c k)=true):Eu c e p=(k:Int):=by
 have g:∀j (hj:j<c.length),c[j]=Ae c j:=fun j hj=>by have:=F5 hj;rw[List.getElem?_eq_getElem hj] at this;exact So_ this
 unfold Eu;rw[if_pos (Ob (F5 hk) hp)];have:c.findIdx (Ay e p)=k:=by
  rw[List.findIdx_eq hk];exact⟨by rw[g k hk];exact hp,fun j hj=>by rw[g j (by omega)];exact h j hj⟩
 rw[this]
theorem Sv {c:List AU} {e p:Int} (h:∀j,j<c.length→Ay e p (Ae c j)=false):Eu c e p= -1:=by
 unfold Eu;rw[if_neg];rw[KJ (fun k hk=>F5 hk) h];simp
theorem MW (v:Value) (c:List AU) (e p:Int) (w:World) (h:Bh w v c):Calls prog 108 #[v, .int .i64 e, .int .i64 p] w fun r w'=>r= .returned (.int .i64 (Eu c e p))∧Below w.heap.size w w':=by
 obtain⟨a,cp,rfl,hc,hcm,H⟩:=A6.open BP (by decide) h;unfold maxLen at hcm;have HH:=AA H;clear h H;go_in;go_wp2_with fail;go_loopw [7] (fun ix wr=>∃k:Nat,k≤c.length∧ix= .int .i64 k∧(∀j,j<k→Ay e p (Ae c j)=false)∧Below w.heap.size w wr) (fun ix _=>c.length - (intOf ix).toNat)
 case atStart=>exact⟨0,Nat.zero_le _,rfl,fun j hj=>absurd hj (Nat.not_lt_zero _),Below.refl _ _⟩
 case round=>
  obtain⟨k,hk,rfl,hpre,hb⟩:=hrel;have Hpre:=AA hpre;clear hpre
  by_cases hlt:k<c.length
  ·have hlti:(k:Int)<(c.length:Int):=by omega
   obtain⟨b,off,rfl,hbl,D0,D1,D2,D3⟩:=(HH.out.below hb).cachedCells hlt;have SE:Ay e p (Ae c k)=(decide ((Ae c k).e=e)&&decide ((Ae c k).p=p)):=rfl;have FA:=AA (fun hp=>UD (e:=e) (p:=p) hlt Hpre.out hp);have NE:=AA (fun hp=>BK Hpre.out (show Ay e p (Ae c k)=false from hp));rw[SE] at FA NE;clear SE;generalize Ae c k=x at D0 D1 D2 D3 FA NE
   by_cases h1:x.e=e
   ·have t1:(x.e==e)=true:=by simp[h1]
    by_cases h2:x.p=p
    ·have t2:(x.p==p)=true:=by simp[h2]
     have S:=AA (FA.out (by simp[h1,h2]));clear FA NE h1 h2;go_wp2_with fail;go_ret;exact⟨BQ S.out.symm,hb⟩
    ·have t2:(x.p==p)=false:=by simp[h2]
     have N:=AA (NE.out (by simp[h2]));clear FA NE h1 h2;go_wp2_with fail;go_roundw
     case rel=>exact⟨k+1,by omega,by go_num,N.out,hb⟩
     case measure=>simp[intOf];omega
   ·have t1:(x.e==e)=false:=by simp[h1]
    have N:=AA (NE.out (by simp[h1]));clear FA NE h1;go_wp2_with fail;go_roundw
    case rel=>exact⟨k+1,by omega,by go_num,N.out,hb⟩
    case measure=>simp[intOf];omega
  ·obtain rfl:k=c.length:=by omega
   have S:=AA (Sv Hpre.out);go_wp2_with fail;go_ret;exact⟨BQ S.out.symm,hb⟩
theorem TP {ss:List ByteArray} {k:Nat} (h:k<ss.length):ss[k]? =some (Bi ss k):=FV h
theorem QA (v:Value) (ss:List ByteArray) (s:ByteArray) (w:World) (h:BG w v ss) (hs:Dr ss) (hz:s.size≤maxLen) (hl:ss.length≤100):Calls prog 106 #[v, .string s] w fun r w'=>∃v',r= .returned v'∧AC w.heap.size 9 1 Ag w' v' (A9 ss s)∧Below w.heap.size w w':=by
 obtain⟨a,cp,rfl,hc,hcm,H⟩:=A6.open DE (by decide) h;unfold maxLen at hcm;have HH:=AA H;have HS:=AA (And.intro hs hz);have bA:=AF w (.cells #[] 9);have o1:=Bw Ag w 9 1;clear h H hs hz;go_in;go_wp2_with fail;generalize w.alloc (.cells #[] 9)=wa at o1 bA ⊢;generalize(Value.slice (some ⟨w.heap.size,0,none⟩) 0 0)=o at o1 ⊢;go_loopw [5,6] (fun o ix wr=>∃k:Nat,k≤ss.length∧ix= .int .i64 k∧AC w.heap.size 9 1 Ag wr o ((ss.take k).filter (fun r=>!Kw s r))∧Below w.heap.size w wr) (fun _ ix _=>ss.length - (intOf ix).toNat)
 case atStart=>exact⟨0,Nat.zero_le _,rfl,o1,bA⟩
 case round=>
  clear o1 bA;obtain⟨k,hk,rfl,hown,hb⟩:=hrel
  by_cases hlt:k<ss.length
  ·have hlti:(k:Int)<(ss.length:Int):=by omega
   obtain⟨b,off,rfl,D⟩:=(HH.out.below hb).str hlt;have C:=AA (Jl s (Bi ss k) wr HS.out.2 (HS.out.1 _ (List.mem_of_getElem? (FV hlt))));have Nx:=AA (Iz (p:=fun r=>!Kw s r) (TP hlt));have hnl:=GN (p:=fun r=>!Kw s r) (l:=ss) (k:=k);generalize Bi ss k=x at D Nx C;generalize(ss.take k).filter (fun r=>!Kw s r)=ys at hown Nx hnl;have Hown:=AA hown;obtain⟨_,_,rfl,_⟩:=hown.rd.shape;clear hown;cases hp:!Kw s x
   ·have Nx':=AA (show(ss.take (k+1)).filter (fun r=>!Kw s r)=ys by rw[Nx.out,hp];simp)
    have Hp:=AA hp;clear hp Nx;go_wp2_with fail;refine C.out.mono ?_;rintro e w2 ⟨rfl,rfl⟩;rw[show Kw s x=!false by rw[←Hp.out];simp];go_wp2_with fail;go_roundw
    case rel=>exact⟨k+1,by omega,by go_num,by rw[Nx'.out];exact Hown.out,hb⟩
    case measure=>simp[intOf];omega
   ·have Nx':=AA (show(ss.take (k+1)).filter (fun r=>!Kw s r)=ys++[x] by rw[Nx.out,hp];simp)
    have Hp:=AA hp;clear hp Nx;go_wp2_with fail;refine C.out.mono ?_;rintro e w2 ⟨rfl,rfl⟩;rw[show Kw s x=!true by rw[←Hp.out];simp];go_wp2_with (at_builtin;go_must (refine BX (lo:=w.heap.size) (n:=ys.length) (xs:=Bf Ag ys) (m:=1) (news:=[.string x]) rfl rfl 9 (.string ⟨#[]⟩) 1 16 underlying40 Tryz.infoStringK rfl (by decide) rfl (Bn (Hown.out) (AF _ _)) rfl (Rd.newsAt _ #[.string x] _ 1 1 _ rfl (by simp) (by simp[maxLen])) (by simp[Value.oneCell']) (by unfold maxLen;omega) (by omega) (by have:=(hb).size;simp;omega) ?_;intro o' w9 k1 k2 k3 k4));go_roundw
    case rel=>exact⟨k+1,by omega,by go_num,by rw[Nx'.out];unfold AC;rw[BN,Dn,List.length_append];exact k1,((hb).alloc (hb).size _).trans k4⟩
    case measure=>simp[intOf];omega
  ·obtain rfl:k=ss.length:=by omega
   rw[List.take_length] at hown;go_wp2_with fail;go_ret;exact⟨_,rfl,hown,hb⟩
theorem EZ {α:Type} {cs:α→List Value} {lo:Nat} {w:World} {ops:Array Oper} {rest:List Oper} {o:Oper} {a:Act} {Q:Exit→Act→World→Prop} {s x:Operand} {t:TypeId}
 (hgd:o.guard=none) (ho:o.op= .call {callee:= .builtin .append,args:= #[s,x],argTypes:= #[t,t]})
 (e:TypeId) (z:Value) (sz bytes:Nat) (ht:prog.underlying t=some (.slice e)) (hi:(prog.info? e).map (fun i=>(i.zero,i.size,i.bytes))=some (some z,sz,bytes))
 (hzs:z.cells.size=sz) (hsz:0<sz) {v u:Value} {xs:List α} (hs:a.eval s=v) (hown:AC lo e sz cs w v ([]:List α))
 (hx:a.eval x=u) (hr:A6 sz cs w u xs) (h1:∀u∈Bf cs xs,u.oneCell'=true) (h63:xs.length≤1048576) (hbytes:bytes≤1048576) (hlo:lo≤w.heap.size)
 (hK:∀v' w',AC lo e sz cs w' v' xs→Below lo w w'→wpList prog ops Q rest (a.put o.dst v') w'):wpList prog ops Q (o::rest) a w:=by
 refine BX hgd ho e z sz bytes ht hi hzs hsz hs hown hx hr h1 ?_ ?_ hlo fun v' w' k1 _ _ k4=>hK v' w' ?_ k4
 ·unfold maxLen;simp only[List.length_nil];omega
 ·simp only[List.length_nil]
  have h1:=Nat.mul_le_mul_right bytes (show 0+xs.length≤1048576 by omega);have h2:=Nat.mul_le_mul_left 1048576 hbytes;omega
 ·unfold AC
  have:([]:List α).length+xs.length=xs.length:=by simp
  rw[this] at k1;exact k1
theorem Dy (xs:List AL):∀u∈Bf AX xs,u.oneCell'=true:=by
 intro u hu;obtain⟨s,_,hs⟩:=List.mem_flatMap.1 hu;simp[AX] at hs
 rcases hs with rfl|rfl|rfl<;>rfl
theorem JD (xs:List AU):∀u∈Bf AJ xs,u.oneCell'=true:=by
 intro u hu;obtain⟨s,_,hs⟩:=List.mem_flatMap.1 hu;simp[AJ] at hs
 rcases hs with rfl|rfl|rfl|rfl<;>rfl
theorem FN (xs:List ByteArray):∀u∈Bf Ag xs,u.oneCell'=true:=by
 intro u hu;obtain⟨s,_,hs⟩:=List.mem_flatMap.1 hu;simp[Ag] at hs
 rcases hs with rfl<;>rfl
theorem UK (v:Value) (m:List (List Int)) (f:Nat) (w:World) (h:BI w v m) (hm:Bq m=true) (hf:f<12):Calls prog 209 #[v, .int .i64 f] w fun e w'=>e= .returned (.bool true)∧Below w.heap.size w w':=by have C:=LC v m w h;rw[hm] at C;have HC:=AA C;have E:Bv (f:Int) 0 11=true:=Ac.2 (by omega);have HE:=AA E;clear C h hm E;go_in;go_wp2_with fail;refine HC.out.mono ?_;rintro e w1 ⟨rfl,b1⟩;go_wp2_with fail;refine(CY _ _).mono ?_;rintro e w2 ⟨rfl,rfl⟩;rw[HE.out];go_wp2_with fail;go_ret;exact⟨rfl,b1⟩
theorem LM (v iv:Value) (m:List (List Int)) (xs:List AL) (f:Nat) (w:World) (h:BI w v m) (hm:Bq m=true) (hI:BH w iv xs) (hio:A3 xs=true) (hf:f<12):Calls prog 183 #[v,iv, .int .i64 f] w fun e w'=>e= .returned (.bool true)∧Below w.heap.size w w':=by
 have C1:=AA (UK v m f w h hm hf);have C2:=AA (fun W (hW:Below w.heap.size w W)=>by have:=Dl iv xs W (A6.below hI hW) (Be hio);rw[hio] at this;exact this);clear h hm hI hio;go_in;go_wp2_with fail;refine C1.out.mono ?_;rintro e w1 ⟨rfl,b1⟩;go_wp2_with fail;refine(C2.out _ b1).mono ?_;rintro e w2 ⟨rfl,b2⟩;go_wp2_with fail;go_ret;exact⟨rfl,b1.trans (b2.mono b1.size)⟩
theorem Mp (v:Value) (xs:List AL) (g:ByteArray) (f:Nat) (w:World) (h:BH w v xs) (hok:A3 xs=true) (hg:Az g=true) (hfr:Cs xs=(f:Int)) (hf:f<12):
 Calls prog 91 #[v, .string g] w fun e w'=>∃v',e= .returned (.tuple #[v', .int .i64 f, .bool true])∧AC w.heap.size 91 3 AX w' v' (xs.set f ⟨1,g,0⟩)∧Below w.heap.size w w':=by
 have hl:=(Au.1 hok).1;have c0:=LL v xs w h;rw[hfr] at c0;have C0:=AA c0;have hg4:=Hy hg;have hgm:g.size≤maxLen:=by unfold maxLen;omega
 have C1:=AA (fun W (hW:Below w.heap.size w W)=>by have:=Dl v xs W (A6.below h hW) (Be hok);rw[hok] at this;exact this);have C2:=AA (fun W=>by have:=DN g W hgm;rw[hg] at this;exact this);have HR:=AA (fun W (hW:Below w.heap.size w W)=>A6.below h hW);obtain⟨a,c,rfl,hc,hcm⟩:=h.shape;have Hl:=AA hl;have hl12:xs.length≤12:=by omega
 clear h hok hg hfr c0 hgm hg4 hl;go_in;go_wp2_with fail;refine C0.out.mono ?_;rintro e w0 ⟨rfl,b0⟩;go_wp2_with fail;refine(C1.out _ b0).mono ?_;rintro e w1 ⟨rfl,b1⟩;have hb1:=b0.trans (b1.mono b0.size);go_wp2_with fail;refine(C2.out _).mono ?_;rintro e w1 ⟨rfl,rfl⟩;have Hb1:=AA hb1;go_wp2_with (at_builtin;go_must (refine EZ (cs:=AX) rfl rfl 91 (.agg #[.int .i64 0, .string ⟨#[]⟩, .int .i64 0]) 3 32 underlying23 Tryz.infoInfoK rfl (by decide) rfl (Bw AX _ _ _) rfl (HR.out _ (hb1.trans ((AF _ _).mono hb1.size))) (Dy _) (by omega) (by decide) (by simp) ?_;intro v' w9 hO hb9));have hb2:=(Hb1.out.trans ((AF _ _).mono Hb1.out.size)).trans (hb9.mono Hb1.out.size);obtain⟨q,cap,rfl,c1,c2,q1,q2,hfz⟩:=hO.shapeOwn (by have:=Hl.out;omega);have hS:=AA (AC.stored Ak hO (show f<xs.length by have:=Hl.out;omega) ⟨1,g,0⟩);obtain⟨d0,d1,d2⟩:=AC.infoCells hO (show f<xs.length by have:=Hl.out;omega);have hB:=AA (AN hb2 hS.out.2 (Nat.le_trans Hb1.out.size q1) hb2.size);have hlo:=Hb1.out.size;have hfl:(f:Int)<xs.length:=by have:=Hl.out;omega
 unfold maxLen at c2;have hn0:¬(f:Int)<0:=by omega
 clear hO hb9 hb1 b0 b1 hb2 hl12;go_wp2_with fail;go_ret3;exact⟨_,rfl,hS.out.1.lower hlo,hB.out⟩
end Go.Proofs.YteocokgpmgfbaaaGreatDoor
