/-
  Packed:6 texts.
-/
import Derived.Test.YtnieoiclifjoaaaGreatDoorY10
import Derived.Test.YtnieoiclifjoaaaGreatDoorY5
import Derived.Test.YtnieoiclifjoaaaGreatDoorY7
import Derived.Test.YtnieoiclifjoaaaGreatDoorY6
set_option linter.unusedVariables false
set_option maxHeartbeats 16000000
set_option maxRecDepth 100000
namespace Go.Proofs.YtnieoiclifjoaaaGreatDoor
open Go.Proofs.Tryz
open Go.RowKit
theorem NC (v:Value) (m:List (List Int)) (w:World) (h:BJ w v m) (hml:m.length=16) (hok:∀k,k<16→(AL m k).length≤4):
 Calls prog 96 #[v] w fun e w'=>∃v' vs,e= .returned v'∧Ah w.heap.size w' v' vs m∧Below w.heap.size w w':=by
 obtain⟨vs,h1,h2⟩:=h;have hvl:vs.length=16:=by rw[h2.1,hml]
 have CC:=AA (J6 v vs w h1 (by omega) (OZ h2));have CI:=AA (fun k (hk:k<16) W (hW:Below w.heap.size w W)=>IU (vs.getD k (.bool false)) (AL m k) W (Ap.below (h2.2 k _ _ (A8 (by omega)) (by unfold AL;exact A8 (by omega))) hW) (by have:=hok k hk;omega));have SH:=AA (fun k (hk:k<16)=>(by obtain⟨a,c,e,_⟩:=(h2.2 k _ _ (A8 (d:=Value.bool false) (by omega)) (A8 (d:=[]) (by omega))).open;exact⟨a,_,c,e⟩:∃a n c,vs.getD k (.bool false)= .slice a n c));have Hvl:=AA hvl;have Hml:=AA hml;obtain⟨ai,ci,rfl,_,_⟩:=h1.shape;clear h1 h2 hok hml;rw[hvl] at CC ⊢;clear hvl;go_in;go_wp2_with fail;refine(CC.out).mono ?_;rintro e w1 ⟨v',rfl,hO,hb1⟩;obtain⟨g,cap,rfl,c1,c2,q1,q2,hfz⟩:=hO.shapeOwn (by have:=Hvl.out;omega);unfold maxLen at c2;rw[Hvl.out] at hO c1 ⊢;have HO:=AA hO;have HB:=AA hb1;clear hO hb1 hfz;go_wp2_with fail;go_loopw [10] (fun i wr=>∃us:List Value,us.length≤16∧i= .int .i64 us.length∧Er w.heap.size wr (.slice (some ⟨g,0,none⟩) 16 cap) us (vs.drop us.length) m∧Below w.heap.size w wr) (fun i _=>16 - (intOf i).toNat)
 case atStart=>exact⟨[],by simp,rfl,⟨HO.out,FP.nil,CJ.nil⟩,HB.out⟩
 case round=>
  obtain⟨us,hk,rfl,hH,hbel⟩:=hrel
  by_cases hlt:us.length<16
  ·have hlv:us.length<vs.length:=by rw[Hvl.out];exact hlt
   have ed:vs.drop us.length=vs.getD us.length (.bool false)::vs.drop (us.length+1):=by
    rw[List.drop_eq_getElem_cons hlv]
    congr 1
    simp[hlv]
   rw[ed] at hH;have hlen:(us++vs.getD us.length (.bool false)::vs.drop (us.length+1)).length=16:=by have:=Hvl.out;simp only[List.length_append,List.length_cons,List.length_drop];omega
   have hH1:=hH.1;rw[←hlen] at hH1;have D:=AJ.cellsAt EG hH1 (k:=us.length) (x:=vs.getD us.length (.bool false)) (by simp) 0 _ rfl;rw[Nat.mul_one,Nat.add_zero] at D;have C:=CI.out _ hlt wr hbel;have hr:m[us.length]? =some (AL m us.length):=by unfold AL;exact A8 (by rw[Hml.out];exact hlt)
   have HH:=AA hH;have HR:=AA hr;have CH:=AA C;have Hlen:=AA hlen;have hfz:=World.ownsRow.frozenAt hH1 us.length;have c12:(16:Int)≤cap:=by omega
   clear hH hH1 hr C ed hlen;generalize hu0:vs.getD us.length (.bool false)=u0 at*;obtain⟨a0,n0,c0,rfl⟩:∃a n c,u0= .slice a n c:=by have:=SH.out _ hlt;rwa [hu0] at this
   go_wp2_with fail;refine(CH.out).mono ?_;rintro e w2 ⟨u,rfl,hu,hb2⟩;have D2:=(hb2.cell (p:=⟨g,us.length,none⟩) (World.block_lt_of_cell? wr _ D)).trans D;have hfz2:=(hb2.frozen (p:=⟨g,us.length,none⟩) (World.block_lt_of_cell? wr _ D)).trans hfz;have ST:=AA (Er.step HH.out Hlen.out.symm hb2 hbel.size hu HR.out);have HB2:=AA (AT (hbel.trans (hb2.mono hbel.size)) ST.out.2 q1 (Nat.le_trans hbel.size hb2.size));obtain⟨a9,c9,rfl,_⟩:=hu.rd.open;clear D hfz hu hb2 hbel;go_wp2_with fail;go_roundw
   case rel=>refine⟨us++[.slice a9 (AL m us.length).length c9],by rw[List.length_append,List.length_singleton];omega,by rw[List.length_append,List.length_singleton];go_num,?_,HB2.out⟩;rw[List.length_append,List.length_singleton];exact ST.out.1
   case measure=>simp[intOf];omega
  ·have e12:us.length=16:=by omega
   rw[List.drop_eq_nil_of_le (by rw[e12,Hvl.out];exact Nat.le_refl _)] at hH;have R:=AA (hH.whole (by rw[e12,Hml.out]));clear hH;go_wp2_with fail;go_ret;exact⟨_,us,rfl,R.out,hbel⟩
theorem JN.shapes {lo:Nat} {w:World} {m i e c s l q:Value} {P:BO} (h:JN lo w m i e c s l q P):((∃a n q,m= .slice a n q)∧(∃a n q,i= .slice a n q)∧(∃a n q,e= .slice a n q)∧∃a n q,c= .slice a n q)∧(∃a n q,s= .slice a n q)∧(∃a n q,l= .slice a n q)∧∃a n r,q= .slice a n r:=by obtain⟨h1,⟨_,h2⟩,h3,h4,_⟩:=h;obtain⟨_,_,rfl,_,_⟩:=h2.1.rd.shape;obtain⟨_,_,rfl,_,_⟩:=h3.rd.open;obtain⟨_,_,rfl,_,_⟩:=h4.rd.shape;exact⟨h1.shapes,⟨_,_,_,rfl⟩,⟨_,_,_,rfl⟩,⟨_,_,_,rfl⟩⟩
theorem Uv {P:BO} (h:KO P):P.swap.length=16∧∀k,k<16→(AL P.swap k).length≤4:=by
 refine⟨h.swapl,fun k hk=>?_⟩
 rcases h.swapr k hk with e|e
 ·rw[e];exact Nat.zero_le _
 ·have:=(BG.1 e).1;omega
section
variable {w:World} {g t:Nat} {a0 a1 a2 a3 a4 a5 a6 a7 a8 b0 b1 b2 b3 b4 b5 b6 b7 b8:Value}
def MF (w:World) (g:Nat) (b0 b1 b2 b3 b4 b5 b6:Value):World:=((((((w.setCell ⟨g,0,none⟩ b0).setCell ⟨g,1,none⟩ b1).setCell ⟨g,2,none⟩ b2).setCell ⟨g,3,none⟩ b3).setCell ⟨g,4,none⟩ b4).setCell ⟨g,5,none⟩ b5).setCell ⟨g,6,none⟩ b6
theorem U2 (h:w.heap[g]? =some (.cells #[a0,a1,a2,a3,a4,a5,a6,a7,a8] t (0,0))):(((w.setCell ⟨g,4,none⟩ b4).setCell ⟨g,5,none⟩ b5).setCell ⟨g,6,none⟩ b6).heap[g]? =some (.cells #[a0,a1,a2,a3,b4,b5,b6,a7,a8] t (0,0)):=by have h4:=heap_setCell_same _ g 4 _ t b4 h;have h5:=heap_setCell_same _ g 5 _ t b5 h4;have h6:=heap_setCell_same _ g 6 _ t b6 h5;simpa using h6
theorem SL:w.grownBy (((w.setCell ⟨g,4,none⟩ b4).setCell ⟨g,5,none⟩ b5).setCell ⟨g,6,none⟩ b6) (some g):=Ab (Ab (Al _ _ _ _) _ _) _ _
theorem U3 (h:w.heap[g]? =some (.cells #[a0,a1,a2,a3,a4,a5,a6,a7,a8] t (0,0))):(MF w g b0 b1 b2 b3 b4 b5 b6).heap[g]? =some (.cells #[b0,b1,b2,b3,b4,b5,b6,a7,a8] t (0,0)):=by have h0:=heap_setCell_same w g 0 _ t b0 h;have h1:=heap_setCell_same _ g 1 _ t b1 h0;have h2:=heap_setCell_same _ g 2 _ t b2 h1;have h3:=heap_setCell_same _ g 3 _ t b3 h2;have h4:=heap_setCell_same _ g 4 _ t b4 h3;have h5:=heap_setCell_same _ g 5 _ t b5 h4;have h6:=heap_setCell_same _ g 6 _ t b6 h5;unfold MF;simpa using h6
theorem SN:w.grownBy (MF w g b0 b1 b2 b3 b4 b5 b6) (some g):=by unfold MF;exact Ab (Ab (Ab (Ab (Ab (Ab (Al _ _ _ _) _ _) _ _) _ _) _ _) _ _) _ _
theorem Jj (h:w.heap[g]? =some (.cells #[a0,a1,a2,a3,a4,a5,a6,a7,a8] t (0,0))):(((MF w g b0 b1 b2 b3 b4 b5 b6).setCell ⟨g,7,none⟩ b7).setCell ⟨g,8,none⟩ b8).heap[g]? =some (.cells #[b0,b1,b2,b3,b4,b5,b6,b7,b8] t (0,0)):=by have h7:=heap_setCell_same _ g 7 _ t b7 (U3 (b0:=b0) (b1:=b1) (b2:=b2) (b3:=b3) (b4:=b4) (b5:=b5) (b6:=b6) h);have h8:=heap_setCell_same _ g 8 _ t b8 h7;simpa using h8
theorem IC:w.grownBy (((MF w g b0 b1 b2 b3 b4 b5 b6).setCell ⟨g,7,none⟩ b7).setCell ⟨g,8,none⟩ b8) (some g):=Ab (Ab SN _ _) _ _
end
def Bq (m i e c s l q:Value) (h n:Int):Value:= .agg #[m,i,e,c,s,l,q, .int .i64 h, .int .i64 n]
def VI (w:World) (P:BO) (r:Ending) (w':World):Prop:=∃m i e c s l q,r= .returned (Bq m i e c s l q P.hand P.limit)∧JN w.heap.size w' m i e c s l q P∧Below w.heap.size w w'
theorem Sx {lo:Nat} {v m i e c s:Value} {w w':World} {k:AN} {vs:List Value} {xss:List (List Int)} (h:Is lo v w k) (E:v= .agg #[m,i,e,c]) (o:Ah w.heap.size w' s vs xss):Fa m s:=by obtain⟨m1,i1,e1,c1,rfl,⟨us,h1⟩,_⟩:=h;simp only[Value.agg.injEq,Array.mk.injEq,List.cons.injEq,and_true] at E;obtain⟨rfl,_⟩:=E;intro b hb hb';have:=(World.ownsRow.lt h1.1 b hb).2;have:=(World.ownsRow.lt o.1 b hb').1;omega
theorem Ux (mv iv ev cv sv lv qv:Value) (P:BO) (w:World) (h:Qz w mv iv ev cv sv lv qv P) (hP:KO P):
 Calls prog 43 #[Bq mv iv ev cv sv lv qv P.hand P.limit] w (VI w P):=by
 unfold Bq;obtain⟨B0,B1,hb0,hs0⟩:=SS w (.cells #[mv,iv,ev,cv,sv,lv,qv, .int .i64 P.hand, .int .i64 P.limit] 33) (.cells #[.slice none 0 0, .slice none 0 0, .slice none 0 0, .slice none 0 0, .slice none 0 0, .slice none 0 0, .slice none 0 0, .int .i64 0, .int .i64 0] 33);have h':=h.below hb0;have hsw:=Uv hP;go_in;go_wp2_with fail;generalize(w.alloc _).alloc _=W0 at*;have C1:=AA (fun W (hW:Below W0.heap.size W0 W)=>PY mv iv ev cv P.kern W (h'.1.below hW) hP.k);have C2:=AA (fun W (hW:Below W0.heap.size W0 W)=>NC sv P.swap W (h'.2.1.below hW) hsw.1 hsw.2);have C3:=AA (fun W (hW:Below W0.heap.size W0 W)=>IU lv P.low W (h'.2.2.1.below hW) (by rw[hP.lowl];omega));have C4:=AA (fun W (hW:Below W0.heap.size W0 W)=>Nf qv P.pages W (A3.below h'.2.2.2 hW) (by rw[hP.pagel];omega));have HB0:=AA B0;have HB1:=AA B1;have Hb0:=AA hb0;obtain⟨x0,x1,x2,x3,x4,x5,x6,x7,x8⟩:=Ad B0;have hl0:w.heap.size<W0.heap.size:=by omega
 clear h h' hsw B0 B1 hb0 x7 x8 hP;refine Nb 13 mixed (by kernel_rfl) 20 rfl (by kernel_rfl) 2 5 (by kernel_rfl) (by decide) (by decide) (fun V1 V2=>∀m i e c,V1= .agg #[m,i,e,c]→Fa m V2) (fun ix vv ww=>match ix with
  |0=>vv= .pointer (some ⟨w.heap.size,0,none⟩)
  |1=>vv= .agg #[mv,iv,ev,cv]
  |2=>Is W0.heap.size vv ww P.kern
  |3=>vv= .pointer (some ⟨w.heap.size,4,none⟩)
  |4=>vv=sv
  |5=>∃vs',Ah W0.heap.size ww vv vs' P.swap
  |6=>vv= .pointer (some ⟨w.heap.size,5,none⟩)
  |7=>vv=lv
  |8=>AE W0.heap.size ww vv P.low
  |9=>vv= .pointer (some ⟨w.heap.size,6,none⟩)
  |10=>vv=qv
  |11=>AJ W0.heap.size 127 3 Dg ww vv P.pages
  |12=>vv= .pointer (some ⟨w.heap.size,0,none⟩)
  |_=>True) ?_ ?_ ?_ ?_
 ·intro i hi vv wz ww' hbz hz
  match i,hi with
  |0,_|1,_=>exact hz
  |2,_=>exact(Is.below hz hbz)
  |3,_|4,_=>exact hz
  |5,_=>exact(by obtain⟨vs',h'⟩:=hz;exact⟨vs',h'.below hbz⟩)
  |6,_|7,_=>exact hz
  |8,_=>exact(AE.below hz hbz)
  |9,_|10,_=>exact hz
  |11,_=>exact(AJ.below hz hbz)
  |12,_=>exact hz
 ·intro i hi his o ho a wx Hb Hd hG K HK
  match i,hi,his with
  |0,_,_=>exact eF ho HK PJ (eb (Aj Hb 1))
  |1,_,_=>exact eL ho HK (et (AD Hd 0)) (PV (bc hG hl0 x0) (bc hG hl0 x1) (bc hG hl0 x2) (bc hG hl0 x3))
  |2,_,_=>obtain rfl:=So_ ho;have d1:(a.tmps[4]?.getD undef)= .agg #[mv,iv,ev,cv]:=AD Hd 1;clear Hd Hb;refine AI.of rfl ?_;go_simp;refine(C1.out _ hG).mono ?_;rintro r w_ ⟨m',i',e',c',rfl,hO,hb2⟩;exact HK.out _ _ ⟨m',i',e',c',rfl,hO.lower hG.size⟩ hb2
  |3,_,_=>exact eF ho HK Vo (eb (Aj Hb 1))
  |4,_,_=>exact eL ho HK (et (AD Hd 3)) (Fd (bc hG hl0 x4))
  |5,_,hs=>exact absurd rfl hs
  |6,_,_=>exact eF ho HK UY (eb (Aj Hb 1))
  |7,_,_=>exact eL ho HK (et (AD Hd 6)) (Qh (bc hG hl0 x5))
  |8,_,_=>obtain rfl:=So_ ho;have d7:(a.tmps[10]?.getD undef)=lv:=AD Hd 7;clear Hd Hb;refine AI.of rfl ?_;go_simp;refine(C3.out _ hG).mono ?_;rintro e w_ ⟨v',rfl,hO,hb2⟩;exact HK.out _ _ (BQ hO hG.size) hb2
  |9,_,_=>exact eF ho HK UZ (eb (Aj Hb 1))
  |10,_,_=>exact eL ho HK (et (AD Hd 9)) (Vw (bc hG hl0 x6))
  |11,_,_=>obtain rfl:=So_ ho;have d10:(a.tmps[13]?.getD undef)=qv:=AD Hd 10;clear Hd Hb;refine AI.of rfl ?_;go_simp;refine(C4.out _ hG).mono ?_;rintro e w_ ⟨v',rfl,hO,hb2⟩;exact HK.out _ _ (hO.lower hG.size) hb2
  |12,_,_=>exact eF ho HK PJ (eb (Aj Hb 1))
 ·intro o ho a wx Hb Hd hG K HK
  obtain rfl:=So_ ho;have d4:(a.tmps[7]?.getD undef)=sv:=AD Hd 4;have d2:Is W0.heap.size (a.tmps[5]?.getD undef) wx P.kern:=AD Hd 2;clear Hd Hb;refine AI.of rfl ?_;go_simp;refine(C2.out _ hG).mono ?_;rintro e w_ ⟨v',vs',rfl,hO,hb2⟩;exact HK.out _ _ ⟨vs',hO.lower hG.size⟩ (fun m i e c E=>Sx d2 E hO) hb2
 ·intro vs wx hR hP hG
  have q2:Is W0.heap.size (vs 2) wx P.kern:=BI hR 2;have q5:∃vs',Ah W0.heap.size wx (vs 5) vs' P.swap:=BI hR 5
  have q8:AE W0.heap.size wx (vs 8) P.low:=BI hR 8;have q11:AJ W0.heap.size 127 3 Dg wx (vs 11) P.pages:=BI hR 11;have q12:(vs 12)= .pointer (some ⟨w.heap.size,0,none⟩):=BI hR 12;clear hR;simp only[Ai,AX,List.range,List.range.loop,List.foldl_cons,List.foldl_nil,q12];simp;generalize vs 2=z2 at q2 hP ⊢;generalize vs 5=z5 at q5 hP ⊢;generalize vs 8=z8 at q8 ⊢;generalize vs 11=z11 at q11 ⊢;clear q12;obtain⟨m',i',e',c',rfl,k1⟩:=q2;obtain⟨vs',k2⟩:=q5;have hap:Fa m' z5:=hP _ _ _ _ rfl;have O:=(⟨k1,⟨vs',k2⟩,q8,q11,hap⟩:JN W0.heap.size wx m' i' e' c' z5 z8 z11 P);obtain⟨⟨⟨ma,mn,mc,rfl⟩,⟨ia,iN,ic,rfl⟩,⟨ea,en,ec,rfl⟩,⟨qa,qn,qc,rfl⟩⟩,⟨sa,sn,sc,rfl⟩,⟨la,ln,lc,rfl⟩,⟨pa,pn,pc,rfl⟩⟩:=O.shapes;have B0:=(hG.block _ hl0).trans HB0.out;have B1:=(hG.block (w.heap.size+1) (by omega)).trans HB1.out;obtain⟨x0',x1',x2',x3',x4',x5',x6',x7',x8'⟩:=Ad B0;have f0:=AM B0;go_step;go_simp;have gr1:=BM wx w.heap.size (.slice ma mn mc) (.slice ia iN ic) (.slice ea en ec) (.slice qa qn qc);have B0a:=Ml (m':= .slice ma mn mc) (i':= .slice ia iN ic) (e':= .slice ea en ec) (c':= .slice qa qn qc) B0;have O1:=O.far gr1 B0 (by decide) (by decide) (by decide) (by decide) (by decide) (by decide) (by decide);have B1a:=(gr1.block (w.heap.size+1) (by have:=hG.size;omega) (by intro e;have:=So_ e;omega)).trans B1;have bw:=AT (Hb0.out.trans (hG.mono Hb0.out.size)) gr1 (Nat.le_refl _) (Nat.le_trans Hb0.out.size hG.size);clear O gr1 B0 B1 hG f0 x0' x1' x2' x3' x4' x5' x6' x7' x8' k1 k2 q8 q11 hP hap x0 x1 x2 x3 x4 x5 x6;generalize(((wx.setCell _ _).setCell _ _).setCell _ _).setCell _ _=W1 at*;obtain⟨_,_,_,_,c4,c5,c6,_⟩:=Ad B0a;have f4:=AM B0a;have S2:=U2 (b4:= .slice sa sn sc) (b5:= .slice la ln lc) (b6:= .slice pa pn pc) B0a;have gr2:=SL (w:=W1) (g:=w.heap.size) (b4:= .slice sa sn sc) (b5:= .slice la ln lc) (b6:= .slice pa pn pc);have O2:=O1.far gr2 B0a (by decide) (by decide) (by decide) (by decide) (by decide) (by decide) (by decide);have B1b:=(gr2.block (w.heap.size+1) (Ao B1a) (by intro e;have:=So_ e;omega)).trans B1a;have bw2:=AT bw gr2 (Nat.le_refl _) bw.size;obtain⟨y0,y1,y2,y3,y4,y5,y6,y7,y8⟩:=Ad S2;obtain⟨u0,u1,u2,u3,u4,u5,u6,u7,u8⟩:=Ad B1b;have f1:=AM B1b;have HO2:=AA O2;have HB1b:=AA B1b;have Hbw2:=AA bw2;clear O1 B0a B1a bw gr2 S2 O2 B1b bw2;go_wp2_with fail;clear y0 y1 y2 y3 y4 y5 y6 y7 y8 u0 u1 u2 u3 u4 u5 u6 u7 u8 f1 c4 c5 c6 f4;generalize((W1.setCell _ _).setCell _ _).setCell _ _=W2 at*;have gr3:=IC (w:=W2) (g:=w.heap.size+1) (b0:= .slice ma mn mc) (b1:= .slice ia iN ic) (b2:= .slice ea en ec) (b3:= .slice qa qn qc) (b4:= .slice sa sn sc) (b5:= .slice la ln lc) (b6:= .slice pa pn pc) (b7:= .int .i64 P.hand) (b8:= .int .i64 P.limit);have N3:=Jj (b0:= .slice ma mn mc) (b1:= .slice ia iN ic) (b2:= .slice ea en ec) (b3:= .slice qa qn qc) (b4:= .slice sa sn sc) (b5:= .slice la ln lc) (b6:= .slice pa pn pc) (b7:= .int .i64 P.hand) (b8:= .int .i64 P.limit) HB1b.out
  have O3:=(HO2.out.far gr3 HB1b.out (by decide) (by decide) (by decide) (by decide) (by decide) (by decide) (by decide)).lower Hb0.out.size;have B3:=AT Hbw2.out gr3 (by omega) Hbw2.out.size;unfold MF at gr3 N3 O3 B3;obtain⟨E0,E1,E2,E3,E4,E5,E6,E7,E8⟩:=Ad N3;exact bodyPost_ret (v:= .agg #[_,_,_,_,_,_,_,_,_]) (by simp[results,Tryz.results43,go_sem,E0,E1,E2,E3,E4,E5,E6,E7,E8]) rfl ⟨_,_,_,_,_,_,_,rfl,O3,B3⟩
theorem Ny (v1 v2:Value) (xs:List ByteArray) (w:World) (h1:BC w v1 xs) (h2:BC w v2 xs):
 Calls prog 168 #[v1,v2] w fun e w'=>e= .returned (.bool true)∧∃n,w'=w.drewN n:=by
 obtain⟨a1,c1,rfl,hc1,hcm1,H1⟩:=A3.open EJ (by decide) h1;obtain⟨a2,c2,rfl,hc2,hcm2,H2⟩:=A3.open EJ (by decide) h2;unfold maxLen at hcm1 hcm2;clear h1 h2;have hb:((xs.length:Int) !=xs.length)=false:=by simp
 go_in;go_wp2_with fail;go_loopw [5] (fun i wr=>∃k:Nat,k≤xs.length∧i= .int .i64 k∧∃n,wr=w.drewN n) (fun i _=>xs.length - (intOf i).toNat)
 case atStart=>exact⟨0,Nat.zero_le _,rfl,0,rfl⟩
 case round=>
  obtain⟨k,hk,rfl,n,rfl⟩:=hrel
  by_cases hlt:k<xs.length
  ·have hlti:(k:Int)<(xs.length:Int):=by omega
   obtain⟨b1,o1,rfl,D1⟩:=H1.str hlt;obtain⟨b2,o2,rfl,D2⟩:=H2.str hlt;clear H1 H2;go_wp2_with fail;go_quiet (fail);go_wp2_with fail;go_roundw
   case rel=>exact⟨k+1,by omega,by go_num,_,rfl⟩
   case measure=>simp[intOf];omega
  ·have hlti:¬(k:Int)<(xs.length:Int):=by omega
   go_wp2_with fail;go_ret;exact⟨rfl,_,rfl⟩
theorem Nv (v1 v2:Value) (xs:List AQ) (w:World) (h1:BH w v1 xs) (h2:BH w v2 xs):
 Calls prog 102 #[v1,v2] w fun e w'=>e= .returned (.bool true)∧∃n,w'=w.drewN n:=by
 obtain⟨a1,c1,rfl,hc1,hcm1,H1⟩:=A3.open As (by decide) h1;obtain⟨a2,c2,rfl,hc2,hcm2,H2⟩:=A3.open As (by decide) h2;unfold maxLen at hcm1 hcm2;clear h1 h2;have hb:((xs.length:Int) !=xs.length)=false:=by simp
 go_in;go_wp2_with fail;go_loopw [5] (fun i wr=>∃k:Nat,k≤xs.length∧i= .int .i64 k∧∃n,wr=w.drewN n) (fun i _=>xs.length - (intOf i).toNat)
 case atStart=>exact⟨0,Nat.zero_le _,rfl,0,rfl⟩
 case round=>
  obtain⟨k,hk,rfl,n,rfl⟩:=hrel
  by_cases hlt:k<xs.length
  ·have hlti:(k:Int)<(xs.length:Int):=by omega
   obtain⟨b1,o1,rfl,_,D10,D11,D12⟩:=H1.infoCells hlt;obtain⟨b2,o2,rfl,_,D20,D21,D22⟩:=H2.infoCells hlt;clear H1 H2;go_wp2_with fail;go_quiet (fail);go_wp2_with fail;go_roundw
   case rel=>exact⟨k+1,by omega,by go_num,_,rfl⟩
   case measure=>simp[intOf];omega
  ·have hlti:¬(k:Int)<(xs.length:Int):=by omega
   go_wp2_with fail;go_ret;exact⟨rfl,_,rfl⟩
theorem Nu (v1 v2:Value) (xs:List Aa) (w:World) (h1:Bn w v1 xs) (h2:Bn w v2 xs):
 Calls prog 104 #[v1,v2] w fun e w'=>e= .returned (.bool true)∧∃n,w'=w.drewN n:=by
 obtain⟨a1,c1,rfl,hc1,hcm1,H1⟩:=A3.open Bi (by decide) h1;obtain⟨a2,c2,rfl,hc2,hcm2,H2⟩:=A3.open Bi (by decide) h2;unfold maxLen at hcm1 hcm2;clear h1 h2;have hb:((xs.length:Int) !=xs.length)=false:=by simp
 go_in;go_wp2_with fail;go_loopw [5] (fun i wr=>∃k:Nat,k≤xs.length∧i= .int .i64 k∧∃n,wr=w.drewN n) (fun i _=>xs.length - (intOf i).toNat)
 case atStart=>exact⟨0,Nat.zero_le _,rfl,0,rfl⟩
 case round=>
  obtain⟨k,hk,rfl,n,rfl⟩:=hrel
  by_cases hlt:k<xs.length
  ·have hlti:(k:Int)<(xs.length:Int):=by omega
   obtain⟨b1,o1,rfl,_,D10,D11,D12,D13⟩:=H1.cachedCells hlt;obtain⟨b2,o2,rfl,_,D20,D21,D22,D23⟩:=H2.cachedCells hlt;clear H1 H2;go_wp2_with fail;go_quiet (fail);go_wp2_with fail;go_roundw
   case rel=>exact⟨k+1,by omega,by go_num,_,rfl⟩
   case measure=>simp[intOf];omega
  ·have hlti:¬(k:Int)<(xs.length:Int):=by omega
   go_wp2_with fail;go_ret;exact⟨rfl,_,rfl⟩
theorem Px.pageCells {w:World} {a:Option Addr} {xs:List DI} (h:Px 3 Dg w a xs) {k:Nat} (hk:k<xs.length):∃b off,a=some ⟨b,off,none⟩∧b<w.heap.size∧w.cell? ⟨b,off+k*3,none⟩=some (.int .i64 (AO xs k).w)∧w.cell? ⟨b,off+k*3+1,none⟩=some (.int .i64 (AO xs k).a)∧w.cell? ⟨b,off+k*3+2,none⟩=some (.bool (AO xs k).u):=by obtain⟨b,off,rfl,hbl,hc⟩:=h k _ (show xs[k]? =some (AO xs k) from A8 hk);exact⟨b,off,rfl,hbl,by simpa using hc 0 _ rfl,hc 1 _ rfl,hc 2 _ rfl⟩
theorem Nw (v1 v2:Value) (xs:List DI) (w:World) (h1:A3 3 Dg w v1 xs) (h2:A3 3 Dg w v2 xs):
 Calls prog 51 #[v1,v2] w fun e w'=>e= .returned (.bool true)∧∃n,w'=w.drewN n:=by
 obtain⟨a1,c1,rfl,hc1,hcm1,H1⟩:=A3.open H6 (by decide) h1;obtain⟨a2,c2,rfl,hc2,hcm2,H2⟩:=A3.open H6 (by decide) h2;unfold maxLen at hcm1 hcm2;clear h1 h2;have hb:((xs.length:Int) !=xs.length)=false:=by simp
 go_in;go_wp2_with fail;go_loopw [5] (fun i wr=>∃k:Nat,k≤xs.length∧i= .int .i64 k∧∃n,wr=w.drewN n) (fun i _=>xs.length - (intOf i).toNat)
 case atStart=>exact⟨0,Nat.zero_le _,rfl,0,rfl⟩
 case round=>
  obtain⟨k,hk,rfl,n,rfl⟩:=hrel
  by_cases hlt:k<xs.length
  ·have hlti:(k:Int)<(xs.length:Int):=by omega
   obtain⟨b1,o1,rfl,_,D10,D11,D12⟩:=H1.pageCells hlt;obtain⟨b2,o2,rfl,_,D20,D21,D22⟩:=H2.pageCells hlt;clear H1 H2;go_wp2_with fail;go_quiet (fail);go_wp2_with fail;go_roundw
   case rel=>exact⟨k+1,by omega,by go_num,_,rfl⟩
   case measure=>simp[intOf];omega
  ·have hlti:¬(k:Int)<(xs.length:Int):=by omega
   go_wp2_with fail;go_ret;exact⟨rfl,_,rfl⟩
theorem NH {P:Program} {f:FuncId} {args:Array Value} {w:World} {n:Nat} (h:∀m,Calls P f args (w.drewN m) fun e w'=>e= .returned (.bool true)∧∃j,w'=(w.drewN m).drewN j):∀x,Calls P f args (w.drewN (n+x)) fun e w''=>e= .returned (.bool true)∧∃j,w''=w.drewN (n+j):=by intro x;refine(h (n+x)).mono ?_;rintro e w' ⟨rfl,j,rfl⟩;exact⟨rfl,x+j,by rw[JX,Nat.add_assoc]⟩
theorem KH (v1 v2:Value) (xs:List Int) (w:World) (h1:Ap w v1 xs) (h2:Ap w v2 xs):
 Calls prog 29 #[v1,v2] w fun e w'=>e= .returned (.bool true)∧∃n,w'=w.drewN n:=by
 refine(Pj v1 v2 xs xs w h1 h2).mono ?_;rintro e w' ⟨rfl,h⟩;exact⟨by simp,h⟩
theorem Ji (v1 v2:Value) (xs:List (List Int)) (w:World) (h1:BJ w v1 xs) (h2:BJ w v2 xs):
 Calls prog 50 #[v1,v2] w fun e w'=>e= .returned (.bool true)∧∃n,w'=w.drewN n:=by
 obtain⟨a1,c1,rfl,hc1,hcm1,H1⟩:=h1.open;obtain⟨a2,c2,rfl,hc2,hcm2,H2⟩:=h2.open;unfold maxLen at hcm1 hcm2;clear h1 h2;have hb:((xs.length:Int) !=xs.length)=false:=by simp
 go_in;go_wp2_with fail;go_loopw [5] (fun i wr=>∃k:Nat,k≤xs.length∧i= .int .i64 k∧∃n,wr=w.drewN n) (fun i _=>xs.length - (intOf i).toNat)
 case atStart=>exact⟨0,Nat.zero_le _,rfl,0,rfl⟩
 case round=>
  obtain⟨k,hk,rfl,n,rfl⟩:=hrel
  by_cases hlt:k<xs.length
  ·have hlti:(k:Int)<(xs.length:Int):=by omega
   obtain⟨b1,o1,u1,rfl,_,D1,R1⟩:=H1 k hlt;obtain⟨b2,o2,u2,rfl,_,D2,R2⟩:=H2 k hlt;have HQ:=AA (NH (w:=w) (n:=n) fun m=>KH u1 u2 (AL xs k) (w.drewN m) (R1.below (Ar (Below.refl _ _) m)) (R2.below (Ar (Below.refl _ _) m)));clear H1 H2 R1 R2;go_wp2_with fail;go_quiet ((go_at_call 29;exact HQ.out _));go_wp2_with fail;go_roundw
   case rel=>exact⟨k+1,by omega,by go_num,_,rfl⟩
   case measure=>simp[intOf];omega
  ·have hlti:¬(k:Int)<(xs.length:Int):=by omega
   go_wp2_with fail;go_ret;exact⟨rfl,_,rfl⟩
theorem Pi (v1 v2:Value) (xs:List EM) (w:World) (h1:Fp w v1 xs) (h2:Fp w v2 xs):
 Calls prog 103 #[v1,v2] w fun e w'=>e= .returned (.bool true)∧∃n,w'=w.drewN n:=by
 obtain⟨a1,c1,rfl,hc1,hcm1,H1⟩:=h1.open;obtain⟨a2,c2,rfl,hc2,hcm2,H2⟩:=h2.open;unfold maxLen at hcm1 hcm2;clear h1 h2;have hb:((xs.length:Int) !=xs.length)=false:=by simp
 go_in;go_wp2_with fail;go_loopw [5] (fun i wr=>∃k:Nat,k≤xs.length∧i= .int .i64 k∧∃n,wr=w.drewN n) (fun i _=>xs.length - (intOf i).toNat)
 case atStart=>exact⟨0,Nat.zero_le _,rfl,0,rfl⟩
 case round=>
  obtain⟨k,hk,rfl,n,rfl⟩:=hrel
  by_cases hlt:k<xs.length
  ·have hlti:(k:Int)<(xs.length:Int):=by omega
   obtain⟨b1,o1,ua1,uc1,rfl,_,D10,D11,R1⟩:=H1 k hlt;obtain⟨b2,o2,ua2,uc2,rfl,_,D20,D21,R2⟩:=H2 k hlt;have HQ:=AA (NH (w:=w) (n:=n) fun m=>Ny _ _ (AC xs k).rights (w.drewN m) (A3.below R1 (Ar (Below.refl _ _) m)) (A3.below R2 (Ar (Below.refl _ _) m)));clear H1 H2 R1 R2;go_wp2_with fail;go_quiet ((go_at_call 168;exact HQ.out _));go_wp2_with fail;go_roundw
   case rel=>exact⟨k+1,by omega,by go_num,_,rfl⟩
   case measure=>simp[intOf];omega
  ·have hlti:¬(k:Int)<(xs.length:Int):=by omega
   go_wp2_with fail;go_ret;exact⟨rfl,_,rfl⟩
theorem Fq {P:Program} {f:FuncId} {args:Array Value} {w:World} {v:Ending} (h:Calls P f args w fun e w'=>e=v∧∃n,w'=w.drewN n):Calls P f args w fun e w'=>e=v∧Below w.heap.size w w':=Nm h
theorem NQ (m i e c m' i' e' c':Value) (k:AN) (w:World) (h1:Mb w m i e c k) (h2:Mb w m' i' e' c' k):
 Calls prog 49 #[.agg #[m,i,e,c], .agg #[m',i',e',c']] w fun r w'=>r= .returned (.bool true)∧Below w.heap.size w w':=by
 obtain⟨N0,N1,hb0,hs0⟩:=Ph w (.cells #[m,i,e,c] 29) (.cells #[m',i',e',c'] 29);have H1:=AA (h1.below hb0);have H2:=AA (h2.below hb0);clear h1 h2;go_in;go_wp2_with fail;generalize(w.alloc _).alloc _=W0 at*;have HN:=AA (And.intro N0 N1);have HB0:=AA hb0;obtain⟨x0,x1,x2,x3⟩:=AB N0;obtain⟨y0,y1,y2,y3⟩:=AB N1;clear N0 N1 hb0 hs0;have hb:Below W0.heap.size W0 W0:=Below.refl _ _;go_wp2_with fail;refine(Fq (Ji m m' k.mem _ (H1.out.1.below hb) (H2.out.1.below hb))).mono ?_;rintro r w_ ⟨rfl,hb_⟩;replace hb:=hb.trans (hb_.mono hb.size);clear hb_ x0 x1 x2 x3 y0 y1 y2 y3;obtain⟨x0,x1,x2,x3⟩:=AB (AF HN.out.1 hb);obtain⟨y0,y1,y2,y3⟩:=AB (AF HN.out.2 hb);go_wp2_with fail;refine(Fq (Nv i i' k.infos _ (A3.below H1.out.2.1 hb) (A3.below H2.out.2.1 hb))).mono ?_;rintro r w_ ⟨rfl,hb_⟩;replace hb:=hb.trans (hb_.mono hb.size);clear hb_ x0 x1 x2 x3 y0 y1 y2 y3;obtain⟨x0,x1,x2,x3⟩:=AB (AF HN.out.1 hb);obtain⟨y0,y1,y2,y3⟩:=AB (AF HN.out.2 hb);go_wp2_with fail;refine(Fq (Pi e e' k.envs _ (H1.out.2.2.1.below hb) (H2.out.2.2.1.below hb))).mono ?_;rintro r w_ ⟨rfl,hb_⟩;replace hb:=hb.trans (hb_.mono hb.size);clear hb_ x0 x1 x2 x3 y0 y1 y2 y3;obtain⟨x0,x1,x2,x3⟩:=AB (AF HN.out.1 hb);obtain⟨y0,y1,y2,y3⟩:=AB (AF HN.out.2 hb);go_wp2_with fail;refine(Fq (Nu c c' k.cache _ (A3.below H1.out.2.2.2 hb) (A3.below H2.out.2.2.2 hb))).mono ?_;rintro r w_ ⟨rfl,hb_⟩;replace hb:=hb.trans (hb_.mono hb.size);clear hb_ x0 x1 x2 x3 y0 y1 y2 y3;obtain⟨x0,x1,x2,x3⟩:=AB (AF HN.out.1 hb);obtain⟨y0,y1,y2,y3⟩:=AB (AF HN.out.2 hb);go_wp2_with fail;go_ret;exact⟨rfl,HB0.out.trans (hb.mono HB0.out.size)⟩
theorem KI (m i e c s l q m' i' e' c' s' l' q':Value) (P:BO) (w:World) (h1:Qz w m i e c s l q P) (h2:Qz w m' i' e' c' s' l' q' P):
 Calls prog 18 #[Bq m i e c s l q P.hand P.limit,Bq m' i' e' c' s' l' q' P.hand P.limit] w fun r w'=>r= .returned (.bool true)∧Below w.heap.size w w':=by
 unfold Bq;obtain⟨N0,N1,hb0,hs0⟩:=Ph w (.cells #[m,i,e,c,s,l,q, .int .i64 P.hand, .int .i64 P.limit] 33) (.cells #[m',i',e',c',s',l',q', .int .i64 P.hand, .int .i64 P.limit] 33);have H1:=AA (h1.below hb0);have H2:=AA (h2.below hb0);clear h1 h2;go_in;go_wp2_with fail;generalize(w.alloc _).alloc _=W0 at*;have HN:=AA (And.intro N0 N1);have HB0:=AA hb0;obtain⟨x0,x1,x2,x3,x4,x5,x6,x7,x8⟩:=Ad N0;obtain⟨y0,y1,y2,y3,y4,y5,y6,y7,y8⟩:=Ad N1;clear N0 N1 hb0 hs0;have hb:Below W0.heap.size W0 W0:=Below.refl _ _;go_wp2_with fail;refine(NQ m i e c m' i' e' c' P.kern _ (H1.out.1.below hb) (H2.out.1.below hb)).mono ?_;rintro r w_ ⟨rfl,hb_⟩;replace hb:=hb.trans (hb_.mono hb.size);clear hb_ x0 x1 x2 x3 x4 x5 x6 x7 x8 y0 y1 y2 y3 y4 y5 y6 y7 y8;obtain⟨x0,x1,x2,x3,x4,x5,x6,x7,x8⟩:=Ad (AF HN.out.1 hb);obtain⟨y0,y1,y2,y3,y4,y5,y6,y7,y8⟩:=Ad (AF HN.out.2 hb);go_wp2_with fail;refine(Fq (Ji s s' P.swap _ (H1.out.2.1.below hb) (H2.out.2.1.below hb))).mono ?_;rintro r w_ ⟨rfl,hb_⟩;replace hb:=hb.trans (hb_.mono hb.size);clear hb_ x0 x1 x2 x3 x4 x5 x6 x7 x8 y0 y1 y2 y3 y4 y5 y6 y7 y8;obtain⟨x0,x1,x2,x3,x4,x5,x6,x7,x8⟩:=Ad (AF HN.out.1 hb);obtain⟨y0,y1,y2,y3,y4,y5,y6,y7,y8⟩:=Ad (AF HN.out.2 hb);go_wp2_with fail;refine(Fq (KH l l' P.low _ (H1.out.2.2.1.below hb) (H2.out.2.2.1.below hb))).mono ?_;rintro r w_ ⟨rfl,hb_⟩;replace hb:=hb.trans (hb_.mono hb.size);clear hb_ x0 x1 x2 x3 x4 x5 x6 x7 x8 y0 y1 y2 y3 y4 y5 y6 y7 y8;obtain⟨x0,x1,x2,x3,x4,x5,x6,x7,x8⟩:=Ad (AF HN.out.1 hb);obtain⟨y0,y1,y2,y3,y4,y5,y6,y7,y8⟩:=Ad (AF HN.out.2 hb);go_wp2_with fail;refine(Fq (Nw q q' P.pages _ (A3.below H1.out.2.2.2 hb) (A3.below H2.out.2.2.2 hb))).mono ?_;rintro r w_ ⟨rfl,hb_⟩;replace hb:=hb.trans (hb_.mono hb.size);clear hb_ x0 x1 x2 x3 x4 x5 x6 x7 x8 y0 y1 y2 y3 y4 y5 y6 y7 y8;obtain⟨x0,x1,x2,x3,x4,x5,x6,x7,x8⟩:=Ad (AF HN.out.1 hb);obtain⟨y0,y1,y2,y3,y4,y5,y6,y7,y8⟩:=Ad (AF HN.out.2 hb);go_wp2_with fail;go_ret;exact⟨rfl,HB0.out.trans (hb.mono HB0.out.size)⟩
theorem RF {k:AN} {c:AR} (h:c.k=1):AU k c=Io k c:=by unfold AU;rw[if_pos h]
theorem Qe {lo:Nat} {m iv ev cv:Value} {k:AN} {w:World} (h:Cz lo w m iv ev cv k) (hlo:lo≤w.heap.size) (hk:De k) (call:AR) (he:0≤call.e∧call.e<3) (h2:call.k=1) (hnm:call.nm.size≤maxLen):
 Calls prog 224 #[.agg #[m,iv,ev,cv], .agg call.cs] w (GF lo w (AU k call)):=by
 have S0':=SC.start h hlo call;have P0:AU k call=if A4 call.nm=false then(k,0,3) else if Ca (AC k.envs call.e.toNat).rights call.nm=false then(k,0,1) else if Cy k.infos<0 then(k,0,4) else({k with infos:=k.infos.set (Cy k.infos).toNat ⟨1,call.nm,0⟩,mem:=k.mem.set (Cy k.infos).toNat [0,0,0,0]},Cy k.infos,0):=RF h2
 have hok:=(AW hk).1;have hio:=(AW hk).2.1;obtain⟨gm,capm,rfl,_⟩:=Dm.mems S0' hok;obtain⟨am,nm_,cm,ai,ni,ci,ae,ne_,ce,ac,nc,cc,em,rfl,rfl,rfl⟩:=S0'.shapes;clear em;have S0:=AA S0';obtain⟨kk,e,a,b,c,nm⟩:=call;simp only at he hnm;obtain⟨en,rfl⟩:∃n:Nat,e=(n:Int):=⟨e.toNat,by omega⟩
 simp only[AR.cs,Int.toNat_natCast] at S0 P0 ⊢;have HP:=AA P0;have HK:=AA hk;have CR:=AA (fun W=>Ae (Df nm W hnm));have CM:=AA (fun W (h:Fp W (.slice ae ne_ ce) k.envs)=>GR (.slice (some ⟨gm,0,none⟩) 12 capm) (.slice ai ni ci) (.slice ae ne_ ce) (.slice ac nc cc) k en nm W h hk (by omega) hnm);have CF:=AA (fun W (h:BH W (.slice ai ni ci) k.infos)=>Lp (.slice ai ni ci) k.infos W h);obtain⟨x0,x1,x2,x3⟩:=S0.out.xs;obtain⟨y0,y1,y2,y3,y4,y5⟩:=S0.out.ys6;have Hok:=AA hok;have Hio:=AA hio;generalize hrv:A4 nm=rv at CR HP;generalize hmb:Ca (AC k.envs en).rights nm=mb at CM HP;have Hrv:=AA hrv;clear h h2 S0' he hk hok hio hnm P0 hrv hmb;generalize hW0:((w.alloc _).alloc _).alloc _=W0 at*;go_in;go_wp2_with fail;refine(CR.out _).mono ?_;rintro r w0 ⟨rfl,hb0⟩;have S0:=AA (S0.out.below hb0);clear x0 x1 x2 x3 y0 y1 y2 y3 y4 y5 hb0 hW0;cases rv
 ·have HP3:=AA (show AU k ⟨kk,(en:Int),a,b,c,nm⟩=(k,0,3) by rw[HP.out];rfl)
  clear HP CR CM CF;obtain⟨x0,x1,x2,x3⟩:=S0.out.xs;obtain⟨⟨z0,z1,z2,z3⟩,hfz⟩:=S0.out.zs;obtain⟨hB9,HR9⟩:=S0.out.bad (Nat.le_trans hlo (Nat.le_add_right _ _)) (Nat.le_add_right _ _) (v:=0) (code:=3) (HP3.out) (by decide);have HE:=AA (AB hB9);have HR:=AA HR9;clear hB9 HR9;go_wp2_with ((try simp only[Exit.inBlock,Exit.then]);with_reducible refine bodyPost_ret (v:= .tuple #[.agg #[_,_,_,_], .int .i64 (0), .int .i64 (3)]) ?_ rfl HR.out;obtain⟨E0,E1,E2,E3⟩:=HE.out;simp[results,Tryz.results224,go_sem,E0,E1,E2,E3])
 ·obtain⟨x0,x1,x2,x3⟩:=S0.out.xs
  obtain⟨y0,y1,y2,y3,y4,y5⟩:=S0.out.ys6;go_wp2_with fail;refine(CM.out _ S0.out.K.2.2.1).mono ?_;rintro r w1 ⟨rfl,hb1⟩;have S1:=AA (S0.out.below hb1);clear x0 x1 x2 x3 y0 y1 y2 y3 y4 y5 hb1;cases mb
  ·have HP3:=AA (show AU k ⟨kk,(en:Int),a,b,c,nm⟩=(k,0,1) by rw[HP.out];rfl)
   obtain⟨x0,x1,x2,x3⟩:=S1.out.xs;obtain⟨⟨z0,z1,z2,z3⟩,hfz⟩:=S1.out.zs;obtain⟨hB9,HR9⟩:=S1.out.bad (Nat.le_trans hlo (Nat.le_add_right _ _)) (Nat.le_add_right _ _) (v:=0) (code:=1) (HP3.out) (by decide);have HE:=AA (AB hB9);have HR:=AA HR9;clear hB9 HR9;go_wp2_with ((try simp only[Exit.inBlock,Exit.then]);with_reducible refine bodyPost_ret (v:= .tuple #[.agg #[_,_,_,_], .int .i64 (0), .int .i64 (1)]) ?_ rfl HR.out;obtain⟨E0,E1,E2,E3⟩:=HE.out;simp[results,Tryz.results224,go_sem,E0,E1,E2,E3])
  ·have HP2:=AA (show AU k ⟨kk,(en:Int),a,b,c,nm⟩=if Cy k.infos<0 then(k,0,4) else({k with infos:=k.infos.set (Cy k.infos).toNat ⟨1,nm,0⟩,mem:=k.mem.set (Cy k.infos).toNat [0,0,0,0]},Cy k.infos,0) by rw[HP.out];rfl)
   obtain⟨x0,x1,x2,x3⟩:=S1.out.xs;clear HP;go_wp2_with fail;refine(CF.out _ S1.out.K.2.1).mono ?_;rintro r w2 ⟨rfl,hb2⟩;have S2:=AA (S1.out.below hb2);clear x0 x1 x2 x3 hb2
   by_cases hf0:Cy k.infos<0
   ·have HP3:=AA (show AU k ⟨kk,(en:Int),a,b,c,nm⟩=(k,0,4) by rw[HP2.out,if_pos hf0])
    clear HP2;obtain⟨x0,x1,x2,x3⟩:=S2.out.xs;obtain⟨⟨z0,z1,z2,z3⟩,hfz⟩:=S2.out.zs;obtain⟨hB9,HR9⟩:=S2.out.bad (Nat.le_trans hlo (Nat.le_add_right _ _)) (Nat.le_add_right _ _) (v:=0) (code:=4) (HP3.out) (by decide);have HE:=AA (AB hB9);have HR:=AA HR9;clear hB9 HR9;go_wp2_with ((try simp only[Exit.inBlock,Exit.then]);with_reducible refine bodyPost_ret (v:= .tuple #[.agg #[_,_,_,_], .int .i64 (0), .int .i64 (4)]) ?_ rfl HR.out;obtain⟨E0,E1,E2,E3⟩:=HE.out;simp[results,Tryz.results224,go_sem,E0,E1,E2,E3])
   ·obtain⟨hf1,_,_⟩:=Iy (infos:=k.infos) (by omega)
    obtain⟨f,hf⟩:∃f:Nat,Cy k.infos=(f:Int):=⟨(Cy k.infos).toNat,by omega⟩
    have hf12:f<12:=by have:=HK.out.len;omega
    have HP3:=AA (show AU k ⟨kk,(en:Int),a,b,c,nm⟩=({k with infos:=k.infos.set f ⟨1,nm,0⟩,mem:=k.mem.set f [0,0,0,0]},(f:Int),0) by rw[HP2.out,if_neg hf0,hf];rfl);have CT:=AA (fun W hi=>NM (.slice ai ni ci) k.infos nm f W hi Hio.out Hrv.out hf hf12);obtain⟨x0,x1,x2,x3⟩:=S2.out.xs;obtain⟨y0,y1,y2,y3,y4,y5⟩:=S2.out.ys6;rw[hf];clear HP2 hf hf0 hf1;go_wp2_with fail;refine(CT.out _ S2.out.K.2.1).mono ?_;rintro r w3 ⟨v',rfl,hO,hb3⟩;clear x0 x1 x2 x3 y0 y1 y2 y3 y4 y5;have S3:=AA (S2.out.newInfos hb3 hO);have fzg:=AM (S2.out.below hb3).ink.1;have x1o:=(S2.out.below hb3).xs.2.1;obtain⟨a9,c9,e9,_,_⟩:=hO.rd.shape;generalize List.length _=n9 at e9;subst e9;clear hO hb3;generalize hW9:w3.setCell _ _=W9 at S3;obtain⟨x0,x1,x2,x3⟩:=S3.out.xs;have hlg:=S3.out.lts.2.1;have hfi:(f:Int)<12:=by omega
    have hml:=(Af.1 Hok.out).1;go_wp2_with fail;refine AH 4 mixed (by kernel_rfl) 49 rfl (by kernel_rfl) (fun ix vv ww=>match ix with
     |0=>vv= .pointer (some ⟨w.heap.size,0,none⟩)
     |1=>vv= .slice (some ⟨gm,0,none⟩) 12 capm
     |2=>vv= .int .i64 f
     |3=>AE W9.heap.size ww vv [0,0,0,0]
     |_=>True) ?_ ?_ ?_
    ·intro i hi vv wz ww' hbz hz
     match i,hi with
     |0,_|1,_|2,_=>exact hz
     |3,_=>exact(AE.below hz hbz)
    ·intro i hi o ho a wx Hb Hd hG K HK
     match i,hi with
     |0,_=>exact eF ho HK Ci (eb (Aj Hb 2))
     |1,_=>exact eL ho HK (et (AD Hd 0)) (Fd (bc hG hlg x0))
     |2,_=>exact eM ho HK (eb (Aj Hb 8))
     |3,_=>obtain rfl:=So_ ho;clear Hd Hb;obtain⟨i0,hi0,hz0,hz1,hz2⟩:=info_parts Tryz.infoInt;obtain⟨w9,hrun,h3,h4⟩:=run_make_full (P:=prog) wx wx.heap.size 30 3 i0 _ 1 underlying30 hi0 hz0 hz1 .i64 .i64 4 (by rw[hz2];decide) (by decide) (Nat.le_refl _);have h5:=Below.of_grown h4;rw[Kt (.int .i64 0) rfl 4] at h3;have hrun':(Instr.makeSlice 30 (.int .i64 4) (.int .i64 4)).run prog wx= .ok (.slice (some ⟨wx.heap.size,0,none⟩) 4 4) w9:=hrun;clear hi0 hz0 hz1 hz2 hrun;refine AI.of rfl ?_;go_simp;exact HK.out _ _ (BQ h3 hG.size) h5
    ·intro vs wx hR hG
     have q1:(vs 1)= .slice (some ⟨gm,0,none⟩) 12 capm:=BI hR 1;have q2:(vs 2)= .int .i64 f:=BI hR 2;have q3:AE W9.heap.size wx (vs 3) [0,0,0,0]:=BI hR 3;clear hR;simp only[Ai,AX,List.range,List.range.loop,List.foldl_cons,List.foldl_nil,q1,q2];simp;generalize vs 3=z3 at q3 ⊢;clear q1 q2;have S4:=AA (S3.out.newRow hml.symm hG q3 (by rw[hml];exact hf12));obtain⟨gm2,capm2,gw2,capw2,vs2,e2,_,_,D2,_⟩:=(S3.out.below hG).ink.memRow Hok.out hf12;cases e2;have Fr:=AM (Bf ((S3.out.below hG).ink.2.2.1.choose_spec.1) gm rfl).choose_spec;obtain⟨a9,c9,e9,_,_⟩:=q3.rd.open;rw[show([0,0,0,0]:List Int).length=4 from rfl] at e9;subst e9;generalize hW10:wx.setCell _ _=W10 at S4;clear x0 x1 x2 x3 q3 hG hlg;obtain⟨x0,x1,x2,x3⟩:=S4.out.xs;obtain⟨⟨z0,z1,z2,z3⟩,hfz⟩:=S4.out.zs;obtain⟨hB9,HR9⟩:=S4.out.ret (Nat.le_trans hlo (Nat.le_add_right _ _)) (Nat.le_add_right _ _) (v:=(f:Int)) (code:=0) (HP3.out);have HE:=AA (AB hB9);have HR:=AA HR9;clear hB9 HR9;go_wp2_with ((try simp only[Exit.inBlock,Exit.then]);with_reducible refine bodyPost_ret (v:= .tuple #[.agg #[_,_,_,_], .int .i64 f, .int .i64 (0)]) ?_ rfl HR.out;obtain⟨E0,E1,E2,E3⟩:=HE.out;simp[results,Tryz.results224,go_sem,E0,E1,E2,E3])
theorem Tn {m:List (List Int)} {xs:List AQ} {f:Nat} {kind:Int} {ss:List ByteArray}:(FU m xs f kind ss).2=0∨(FU m xs f kind ss).2=1∨(FU m xs f kind ss).2=2:=by
 unfold FU
 repeat' split
 all_goals simp
theorem Qt {m:List (List Int)} {xs:List AQ} {f:Nat}:(Cw m xs f).2=0∨(Cw m xs f).2=1∨(Cw m xs f).2=2:=by
 unfold Cw
 repeat' split
 all_goals simp
theorem Mx {lo:Nat} {mv iv ev cv:Value} {k:AN} {w:World} (h:Cz lo w mv iv ev cv k) (hlo:lo≤w.heap.size) (hk:De k) (call:AR) (he:0≤call.e∧call.e<3) (h2:call.k=4∨call.k=5):
 Calls prog 227 #[.agg #[mv,iv,ev,cv], .agg call.cs] w (GF lo w (AU k call)):=by
 have S0':=SC.start h hlo call;have P0:=Sz (k:=k) h2;obtain⟨gi,capi,e8,hgi,_⟩:=S0'.infos (by rw[hk.len];omega);rw[hk.len] at e8;obtain⟨am,nm_,cm,ai,ni,ci,ae,ne_,ce,ac,nc,cc,em,ei,ee,ec⟩:=S0'.shapes;subst e8;have Sh:=AA (And.intro em (And.intro ee ec));clear ei em ee ec;have S0:=AA S0';obtain⟨kk,e,a,b,c,nm⟩:=call;simp only at he h2;obtain⟨en,rfl⟩:∃n:Nat,e=(n:Int):=⟨e.toNat,by omega⟩
 have hen:en<3:=by omega
 simp only[AR.cs] at S0 P0 ⊢;have HP:=AA P0;have HK:=AA hk;have Hl:=AA hk.len;obtain⟨x0,x1,x2,x3⟩:=S0.out.xs;obtain⟨y0,y1,y2,y3,y4,y5⟩:=S0.out.ys6;have H2:=AA h2;clear h S0' he hk P0 h2;generalize hW0:((w.alloc _).alloc _).alloc _=W0 at*;cases ha:Bk a 0 11
 ·have HP3:=AA (show AU k ⟨kk,(en:Int),a,b,c,nm⟩=(k,0,3) by rw[HP.out,if_pos (.inl ha)])
  have Ha:=AA ha;obtain⟨rfl,rfl,rfl⟩:=Sh.out;clear ha HP;go_in;go_wp2_with fail;refine(Ae (Cg _ _)).mono ?_;rintro r w1 ⟨rfl,hb1⟩;rw[Ha.out];have S1:=AA (S0.out.below hb1);clear x0 x1 x2 x3 y0 y1 y2 y3 y4 y5 hb1 hW0;obtain⟨x0,x1,x2,x3⟩:=S1.out.xs;obtain⟨⟨z0,z1,z2,z3⟩,hfz⟩:=S1.out.zs;obtain⟨hB9,HR9⟩:=S1.out.bad (Nat.le_trans hlo (Nat.le_add_right _ _)) (Nat.le_add_right _ _) (v:=0) (code:=3) (HP3.out) (by decide);have HE:=AA (AB hB9);have HR:=AA HR9;clear hB9 HR9;go_wp2_with ((try simp only[Exit.inBlock,Exit.then]);with_reducible refine bodyPost_ret (v:= .tuple #[.agg #[_,_,_,_], .int .i64 (0), .int .i64 (3)]) ?_ rfl HR.out;obtain⟨E0,E1,E2,E3⟩:=HE.out;simp[results,Tryz.results227,go_sem,E0,E1,E2,E3])
 ·have ab:=AZ.1 ha
  obtain⟨an,rfl⟩:∃n:Nat,a=(n:Int):=⟨a.toNat,by omega⟩
  have han:an<12:=by omega
  have hani:(an:Int)<12:=by omega
  have Ha:=AA ha;have HG:=AA (Bh (AW HK.out).2.1 _ (List.mem_of_getElem? (Bo (show an<k.infos.length by rw[Hl.out];exact han))));generalize hkd:(infoAt k.infos an).k=kd at*;have Hkd:=AA hkd;clear ha ab
  by_cases e0:kd=0
  ·have HP3:=AA (show AU k ⟨kk,(en:Int),(an:Int),b,c,nm⟩=(k,0,3) by rw[HP.out,if_pos (.inr (.inl (by rw[Int.toNat_natCast,hkd,e0])))])
   have t0:(kd==0)=true:=by simp[e0]
   obtain⟨rfl,rfl,rfl⟩:=Sh.out;clear e0 HP hkd;go_in;go_wp2_with fail;refine(Ae (Cg _ _)).mono ?_;rintro r w1 ⟨rfl,hb1⟩;rw[Ha.out];have S1:=AA (S0.out.below hb1);obtain⟨D0,_,_⟩:=S1.out.infoAt (f:=an) (by rw[Hl.out];exact han);rw[Hkd.out] at D0;clear x0 x1 x2 x3 y0 y1 y2 y3 y4 y5 hb1 hW0;obtain⟨x0,x1,x2,x3⟩:=S1.out.xs;obtain⟨y0,y1,y2,y3,y4,y5⟩:=S1.out.ys6;obtain⟨x0,x1,x2,x3⟩:=S1.out.xs;obtain⟨⟨z0,z1,z2,z3⟩,hfz⟩:=S1.out.zs;obtain⟨hB9,HR9⟩:=S1.out.bad (Nat.le_trans hlo (Nat.le_add_right _ _)) (Nat.le_add_right _ _) (v:=0) (code:=3) (HP3.out) (by decide);have HE:=AA (AB hB9);have HR:=AA HR9;clear hB9 HR9;go_wp2_with ((try simp only[Exit.inBlock,Exit.then]);with_reducible refine bodyPost_ret (v:= .tuple #[.agg #[_,_,_,_], .int .i64 (0), .int .i64 (3)]) ?_ rfl HR.out;obtain⟨E0,E1,E2,E3⟩:=HE.out;simp[results,Tryz.results227,go_sem,E0,E1,E2,E3])
  ·have t0:(kd==0)=false:=by simp[e0]
   by_cases e4:kk=4
   ·cases hb:Ba b
    ·have HP3:=AA (show AU k ⟨kk,(en:Int),(an:Int),b,c,nm⟩=(k,0,3) by rw[HP.out,if_pos (.inr (.inr ⟨e4,hb⟩))])
     have Hb:=AA hb;obtain⟨rfl,rfl,rfl⟩:=Sh.out;subst e4;clear e0 HP hkd hb;go_in;go_wp2_with fail;refine(Ae (Cg _ _)).mono ?_;rintro r w1 ⟨rfl,hb1⟩;rw[Ha.out];have S1:=AA (S0.out.below hb1);obtain⟨D0,_,_⟩:=S1.out.infoAt (f:=an) (by rw[Hl.out];exact han);rw[Hkd.out] at D0;clear x0 x1 x2 x3 y0 y1 y2 y3 y4 y5 hb1 hW0;obtain⟨x0,x1,x2,x3⟩:=S1.out.xs;obtain⟨y0,y1,y2,y3,y4,y5⟩:=S1.out.ys6;go_wp2_with fail;refine(Ae (F6 _ _)).mono ?_;rintro r w2 ⟨rfl,hb2⟩;rw[Hb.out];have S2:=AA (S1.out.below hb2);clear hb2;clear x0 x1 x2 x3 y0 y1 y2 y3 y4 y5 D0;obtain⟨x0,x1,x2,x3⟩:=S2.out.xs;obtain⟨⟨z0,z1,z2,z3⟩,hfz⟩:=S2.out.zs;obtain⟨hB9,HR9⟩:=S2.out.bad (Nat.le_trans hlo (Nat.le_add_right _ _)) (Nat.le_add_right _ _) (v:=0) (code:=3) (HP3.out) (by decide);have HE:=AA (AB hB9);have HR:=AA HR9;clear hB9 HR9;go_wp2_with ((try simp only[Exit.inBlock,Exit.then]);with_reducible refine bodyPost_ret (v:= .tuple #[.agg #[_,_,_,_], .int .i64 (0), .int .i64 (3)]) ?_ rfl HR.out;obtain⟨E0,E1,E2,E3⟩:=HE.out;simp[results,Tryz.results227,go_sem,E0,E1,E2,E3])
    ·have HP2:=AA (show AU k ⟨kk,(en:Int),(an:Int),b,c,nm⟩=if Ca (AC k.envs en).rights (infoAt k.infos an).g=false then(k,0,1) else DQ k (FU k.mem k.infos an b (AC k.envs en).rights) by rw[HP.out,if_neg (by rintro(x|x|⟨_,x⟩);(· rw[Ha.out] at x;cases x);(· rw[Int.toNat_natCast,hkd] at x;exact e0 x);(· rw[hb] at x;cases x)),if_pos e4];rfl)
     have Hb:=AA hb;have hkt:kk=4→Ba b=true:=fun _=>hb
     have CP:=AA (fun W (h:Mb W mv (.slice (some ⟨gi,0,none⟩) 12 capi) ev cv k)=>by have:=KD mv (.slice (some ⟨gi,0,none⟩) 12 capi) ev cv k kk b c en an nm W h HK.out hen han hkt;rw[if_pos e4] at this;exact this);have HC:=AA (Tn (m:=k.mem) (xs:=k.infos) (f:=an) (kind:=b) (ss:=(AC k.envs en).rights));generalize FU k.mem k.infos an b (AC k.envs en).rights=res at CP HP2 HC;obtain⟨rfl,rfl,rfl⟩:=Sh.out;subst e4;clear e0 HP hkd hb hkt;go_in;go_wp2_with fail;refine(Ae (Cg _ _)).mono ?_;rintro r w1 ⟨rfl,hb1⟩;rw[Ha.out];have S1:=AA (S0.out.below hb1);obtain⟨D0,_,_⟩:=S1.out.infoAt (f:=an) (by rw[Hl.out];exact han);rw[Hkd.out] at D0;clear x0 x1 x2 x3 y0 y1 y2 y3 y4 y5 hb1 hW0;obtain⟨x0,x1,x2,x3⟩:=S1.out.xs;obtain⟨y0,y1,y2,y3,y4,y5⟩:=S1.out.ys6;go_wp2_with fail;refine(Ae (F6 _ _)).mono ?_;rintro r w2 ⟨rfl,hb2⟩;rw[Hb.out];have S2:=AA (S1.out.below hb2);clear hb2;clear x0 x1 x2 x3 y0 y1 y2 y3 y4 y5 D0;obtain⟨x0,x1,x2,x3⟩:=S2.out.xs;obtain⟨y0,y1,y2,y3,y4,y5⟩:=S2.out.ys6;obtain⟨_,D1,_⟩:=S2.out.infoAt (f:=an) (by rw[Hl.out];exact han);obtain⟨hlb,hlg,_,_⟩:=S2.out.lts;have hgi2:=S2.out.gi_lt;have CM:=AA (fun W (h:Fp W (.slice ae ne_ ce) k.envs)=>GR (.slice am nm_ cm) (.slice (some ⟨gi,0,none⟩) 12 capi) (.slice ae ne_ ce) (.slice ac nc cc) k en (infoAt k.infos an).g W h HK.out hen HG.out);generalize(infoAt k.infos an).g=gd at D1 CM HP2;generalize hmb:Ca (AC k.envs en).rights gd=mb at CM HP2;clear hmb;go_wp2_with fail;refine AH 10 mixed (by kernel_rfl) 64 rfl (by kernel_rfl) (fun ix vv ww=>match ix with
      |0=>vv= .agg #[.slice am nm_ cm, .slice (some ⟨gi,0,none⟩) 12 capi, .slice ae ne_ ce, .slice ac nc cc]
      |1=>vv= .pointer (some ⟨w.heap.size+1,1,none⟩)
      |2=>vv= .int .i64 en
      |3=>vv= .pointer (some ⟨w.heap.size,1,none⟩)
      |4=>vv= .slice (some ⟨gi,0,none⟩) 12 capi
      |5=>vv= .pointer (some ⟨w.heap.size+1,2,none⟩)
      |6=>vv= .int .i64 an
      |7=>vv= .pointer (some ⟨gi,an*3,none⟩)
      |8=>vv= .pointer (some ⟨gi,an*3+1,none⟩)
      |9=>vv= .string gd
      |_=>True) ?_ ?_ ?_
     ·intro i hi vv wz ww' hbz hz
      match i,hi with
      |0,_|1,_|2,_|3,_|4,_|5,_|6,_|7,_|8,_|9,_=>exact hz
     ·intro i hi o ho a wx Hb Hd hG K HK
      match i,hi with
      |0,_=>exact eL ho HK (eb (Aj Hb 2)) (PV (bc hG hlg x0) (bc hG hlg x1) (bc hG hlg x2) (bc hG hlg x3))
      |1,_=>exact eF ho HK FY (eb (Aj Hb 3))
      |2,_=>exact eL ho HK (et (AD Hd 1)) (DA (bc hG hlb y1))
      |3,_=>exact eF ho HK CU (eb (Aj Hb 2))
      |4,_=>exact eL ho HK (et (AD Hd 3)) (FF (bc hG hlg x1))
      |5,_=>exact eF ho HK EC (eb (Aj Hb 3))
      |6,_=>exact eL ho HK (et (AD Hd 5)) (DA (bc hG hlb y2))
      |7,_=>obtain rfl:=So_ ho;have d4:(a.tmps[39]?.getD undef)= .slice (some ⟨gi,0,none⟩) 12 capi:=AD Hd 4;have d6:(a.tmps[41]?.getD undef)= .int .i64 an:=AD Hd 6;clear Hd Hb;refine AI.of rfl ?_;go_simp;exact HK.out _ _ rfl (Below.refl _ _)
      |8,_=>exact eF ho HK Kp (et (AD Hd 7))
      |9,_=>exact eL ho HK (et (AD Hd 8)) (Uo (bc hG hgi2 D1))
     ·intro vs wx hR hG
      have q0:(vs 0)= .agg #[.slice am nm_ cm, .slice (some ⟨gi,0,none⟩) 12 capi, .slice ae ne_ ce, .slice ac nc cc]:=BI hR 0;have q2:(vs 2)= .int .i64 en:=BI hR 2;have q9:(vs 9)= .string gd:=BI hR 9;clear hR;simp only[Ai,AX,List.range,List.range.loop,List.foldl_cons,List.foldl_nil,q0,q2,q9];simp;clear q0 q2 q9;have S3:=AA (S2.out.below hG);clear x0 x1 x2 x3 y0 y1 y2 y3 y4 y5 D1 hG;go_wp2_with fail;refine(CM.out _ S3.out.K.2.2.1).mono ?_;rintro r w4 ⟨rfl,hb4⟩;have S4:=AA (S3.out.below hb4);clear hb4;cases mb
      ·have HP3:=AA (show AU k ⟨4,(en:Int),(an:Int),b,c,nm⟩=(k,0,1) by rw[HP2.out];rfl)
       obtain⟨x0,x1,x2,x3⟩:=S4.out.xs;obtain⟨⟨z0,z1,z2,z3⟩,hfz⟩:=S4.out.zs;obtain⟨hB9,HR9⟩:=S4.out.bad (Nat.le_trans hlo (Nat.le_add_right _ _)) (Nat.le_add_right _ _) (v:=0) (code:=1) (HP3.out) (by decide);have HE:=AA (AB hB9);have HR:=AA HR9;clear hB9 HR9;go_wp2_with ((try simp only[Exit.inBlock,Exit.then]);with_reducible refine bodyPost_ret (v:= .tuple #[.agg #[_,_,_,_], .int .i64 (0), .int .i64 (1)]) ?_ rfl HR.out;obtain⟨E0,E1,E2,E3⟩:=HE.out;simp[results,Tryz.results227,go_sem,E0,E1,E2,E3])
      ·obtain⟨x0,x1,x2,x3⟩:=S4.out.xs
       obtain⟨y0,y1,y2,y3,y4,y5⟩:=S4.out.ys6;obtain⟨ri,rc⟩:=res;have HP3:=AA (show AU k ⟨4,(en:Int),(an:Int),b,c,nm⟩=DQ k (ri,rc) by rw[HP2.out];rfl);go_wp2_with fail;refine(CP.out _ S4.out.K).mono ?_;rintro r w5 ⟨v',rfl,hO,hb5⟩;simp only at hO ⊢;clear x0 x1 x2 x3 y0 y1 y2 y3 y4 y5 HP2
       rcases HC.out with e|e|e<;>subst e
       ·have S5:=AA (S4.out.newInfos hb5 hO)
        have fzg:=AM (S4.out.below hb5).ink.1;have x1o:=(S4.out.below hb5).xs.2.1;obtain⟨a9,c9,e9,_,_⟩:=hO.rd.shape;generalize List.length _=n9 at e9;subst e9;clear hO hb5;generalize hW9:w5.setCell _ _=W9 at S5;obtain⟨x0,x1,x2,x3⟩:=S5.out.xs;obtain⟨⟨z0,z1,z2,z3⟩,hfz⟩:=S5.out.zs;obtain⟨hB9,HR9⟩:=S5.out.ret (Nat.le_trans hlo (Nat.le_add_right _ _)) (Nat.le_add_right _ _) (v:=0) (code:=0) (HP3.out);have HE:=AA (AB hB9);have HR:=AA HR9;clear hB9 HR9;go_wp2_with ((try simp only[Exit.inBlock,Exit.then]);with_reducible refine bodyPost_ret (v:= .tuple #[.agg #[_,_,_,_], .int .i64 (0), .int .i64 (0)]) ?_ rfl HR.out;obtain⟨E0,E1,E2,E3⟩:=HE.out;simp[results,Tryz.results227,go_sem,E0,E1,E2,E3])
       ·have S5:=AA (S4.out.below hb5)
        obtain⟨a9,c9,e9,_,_⟩:=hO.rd.shape;generalize List.length _=n9 at e9;subst e9;clear hO hb5;obtain⟨x0,x1,x2,x3⟩:=S5.out.xs;obtain⟨⟨z0,z1,z2,z3⟩,hfz⟩:=S5.out.zs;obtain⟨hB9,HR9⟩:=S5.out.bad (Nat.le_trans hlo (Nat.le_add_right _ _)) (Nat.le_add_right _ _) (v:=0) (code:=2) (HP3.out) (by decide);have HE:=AA (AB hB9);have HR:=AA HR9;clear hB9 HR9;go_wp2_with ((try simp only[Exit.inBlock,Exit.then]);with_reducible refine bodyPost_ret (v:= .tuple #[.agg #[_,_,_,_], .int .i64 (0), .int .i64 (2)]) ?_ rfl HR.out;obtain⟨E0,E1,E2,E3⟩:=HE.out;simp[results,Tryz.results227,go_sem,E0,E1,E2,E3])
       ·have S5:=AA (S4.out.below hb5)
        obtain⟨a9,c9,e9,_,_⟩:=hO.rd.shape;generalize List.length _=n9 at e9;subst e9;clear hO hb5;obtain⟨x0,x1,x2,x3⟩:=S5.out.xs;obtain⟨⟨z0,z1,z2,z3⟩,hfz⟩:=S5.out.zs;obtain⟨hB9,HR9⟩:=S5.out.bad (Nat.le_trans hlo (Nat.le_add_right _ _)) (Nat.le_add_right _ _) (v:=0) (code:=3) (HP3.out) (by decide);have HE:=AA (AB hB9);have HR:=AA HR9;clear hB9 HR9;go_wp2_with ((try simp only[Exit.inBlock,Exit.then]);with_reducible refine bodyPost_ret (v:= .tuple #[.agg #[_,_,_,_], .int .i64 (0), .int .i64 (3)]) ?_ rfl HR.out;obtain⟨E0,E1,E2,E3⟩:=HE.out;simp[results,Tryz.results227,go_sem,E0,E1,E2,E3])
   ·have e5:kk=5:=by rcases H2.out with x|x;(· exact absurd x e4);exact x
    have HP2:=AA (show AU k ⟨kk,(en:Int),(an:Int),b,c,nm⟩=if Ca (AC k.envs en).rights (infoAt k.infos an).g=false then(k,0,1) else DQ k (Cw k.mem k.infos an) by rw[HP.out,if_neg (by rintro(x|x|⟨x,_⟩);(· rw[Ha.out] at x;cases x);(· rw[Int.toNat_natCast,hkd] at x;exact e0 x);exact e4 x),if_neg e4];rfl);have hkt:kk=4→Ba b=true:=fun x=>absurd x e4
    have CP:=AA (fun W (h:Mb W mv (.slice (some ⟨gi,0,none⟩) 12 capi) ev cv k)=>by have:=KD mv (.slice (some ⟨gi,0,none⟩) 12 capi) ev cv k kk b c en an nm W h HK.out hen han hkt;rw[if_neg e4] at this;exact this);have HC:=AA (Qt (m:=k.mem) (xs:=k.infos) (f:=an));generalize Cw k.mem k.infos an=res at CP HP2 HC;obtain⟨rfl,rfl,rfl⟩:=Sh.out;subst e5;clear e0 HP hkd hkt e4;go_in;go_wp2_with fail;refine(Ae (Cg _ _)).mono ?_;rintro r w1 ⟨rfl,hb1⟩;rw[Ha.out];have S1:=AA (S0.out.below hb1);obtain⟨D0,_,_⟩:=S1.out.infoAt (f:=an) (by rw[Hl.out];exact han);rw[Hkd.out] at D0;clear x0 x1 x2 x3 y0 y1 y2 y3 y4 y5 hb1 hW0;obtain⟨x0,x1,x2,x3⟩:=S1.out.xs;obtain⟨y0,y1,y2,y3,y4,y5⟩:=S1.out.ys6;go_wp2_with fail;have S2:=S1;generalize w1=w2 at*;clear x0 x1 x2 x3 y0 y1 y2 y3 y4 y5 D0;obtain⟨x0,x1,x2,x3⟩:=S2.out.xs;obtain⟨y0,y1,y2,y3,y4,y5⟩:=S2.out.ys6;obtain⟨_,D1,_⟩:=S2.out.infoAt (f:=an) (by rw[Hl.out];exact han);obtain⟨hlb,hlg,_,_⟩:=S2.out.lts;have hgi2:=S2.out.gi_lt;have CM:=AA (fun W (h:Fp W (.slice ae ne_ ce) k.envs)=>GR (.slice am nm_ cm) (.slice (some ⟨gi,0,none⟩) 12 capi) (.slice ae ne_ ce) (.slice ac nc cc) k en (infoAt k.infos an).g W h HK.out hen HG.out);generalize(infoAt k.infos an).g=gd at D1 CM HP2;generalize hmb:Ca (AC k.envs en).rights gd=mb at CM HP2;clear hmb;go_wp2_with fail;refine AH 10 mixed (by kernel_rfl) 64 rfl (by kernel_rfl) (fun ix vv ww=>match ix with
     |0=>vv= .agg #[.slice am nm_ cm, .slice (some ⟨gi,0,none⟩) 12 capi, .slice ae ne_ ce, .slice ac nc cc]
     |1=>vv= .pointer (some ⟨w.heap.size+1,1,none⟩)
     |2=>vv= .int .i64 en
     |3=>vv= .pointer (some ⟨w.heap.size,1,none⟩)
     |4=>vv= .slice (some ⟨gi,0,none⟩) 12 capi
     |5=>vv= .pointer (some ⟨w.heap.size+1,2,none⟩)
     |6=>vv= .int .i64 an
     |7=>vv= .pointer (some ⟨gi,an*3,none⟩)
     |8=>vv= .pointer (some ⟨gi,an*3+1,none⟩)
     |9=>vv= .string gd
     |_=>True) ?_ ?_ ?_
    ·intro i hi vv wz ww' hbz hz
     match i,hi with
     |0,_|1,_|2,_|3,_|4,_|5,_|6,_|7,_|8,_|9,_=>exact hz
    ·intro i hi o ho a wx Hb Hd hG K HK
     match i,hi with
     |0,_=>exact eL ho HK (eb (Aj Hb 2)) (PV (bc hG hlg x0) (bc hG hlg x1) (bc hG hlg x2) (bc hG hlg x3))
     |1,_=>exact eF ho HK FY (eb (Aj Hb 3))
     |2,_=>exact eL ho HK (et (AD Hd 1)) (DA (bc hG hlb y1))
     |3,_=>exact eF ho HK CU (eb (Aj Hb 2))
     |4,_=>exact eL ho HK (et (AD Hd 3)) (FF (bc hG hlg x1))
     |5,_=>exact eF ho HK EC (eb (Aj Hb 3))
     |6,_=>exact eL ho HK (et (AD Hd 5)) (DA (bc hG hlb y2))
     |7,_=>obtain rfl:=So_ ho;have d4:(a.tmps[39]?.getD undef)= .slice (some ⟨gi,0,none⟩) 12 capi:=AD Hd 4;have d6:(a.tmps[41]?.getD undef)= .int .i64 an:=AD Hd 6;clear Hd Hb;refine AI.of rfl ?_;go_simp;exact HK.out _ _ rfl (Below.refl _ _)
     |8,_=>exact eF ho HK Kp (et (AD Hd 7))
     |9,_=>exact eL ho HK (et (AD Hd 8)) (Uo (bc hG hgi2 D1))
    ·intro vs wx hR hG
     have q0:(vs 0)= .agg #[.slice am nm_ cm, .slice (some ⟨gi,0,none⟩) 12 capi, .slice ae ne_ ce, .slice ac nc cc]:=BI hR 0;have q2:(vs 2)= .int .i64 en:=BI hR 2;have q9:(vs 9)= .string gd:=BI hR 9;clear hR;simp only[Ai,AX,List.range,List.range.loop,List.foldl_cons,List.foldl_nil,q0,q2,q9];simp;clear q0 q2 q9;have S3:=AA (S2.out.below hG);clear x0 x1 x2 x3 y0 y1 y2 y3 y4 y5 D1 hG;go_wp2_with fail;refine(CM.out _ S3.out.K.2.2.1).mono ?_;rintro r w4 ⟨rfl,hb4⟩;have S4:=AA (S3.out.below hb4);clear hb4;cases mb
     ·have HP3:=AA (show AU k ⟨5,(en:Int),(an:Int),b,c,nm⟩=(k,0,1) by rw[HP2.out];rfl)
      obtain⟨x0,x1,x2,x3⟩:=S4.out.xs;obtain⟨⟨z0,z1,z2,z3⟩,hfz⟩:=S4.out.zs;obtain⟨hB9,HR9⟩:=S4.out.bad (Nat.le_trans hlo (Nat.le_add_right _ _)) (Nat.le_add_right _ _) (v:=0) (code:=1) (HP3.out) (by decide);have HE:=AA (AB hB9);have HR:=AA HR9;clear hB9 HR9;go_wp2_with ((try simp only[Exit.inBlock,Exit.then]);with_reducible refine bodyPost_ret (v:= .tuple #[.agg #[_,_,_,_], .int .i64 (0), .int .i64 (1)]) ?_ rfl HR.out;obtain⟨E0,E1,E2,E3⟩:=HE.out;simp[results,Tryz.results227,go_sem,E0,E1,E2,E3])
     ·obtain⟨x0,x1,x2,x3⟩:=S4.out.xs
      obtain⟨y0,y1,y2,y3,y4,y5⟩:=S4.out.ys6;obtain⟨ri,rc⟩:=res;have HP3:=AA (show AU k ⟨5,(en:Int),(an:Int),b,c,nm⟩=DQ k (ri,rc) by rw[HP2.out];rfl);go_wp2_with fail;refine(CP.out _ S4.out.K).mono ?_;rintro r w5 ⟨v',rfl,hO,hb5⟩;simp only at hO ⊢;clear x0 x1 x2 x3 y0 y1 y2 y3 y4 y5 HP2
      rcases HC.out with e|e|e<;>subst e
      ·have S5:=AA (S4.out.newInfos hb5 hO)
       have fzg:=AM (S4.out.below hb5).ink.1;have x1o:=(S4.out.below hb5).xs.2.1;obtain⟨a9,c9,e9,_,_⟩:=hO.rd.shape;generalize List.length _=n9 at e9;subst e9;clear hO hb5;generalize hW9:w5.setCell _ _=W9 at S5;obtain⟨x0,x1,x2,x3⟩:=S5.out.xs;obtain⟨⟨z0,z1,z2,z3⟩,hfz⟩:=S5.out.zs;obtain⟨hB9,HR9⟩:=S5.out.ret (Nat.le_trans hlo (Nat.le_add_right _ _)) (Nat.le_add_right _ _) (v:=0) (code:=0) (HP3.out);have HE:=AA (AB hB9);have HR:=AA HR9;clear hB9 HR9;go_wp2_with ((try simp only[Exit.inBlock,Exit.then]);with_reducible refine bodyPost_ret (v:= .tuple #[.agg #[_,_,_,_], .int .i64 (0), .int .i64 (0)]) ?_ rfl HR.out;obtain⟨E0,E1,E2,E3⟩:=HE.out;simp[results,Tryz.results227,go_sem,E0,E1,E2,E3])
      ·have S5:=AA (S4.out.below hb5)
       obtain⟨a9,c9,e9,_,_⟩:=hO.rd.shape;generalize List.length _=n9 at e9;subst e9;clear hO hb5;obtain⟨x0,x1,x2,x3⟩:=S5.out.xs;obtain⟨⟨z0,z1,z2,z3⟩,hfz⟩:=S5.out.zs;obtain⟨hB9,HR9⟩:=S5.out.bad (Nat.le_trans hlo (Nat.le_add_right _ _)) (Nat.le_add_right _ _) (v:=0) (code:=2) (HP3.out) (by decide);have HE:=AA (AB hB9);have HR:=AA HR9;clear hB9 HR9;go_wp2_with ((try simp only[Exit.inBlock,Exit.then]);with_reducible refine bodyPost_ret (v:= .tuple #[.agg #[_,_,_,_], .int .i64 (0), .int .i64 (2)]) ?_ rfl HR.out;obtain⟨E0,E1,E2,E3⟩:=HE.out;simp[results,Tryz.results227,go_sem,E0,E1,E2,E3])
      ·have S5:=AA (S4.out.below hb5)
       obtain⟨a9,c9,e9,_,_⟩:=hO.rd.shape;generalize List.length _=n9 at e9;subst e9;clear hO hb5;obtain⟨x0,x1,x2,x3⟩:=S5.out.xs;obtain⟨⟨z0,z1,z2,z3⟩,hfz⟩:=S5.out.zs;obtain⟨hB9,HR9⟩:=S5.out.bad (Nat.le_trans hlo (Nat.le_add_right _ _)) (Nat.le_add_right _ _) (v:=0) (code:=3) (HP3.out) (by decide);have HE:=AA (AB hB9);have HR:=AA HR9;clear hB9 HR9;go_wp2_with ((try simp only[Exit.inBlock,Exit.then]);with_reducible refine bodyPost_ret (v:= .tuple #[.agg #[_,_,_,_], .int .i64 (0), .int .i64 (3)]) ?_ rfl HR.out;obtain⟨E0,E1,E2,E3⟩:=HE.out;simp[results,Tryz.results227,go_sem,E0,E1,E2,E3])
theorem Qd {lo:Nat} {mv iv ev cv:Value} {k:AN} {w:World} (h:Cz lo w mv iv ev cv k) (hlo:lo≤w.heap.size) (hk:De k) (call:AR) (he:0≤call.e∧call.e<3) (h2:call.k=7):
 Calls prog 229 #[.agg #[mv,iv,ev,cv], .agg call.cs] w (GF lo w (AU k call)):=by
 have S0':=SC.start h hlo call;have P0:=(RD (k:=k) h2).trans Qq;obtain⟨ge,cape,e9,_,_⟩:=S0'.envs (by rw[hk.envl];omega);rw[hk.envl] at e9;obtain⟨gi,capi,e8,_,_⟩:=S0'.infos (by rw[hk.len];omega);rw[hk.len] at e8;obtain⟨am,nm_,cm,ai,ni,ci,ae,ne_,ce,ac,nc,cc,em,ei,ee,ec⟩:=S0'.shapes;subst e8 e9 em ec;clear ei ee;have S0:=AA S0';obtain⟨kk,e,ra,b,c,nm⟩:=call;simp only at he h2;subst h2;obtain⟨en,rfl⟩:∃n:Nat,e=(n:Int):=⟨e.toNat,by omega⟩
 have hen:en<3:=by omega
 have heni:(en:Int)<3:=by omega
 simp only[AR.cs,Int.toNat_natCast] at S0 P0 ⊢;have HP:=AA P0;have HK:=AA hk;obtain⟨x0,x1,x2,x3⟩:=S0.out.xs;obtain⟨y0,y1,y2,y3,y4,y5⟩:=S0.out.ys6;clear h S0' he hk P0;generalize hW0:((w.alloc _).alloc _).alloc _=W0 at*
 by_cases e1:ra= -1
 ·have t1:(ra != -1)=false:=by simp[e1]
  have HP2:=AA (show AU k ⟨7,(en:Int),ra,b,c,nm⟩=if Aq k.infos (Az k.mem ra) (AC k.envs en).rights=false then(k,0,1) else({k with infos:=Br (BN k.infos (AC k.envs en).root) ra,envs:=AV k.envs en (Bu ra),cache:=Co k.cache (en:Int)},0,0) by rw[HP.out,if_neg (by rw[e1];simp)]);have Ha:Hid (ra<12):=AA (by omega);have Hn:Hid (ra<0):=AA (by omega);clear e1 HP;subst hW0;go_in;go_wp2_with fail;generalize hW2:((w.alloc _).alloc _).alloc _=W0 at*;have S2:=S0;clear x0 x1 x2 x3 y0 y1 y2 y3 y4 y5 hW2;obtain⟨x0,x1,x2,x3⟩:=S2.out.xs;obtain⟨y0,y1,y2,y3,y4,y5⟩:=S2.out.ys6;obtain⟨hlb,hlg,_,_⟩:=S2.out.lts;have hge:=S2.out.ge_lt;obtain⟨ua,uc,D0,D1,R⟩:=S2.out.env (j:=en) (by rw[HK.out.envl];exact hen);have RM:=S2.out.K.1;have RI:=S2.out.K.2.1;have CX:=AA (fun W (hW:Below W0.heap.size W0 W)=>I7 _ k.mem (ra) W (RM.below hW) (AW HK.out).1 Ha.out);have CA:=AA (fun W (hW:Below W0.heap.size W0 W) v2 (h2:Ap W v2 (Ak (El k.mem (ra))))=>by have:=F7 _ v2 _ k.infos (El k.mem (ra)) (AC k.envs en).rights W (A3.below RI hW) h2 (A3.below R hW) (fun f hf=>by have:=reach_lt Ha.out f ((GT Ha.out f).1 hf);have:=HK.out.len;omega) (Bh (AW HK.out).2.1) (Ft HK.out hen);rw[Ds (GT Ha.out)] at this;exact this);generalize hbb:Aq k.infos (Az k.mem (ra)) (AC k.envs en).rights=bb at CA HP2;clear hbb RM RI R;go_wp2_with fail;refine AH 14 mixed (by kernel_rfl) 98 rfl (by kernel_rfl) (fun ix vv ww=>match ix with
   |0=>vv= .pointer (some ⟨w.heap.size,1,none⟩)
   |1=>vv= .slice (some ⟨gi,0,none⟩) 12 capi
   |2=>vv= .pointer (some ⟨w.heap.size,0,none⟩)
   |3=>vv= .slice am nm_ cm
   |4=>vv= .pointer (some ⟨w.heap.size+1,2,none⟩)
   |5=>vv= .int .i64 ra
   |6=>AE W0.heap.size ww vv (Ak (El k.mem (ra)))
   |7=>vv= .pointer (some ⟨w.heap.size,2,none⟩)
   |8=>vv= .slice (some ⟨ge,0,none⟩) 3 cape
   |9=>vv= .pointer (some ⟨w.heap.size+1,1,none⟩)
   |10=>vv= .int .i64 en
   |11=>vv= .pointer (some ⟨ge,en*2,none⟩)
   |12=>vv= .pointer (some ⟨ge,en*2,none⟩)
   |13=>vv= .slice ua (AC k.envs en).rights.length uc
   |_=>True) ?_ ?_ ?_
  ·intro i hi vv wz ww' hbz hz
   match i,hi with
   |0,_|1,_|2,_|3,_|4,_|5,_=>exact hz
   |6,_=>exact(AE.below hz hbz)
   |7,_|8,_|9,_|10,_|11,_|12,_|13,_=>exact hz
  ·intro i hi o ho a wx Hb Hd hG K HK
   match i,hi with
   |0,_=>exact eF ho HK CU (eb (Aj Hb 2))
   |1,_=>exact eL ho HK (et (AD Hd 0)) (FF (bc hG hlg x1))
   |2,_=>exact eF ho HK Ci (eb (Aj Hb 2))
   |3,_=>exact eL ho HK (et (AD Hd 2)) (Fd (bc hG hlg x0))
   |4,_=>exact eF ho HK EC (eb (Aj Hb 3))
   |5,_=>exact eL ho HK (et (AD Hd 4)) (DA (bc hG hlb y2))
   |6,_=>obtain rfl:=So_ ho;have d3:(a.tmps[31]?.getD undef)= .slice am nm_ cm:=AD Hd 3;have d5:(a.tmps[33]?.getD undef)= .int .i64 ra:=AD Hd 5;clear Hd Hb;refine AI.of rfl ?_;go_simp;refine(CX.out _ hG).mono ?_;rintro e w_ ⟨v',rfl,hO,hb2⟩;exact HK.out _ _ (BQ hO hG.size) hb2
   |7,_=>exact eF ho HK GO (eb (Aj Hb 2))
   |8,_=>exact eL ho HK (et (AD Hd 7)) (La (bc hG hlg x2))
   |9,_=>exact eF ho HK FY (eb (Aj Hb 3))
   |10,_=>exact eL ho HK (et (AD Hd 9)) (DA (bc hG hlb y1))
   |11,_=>obtain rfl:=So_ ho;have d8:(a.tmps[36]?.getD undef)= .slice (some ⟨ge,0,none⟩) 3 cape:=AD Hd 8;have d10:(a.tmps[38]?.getD undef)= .int .i64 en:=AD Hd 10;clear Hd Hb;refine AI.of rfl ?_;go_simp;exact HK.out _ _ rfl (Below.refl _ _)
   |12,_=>exact eF ho HK EV (et (AD Hd 11))
   |13,_=>exact eL ho HK (et (AD Hd 12)) (Ie (bc hG hge D0))
  ·intro vs wx hR hG
   have q1:(vs 1)= .slice (some ⟨gi,0,none⟩) 12 capi:=BI hR 1;have q6:AE W0.heap.size wx (vs 6) (Ak (El k.mem (ra))):=BI hR 6;have q13:(vs 13)= .slice ua (AC k.envs en).rights.length uc:=BI hR 13;clear hR;simp only[Ai,AX,List.range,List.range.loop,List.foldl_cons,List.foldl_nil,q1,q13];simp;generalize vs 6=z6 at q6 ⊢;clear q1 q13;have S3:=AA (S2.out.below hG);obtain⟨a8,c8,e8,_⟩:=q6.rd.open;have HQ:=AA q6.rd;generalize List.length _=n8 at e8;subst e8;have HbG:=AA hG;clear x0 x1 x2 x3 y0 y1 y2 y3 y4 y5 D0 D1 hG q6;go_wp2_with fail;refine(CA.out _ HbG.out _ HQ.out).mono ?_;rintro r w4 ⟨rfl,hb4⟩;have S4:=AA (S3.out.below hb4);clear hb4 HbG HQ CA;cases bb
   ·have HP3:=AA (show AU k ⟨7,(en:Int),ra,b,c,nm⟩=(k,0,1) by rw[HP2.out];rfl)
    obtain⟨x0,x1,x2,x3⟩:=S4.out.xs;obtain⟨⟨z0,z1,z2,z3⟩,hfz⟩:=S4.out.zs;obtain⟨hB9,HR9⟩:=S4.out.bad (Nat.le_trans hlo (Nat.le_add_right _ _)) (Nat.le_add_right _ _) (v:=0) (code:=1) (HP3.out) (by decide);have HE:=AA (AB hB9);have HR:=AA HR9;clear hB9 HR9;go_wp2_with ((try simp only[Exit.inBlock,Exit.then]);with_reducible refine bodyPost_ret (v:= .tuple #[.agg #[_,_,_,_], .int .i64 (0), .int .i64 (1)]) ?_ rfl HR.out;obtain⟨E0,E1,E2,E3⟩:=HE.out;simp[results,Tryz.results229,go_sem,E0,E1,E2,E3])
   ·have HP3:=AA (show AU k ⟨7,(en:Int),ra,b,c,nm⟩=({k with infos:=Br (BN k.infos (AC k.envs en).root) (ra),envs:=AV k.envs en (Bu (ra)),cache:=Co k.cache (en:Int)},0,0) by rw[HP2.out];rfl)
    clear HP2;obtain⟨x0,x1,x2,x3⟩:=S4.out.xs;obtain⟨y0,y1,y2,y3,y4,y5⟩:=S4.out.ys6;obtain⟨_,_,_,D1,_⟩:=S4.out.env (j:=en) (by rw[HK.out.envl];exact hen)
    by_cases ho:(AC k.envs en).root<0
    ·have t5:¬(0:Int)≤(AC k.envs en).root:=by omega
     have HU:=AA (show BN k.infos (AC k.envs en).root=k.infos by unfold BN;rw[if_neg t5]);clear ho;have t7:¬(0:Int)≤ra:=by have:=Hn.out;omega
     have HR:=AA (show Br (BN k.infos (AC k.envs en).root) (ra)=k.infos by rw[HU.out];unfold Br;rw[if_neg t7]);obtain⟨x0,x1,x2,x3⟩:=S4.out.xs;obtain⟨y0,y1,y2,y3,y4,y5⟩:=S4.out.ys6;obtain⟨_,_,D0,D1,_⟩:=S4.out.env (j:=en) (by show en<k.envs.length;rw[HK.out.envl];exact hen);have Fe:=S4.out.fze (en*2+1);have T1:=AA (S4.out.root HK.out.envl.symm (by show en<k.envs.length;rw[HK.out.envl];exact hen) (ra));generalize hW7:w4.setCell _ _=W7 at T1;have CD:=AA (fun W (h:Bn W (.slice ac nc cc) k.cache)=>Ho (.slice ac nc cc) k.cache (en:Int) W h (by have:=GQ HK.out;omega));have x3o:=T1.out.xs.2.2.2;obtain⟨_,yo,_⟩:=T1.out.ys6;go_wp2_with fail;refine(CD.out _ T1.out.K.2.2.2).mono ?_;rintro r w8 ⟨v',rfl,hO,hb8⟩;have T2:=AA (T1.out.cache hb8 hO);have fzg:=AM (T1.out.below hb8).ink.1;have x3p:=(T1.out.below hb8).xs.2.2.2;clear x0 x1 x2 x3 y0 y1 y2 y3 y4 y5 x3o yo D0 D1 Fe hW7;obtain⟨a9,c9,e9,_,_⟩:=hO.rd.shape;generalize List.length _=n9 at e9;subst e9;clear hO hb8;generalize hW10:w8.setCell _ _=W10 at T2;have HP4:=AA (show AU k ⟨7,(en:Int),ra,b,c,nm⟩=({k with infos:=k.infos,envs:=AV k.envs en (Bu (ra)),cache:=Co k.cache (en:Int)},0,0) by rw[HP3.out,HR.out]);obtain⟨x0,x1,x2,x3⟩:=T2.out.xs;obtain⟨⟨z0,z1,z2,z3⟩,hfz⟩:=T2.out.zs;obtain⟨hB9,HR9⟩:=T2.out.ret (Nat.le_trans hlo (Nat.le_add_right _ _)) (Nat.le_add_right _ _) (v:=0) (code:=0) (HP4.out);have HE:=AA (AB hB9);have HR:=AA HR9;clear hB9 HR9;go_wp2_with ((try simp only[Exit.inBlock,Exit.then]);with_reducible refine bodyPost_ret (v:= .tuple #[.agg #[_,_,_,_], .int .i64 (0), .int .i64 (0)]) ?_ rfl HR.out;obtain⟨E0,E1,E2,E3⟩:=HE.out;simp[results,Tryz.results229,go_sem,E0,E1,E2,E3])
    ·obtain⟨rn,hrn⟩:∃n:Nat,(AC k.envs en).root=(n:Int):=⟨(AC k.envs en).root.toNat,by omega⟩
     have hr12:rn<12:=by have:=root_lt HK.out hen;omega
     have HU:=AA (show BN k.infos (AC k.envs en).root=AV k.infos rn (DK (-1)) by unfold BN;rw[hrn,if_pos (by omega),Int.toNat_natCast]);rw[hrn] at D1;have t5:(0:Int)≤(rn:Int):=by omega
     clear ho hrn;obtain⟨x0,x1,x2,x3⟩:=S4.out.xs;obtain⟨y0,y1,y2,y3,y4,y5⟩:=S4.out.ys6;obtain⟨hlb,hlg,_,_⟩:=S4.out.lts;have hgi:=S4.out.gi_lt;obtain⟨_,_,d2⟩:=S4.out.infoAt (f:=rn) (by show rn<(k.infos).length;have:=HK.out.len;(try simp only[Au]);omega)
     try simp only at d2
     have hrv0:=HK.out.refs_le hr12;generalize hrv:(infoAt (k.infos) rn).r=rv at d2 hrv0;obtain⟨nr,hnr⟩:∃nr,rv - 1=nr:=⟨_,rfl⟩
     have Hnr:=AA hnr;clear hnr;have hati:(rn:Int)<12:=by omega
     go_wp2_with fail;refine AH 10 mixed (by kernel_rfl) 98 rfl (by kernel_rfl) (fun ix vv ww=>match ix with
      |0=>vv= .pointer (some ⟨w.heap.size,1,none⟩)
      |1=>vv= .slice (some ⟨gi,0,none⟩) 12 capi
      |2=>vv= .int .i64 rn
      |3=>vv= .pointer (some ⟨w.heap.size,1,none⟩)
      |4=>vv= .slice (some ⟨gi,0,none⟩) 12 capi
      |5=>vv= .int .i64 rn
      |6=>vv= .pointer (some ⟨gi,rn*3,none⟩)
      |7=>vv= .pointer (some ⟨gi,rn*3+2,none⟩)
      |8=>vv= .int .i64 rv
      |9=>vv= .int .i64 nr
      |_=>True) ?_ ?_ ?_
     ·intro i hi vv wz ww' hbz hz
      match i,hi with
      |0,_|1,_|2,_|3,_|4,_|5,_|6,_|7,_|8,_|9,_=>exact hz
     ·intro i hi o ho a wx Hb Hd hG K HK
      match i,hi with
      |0,_=>exact eF ho HK CU (eb (Aj Hb 2))
      |1,_=>exact eL ho HK (et (AD Hd 0)) (FF (bc hG hlg x1))
      |2,_=>exact eM ho HK (eb (Aj Hb 7))
      |3,_=>exact eF ho HK CU (eb (Aj Hb 2))
      |4,_=>exact eL ho HK (et (AD Hd 3)) (FF (bc hG hlg x1))
      |5,_=>exact eM ho HK (eb (Aj Hb 7))
      |6,_=>obtain rfl:=So_ ho;have d4:(a.tmps[58]?.getD undef)= .slice (some ⟨gi,0,none⟩) 12 capi:=AD Hd 4;have d5:(a.tmps[59]?.getD undef)= .int .i64 rn:=AD Hd 5;clear Hd Hb;refine AI.of rfl ?_;go_simp;exact HK.out _ _ rfl (Below.refl _ _)
      |7,_=>exact eF ho HK GW (et (AD Hd 6))
      |8,_=>exact eL ho HK (et (AD Hd 7)) (DA (bc hG hgi d2))
      |9,_=>obtain rfl:=So_ ho;have d8:(a.tmps[62]?.getD undef)= .int .i64 rv:=AD Hd 8;clear Hd Hb;refine AI.of rfl ?_;go_simp;exact HK.out _ _ (by show Value.int .i64 (IntKind.i64.wrap (rv - 1))= .int .i64 nr;rw[IntWalk.i64_in _ (by omega),Hnr.out]) (Below.refl _ _)
     ·intro vs wx hR hG
      have q1:(vs 1)= .slice (some ⟨gi,0,none⟩) 12 capi:=BI hR 1;have q2:(vs 2)= .int .i64 rn:=BI hR 2;have q9:(vs 9)= .int .i64 nr:=BI hR 9;clear hR;simp only[Ai,AX,List.range,List.range.loop,List.foldl_cons,List.foldl_nil,q1,q2,q9];simp;clear q1 q2 q9;have SB:=AA (S4.out.below hG);obtain⟨_,_,d2w⟩:=SB.out.infoAt (f:=rn) (by show rn<(k.infos).length;have:=HK.out.len;(try simp only[Au]);omega);have Fr:=SB.out.fzi (rn*3+2);have S5:=SB.out.info (by show 12=(k.infos).length;have:=HK.out.len;(try simp only[Au]);omega) (f:=rn) (by show rn<(k.infos).length;have:=HK.out.len;(try simp only[Au]);omega) (-1)
      try simp only at S5 d2w
      rw[hrv] at S5 d2w;rw[show rv+ -1=nr by have:=Hnr.out;omega] at S5;replace S5:=AA S5;generalize hW5:wx.setCell _ _=W5 at S5;clear x0 x1 x2 x3 y0 y1 y2 y3 y4 y5 d2 hG SB;have t7:¬(0:Int)≤ra:=by have:=Hn.out;omega
      have HR:=AA (show Br (BN k.infos (AC k.envs en).root) (ra)=AV k.infos rn (DK (-1)) by rw[HU.out];unfold Br;rw[if_neg t7]);obtain⟨x0,x1,x2,x3⟩:=S5.out.xs;obtain⟨y0,y1,y2,y3,y4,y5⟩:=S5.out.ys6;obtain⟨_,_,D0,D1,_⟩:=S5.out.env (j:=en) (by show en<k.envs.length;rw[HK.out.envl];exact hen);have Fe:=S5.out.fze (en*2+1);have T1:=AA (S5.out.root HK.out.envl.symm (by show en<k.envs.length;rw[HK.out.envl];exact hen) (ra));generalize hW7:W5.setCell _ _=W7 at T1;have CD:=AA (fun W (h:Bn W (.slice ac nc cc) k.cache)=>Ho (.slice ac nc cc) k.cache (en:Int) W h (by have:=GQ HK.out;omega));have x3o:=T1.out.xs.2.2.2;obtain⟨_,yo,_⟩:=T1.out.ys6;go_wp2_with fail;refine(CD.out _ T1.out.K.2.2.2).mono ?_;rintro r w8 ⟨v',rfl,hO,hb8⟩;have T2:=AA (T1.out.cache hb8 hO);have fzg:=AM (T1.out.below hb8).ink.1;have x3p:=(T1.out.below hb8).xs.2.2.2;clear x0 x1 x2 x3 y0 y1 y2 y3 y4 y5 x3o yo D0 D1 Fe hW7;obtain⟨a9,c9,e9,_,_⟩:=hO.rd.shape;generalize List.length _=n9 at e9;subst e9;clear hO hb8;generalize hW10:w8.setCell _ _=W10 at T2;have HP4:=AA (show AU k ⟨7,(en:Int),ra,b,c,nm⟩=({k with infos:=AV k.infos rn (DK (-1)),envs:=AV k.envs en (Bu (ra)),cache:=Co k.cache (en:Int)},0,0) by rw[HP3.out,HR.out]);obtain⟨x0,x1,x2,x3⟩:=T2.out.xs;obtain⟨⟨z0,z1,z2,z3⟩,hfz⟩:=T2.out.zs;obtain⟨hB9,HR9⟩:=T2.out.ret (Nat.le_trans hlo (Nat.le_add_right _ _)) (Nat.le_add_right _ _) (v:=0) (code:=0) (HP4.out);have HE:=AA (AB hB9);have HR:=AA HR9;clear hB9 HR9;go_wp2_with ((try simp only[Exit.inBlock,Exit.then]);with_reducible refine bodyPost_ret (v:= .tuple #[.agg #[_,_,_,_], .int .i64 (0), .int .i64 (0)]) ?_ rfl HR.out;obtain⟨E0,E1,E2,E3⟩:=HE.out;simp[results,Tryz.results229,go_sem,E0,E1,E2,E3])
 ·have t1:(ra != -1)=true:=by simp[e1]
  cases e2:Bk ra 0 11
  ·have HP3:=AA (show AU k ⟨7,(en:Int),ra,b,c,nm⟩=(k,0,3) by rw[HP.out,if_pos ⟨e1, .inl e2⟩])
   have T:=AA e2;clear e1 e2 HP;go_in;go_wp2_with fail;refine(Ae (Cg _ _)).mono ?_;rintro r w1 ⟨rfl,hb1⟩;rw[T.out];have S1:=AA (S0.out.below hb1);clear x0 x1 x2 x3 y0 y1 y2 y3 y4 y5 hb1 hW0;obtain⟨x0,x1,x2,x3⟩:=S1.out.xs;obtain⟨⟨z0,z1,z2,z3⟩,hfz⟩:=S1.out.zs;obtain⟨hB9,HR9⟩:=S1.out.bad (Nat.le_trans hlo (Nat.le_add_right _ _)) (Nat.le_add_right _ _) (v:=0) (code:=3) (HP3.out) (by decide);have HE:=AA (AB hB9);have HR:=AA HR9;clear hB9 HR9;go_wp2_with ((try simp only[Exit.inBlock,Exit.then]);with_reducible refine bodyPost_ret (v:= .tuple #[.agg #[_,_,_,_], .int .i64 (0), .int .i64 (3)]) ?_ rfl HR.out;obtain⟨E0,E1,E2,E3⟩:=HE.out;simp[results,Tryz.results229,go_sem,E0,E1,E2,E3])
  ·have T:=AA e2
   have ab:=AZ.1 e2;obtain⟨an,rfl⟩:∃n:Nat,ra=(n:Int):=⟨ra.toNat,by omega⟩
   have han:an<12:=by omega
   have hani:(an:Int)<12:=by omega
   have Ha:Hid ((an:Int)<12):=AA (by omega)
   by_cases e3:(infoAt k.infos an).k=3
   ·have t3:((infoAt k.infos an).k !=3)=false:=by simp[e3]
    have HP2:=AA (show AU k ⟨7,(en:Int),(an:Int),b,c,nm⟩=if Aq k.infos (Az k.mem (an:Int)) (AC k.envs en).rights=false then(k,0,1) else({k with infos:=Br (BN k.infos (AC k.envs en).root) (an:Int),envs:=AV k.envs en (Bu (an:Int)),cache:=Co k.cache (en:Int)},0,0) by rw[HP.out,if_neg (by rintro⟨_,x|x⟩;(· rw[T.out] at x;cases x);exact x (by rw[Int.toNat_natCast];exact e3))]);clear e1 e2 e3 HP ab;go_in;go_wp2_with fail;refine(Ae (Cg _ _)).mono ?_;rintro r w2 ⟨rfl,hb1⟩;rw[T.out];have S2:=AA (S0.out.below hb1);clear x0 x1 x2 x3 y0 y1 y2 y3 y4 y5 hb1 hW0;obtain⟨x0,x1,x2,x3⟩:=S2.out.xs;obtain⟨y0,y1,y2,y3,y4,y5⟩:=S2.out.ys6;obtain⟨d0,_,_⟩:=S2.out.infoAt (f:=an) (by rw[HK.out.len];exact han);go_wp2_with fail;clear x0 x1 x2 x3 y0 y1 y2 y3 y4 y5 d0 t3;obtain⟨x0,x1,x2,x3⟩:=S2.out.xs;obtain⟨y0,y1,y2,y3,y4,y5⟩:=S2.out.ys6;obtain⟨hlb,hlg,_,_⟩:=S2.out.lts;have hge:=S2.out.ge_lt;obtain⟨ua,uc,D0,D1,R⟩:=S2.out.env (j:=en) (by rw[HK.out.envl];exact hen);have RM:=S2.out.K.1;have RI:=S2.out.K.2.1;have CX:=AA (fun W (hW:Below w2.heap.size w2 W)=>I7 _ k.mem ((an:Int)) W (RM.below hW) (AW HK.out).1 Ha.out);have CA:=AA (fun W (hW:Below w2.heap.size w2 W) v2 (h2:Ap W v2 (Ak (El k.mem ((an:Int)))))=>by have:=F7 _ v2 _ k.infos (El k.mem ((an:Int))) (AC k.envs en).rights W (A3.below RI hW) h2 (A3.below R hW) (fun f hf=>by have:=reach_lt Ha.out f ((GT Ha.out f).1 hf);have:=HK.out.len;omega) (Bh (AW HK.out).2.1) (Ft HK.out hen);rw[Ds (GT Ha.out)] at this;exact this);generalize hbb:Aq k.infos (Az k.mem ((an:Int))) (AC k.envs en).rights=bb at CA HP2;clear hbb RM RI R;go_wp2_with fail;refine AH 14 mixed (by kernel_rfl) 98 rfl (by kernel_rfl) (fun ix vv ww=>match ix with
     |0=>vv= .pointer (some ⟨w.heap.size,1,none⟩)
     |1=>vv= .slice (some ⟨gi,0,none⟩) 12 capi
     |2=>vv= .pointer (some ⟨w.heap.size,0,none⟩)
     |3=>vv= .slice am nm_ cm
     |4=>vv= .pointer (some ⟨w.heap.size+1,2,none⟩)
     |5=>vv= .int .i64 an
     |6=>AE w2.heap.size ww vv (Ak (El k.mem ((an:Int))))
     |7=>vv= .pointer (some ⟨w.heap.size,2,none⟩)
     |8=>vv= .slice (some ⟨ge,0,none⟩) 3 cape
     |9=>vv= .pointer (some ⟨w.heap.size+1,1,none⟩)
     |10=>vv= .int .i64 en
     |11=>vv= .pointer (some ⟨ge,en*2,none⟩)
     |12=>vv= .pointer (some ⟨ge,en*2,none⟩)
     |13=>vv= .slice ua (AC k.envs en).rights.length uc
     |_=>True) ?_ ?_ ?_
    ·intro i hi vv wz ww' hbz hz
     match i,hi with
     |0,_|1,_|2,_|3,_|4,_|5,_=>exact hz
     |6,_=>exact(AE.below hz hbz)
     |7,_|8,_|9,_|10,_|11,_|12,_|13,_=>exact hz
    ·intro i hi o ho a wx Hb Hd hG K HK
     match i,hi with
     |0,_=>exact eF ho HK CU (eb (Aj Hb 2))
     |1,_=>exact eL ho HK (et (AD Hd 0)) (FF (bc hG hlg x1))
     |2,_=>exact eF ho HK Ci (eb (Aj Hb 2))
     |3,_=>exact eL ho HK (et (AD Hd 2)) (Fd (bc hG hlg x0))
     |4,_=>exact eF ho HK EC (eb (Aj Hb 3))
     |5,_=>exact eL ho HK (et (AD Hd 4)) (DA (bc hG hlb y2))
     |6,_=>obtain rfl:=So_ ho;have d3:(a.tmps[31]?.getD undef)= .slice am nm_ cm:=AD Hd 3;have d5:(a.tmps[33]?.getD undef)= .int .i64 an:=AD Hd 5;clear Hd Hb;refine AI.of rfl ?_;go_simp;refine(CX.out _ hG).mono ?_;rintro e w_ ⟨v',rfl,hO,hb2⟩;exact HK.out _ _ (BQ hO hG.size) hb2
     |7,_=>exact eF ho HK GO (eb (Aj Hb 2))
     |8,_=>exact eL ho HK (et (AD Hd 7)) (La (bc hG hlg x2))
     |9,_=>exact eF ho HK FY (eb (Aj Hb 3))
     |10,_=>exact eL ho HK (et (AD Hd 9)) (DA (bc hG hlb y1))
     |11,_=>obtain rfl:=So_ ho;have d8:(a.tmps[36]?.getD undef)= .slice (some ⟨ge,0,none⟩) 3 cape:=AD Hd 8;have d10:(a.tmps[38]?.getD undef)= .int .i64 en:=AD Hd 10;clear Hd Hb;refine AI.of rfl ?_;go_simp;exact HK.out _ _ rfl (Below.refl _ _)
     |12,_=>exact eF ho HK EV (et (AD Hd 11))
     |13,_=>exact eL ho HK (et (AD Hd 12)) (Ie (bc hG hge D0))
    ·intro vs wx hR hG
     have q1:(vs 1)= .slice (some ⟨gi,0,none⟩) 12 capi:=BI hR 1;have q6:AE w2.heap.size wx (vs 6) (Ak (El k.mem ((an:Int)))):=BI hR 6;have q13:(vs 13)= .slice ua (AC k.envs en).rights.length uc:=BI hR 13;clear hR;simp only[Ai,AX,List.range,List.range.loop,List.foldl_cons,List.foldl_nil,q1,q13];simp;generalize vs 6=z6 at q6 ⊢;clear q1 q13;have S3:=AA (S2.out.below hG);obtain⟨a8,c8,e8,_⟩:=q6.rd.open;have HQ:=AA q6.rd;generalize List.length _=n8 at e8;subst e8;have HbG:=AA hG;clear x0 x1 x2 x3 y0 y1 y2 y3 y4 y5 D0 D1 hG q6;go_wp2_with fail;refine(CA.out _ HbG.out _ HQ.out).mono ?_;rintro r w4 ⟨rfl,hb4⟩;have S4:=AA (S3.out.below hb4);clear hb4 HbG HQ CA;cases bb
     ·have HP3:=AA (show AU k ⟨7,(en:Int),(an:Int),b,c,nm⟩=(k,0,1) by rw[HP2.out];rfl)
      obtain⟨x0,x1,x2,x3⟩:=S4.out.xs;obtain⟨⟨z0,z1,z2,z3⟩,hfz⟩:=S4.out.zs;obtain⟨hB9,HR9⟩:=S4.out.bad (Nat.le_trans hlo (Nat.le_add_right _ _)) (Nat.le_add_right _ _) (v:=0) (code:=1) (HP3.out) (by decide);have HE:=AA (AB hB9);have HR:=AA HR9;clear hB9 HR9;go_wp2_with ((try simp only[Exit.inBlock,Exit.then]);with_reducible refine bodyPost_ret (v:= .tuple #[.agg #[_,_,_,_], .int .i64 (0), .int .i64 (1)]) ?_ rfl HR.out;obtain⟨E0,E1,E2,E3⟩:=HE.out;simp[results,Tryz.results229,go_sem,E0,E1,E2,E3])
     ·have HP3:=AA (show AU k ⟨7,(en:Int),(an:Int),b,c,nm⟩=({k with infos:=Br (BN k.infos (AC k.envs en).root) ((an:Int)),envs:=AV k.envs en (Bu ((an:Int))),cache:=Co k.cache (en:Int)},0,0) by rw[HP2.out];rfl)
      clear HP2;obtain⟨x0,x1,x2,x3⟩:=S4.out.xs;obtain⟨y0,y1,y2,y3,y4,y5⟩:=S4.out.ys6;obtain⟨_,_,_,D1,_⟩:=S4.out.env (j:=en) (by rw[HK.out.envl];exact hen)
      by_cases ho:(AC k.envs en).root<0
      ·have t5:¬(0:Int)≤(AC k.envs en).root:=by omega
       have HU:=AA (show BN k.infos (AC k.envs en).root=k.infos by unfold BN;rw[if_neg t5]);clear ho;have t7:(0:Int)≤(an:Int):=by omega
       have HR:=AA (show Br (BN k.infos (AC k.envs en).root) ((an:Int))=AV (k.infos) an (DK 1) by rw[HU.out];unfold Br;rw[if_pos t7,Int.toNat_natCast]);obtain⟨x0,x1,x2,x3⟩:=S4.out.xs;obtain⟨y0,y1,y2,y3,y4,y5⟩:=S4.out.ys6;obtain⟨hlb,hlg,_,_⟩:=S4.out.lts;have hgi:=S4.out.gi_lt;obtain⟨_,_,d2⟩:=S4.out.infoAt (f:=an) (by show an<(k.infos).length;have:=HK.out.len;(try simp only[Au]);omega)
       try simp only at d2
       have hrv0:=HK.out.refs_le han;generalize hrv:(infoAt (k.infos) an).r=rv at d2 hrv0;obtain⟨nr,hnr⟩:∃nr,rv+1=nr:=⟨_,rfl⟩
       have Hnr:=AA hnr;clear hnr;have hati:(an:Int)<12:=by omega
       go_wp2_with fail;refine AH 12 mixed (by kernel_rfl) 98 rfl (by kernel_rfl) (fun ix vv ww=>match ix with
        |0=>vv= .pointer (some ⟨w.heap.size,1,none⟩)
        |1=>vv= .slice (some ⟨gi,0,none⟩) 12 capi
        |2=>vv= .pointer (some ⟨w.heap.size+1,2,none⟩)
        |3=>vv= .int .i64 an
        |4=>vv= .pointer (some ⟨w.heap.size,1,none⟩)
        |5=>vv= .slice (some ⟨gi,0,none⟩) 12 capi
        |6=>vv= .pointer (some ⟨w.heap.size+1,2,none⟩)
        |7=>vv= .int .i64 an
        |8=>vv= .pointer (some ⟨gi,an*3,none⟩)
        |9=>vv= .pointer (some ⟨gi,an*3+2,none⟩)
        |10=>vv= .int .i64 rv
        |11=>vv= .int .i64 nr
        |_=>True) ?_ ?_ ?_
       ·intro i hi vv wz ww' hbz hz
        match i,hi with
        |0,_|1,_|2,_|3,_|4,_|5,_|6,_|7,_|8,_|9,_|10,_|11,_=>exact hz
       ·intro i hi o ho a wx Hb Hd hG K HK
        match i,hi with
        |0,_=>exact eF ho HK CU (eb (Aj Hb 2))
        |1,_=>exact eL ho HK (et (AD Hd 0)) (FF (bc hG hlg x1))
        |2,_=>exact eF ho HK EC (eb (Aj Hb 3))
        |3,_=>exact eL ho HK (et (AD Hd 2)) (DA (bc hG hlb y2))
        |4,_=>exact eF ho HK CU (eb (Aj Hb 2))
        |5,_=>exact eL ho HK (et (AD Hd 4)) (FF (bc hG hlg x1))
        |6,_=>exact eF ho HK EC (eb (Aj Hb 3))
        |7,_=>exact eL ho HK (et (AD Hd 6)) (DA (bc hG hlb y2))
        |8,_=>obtain rfl:=So_ ho;have d5:(a.tmps[74]?.getD undef)= .slice (some ⟨gi,0,none⟩) 12 capi:=AD Hd 5;have d7:(a.tmps[76]?.getD undef)= .int .i64 an:=AD Hd 7;clear Hd Hb;refine AI.of rfl ?_;go_simp;exact HK.out _ _ rfl (Below.refl _ _)
        |9,_=>exact eF ho HK GW (et (AD Hd 8))
        |10,_=>exact eL ho HK (et (AD Hd 9)) (DA (bc hG hgi d2))
        |11,_=>obtain rfl:=So_ ho;have d10:(a.tmps[79]?.getD undef)= .int .i64 rv:=AD Hd 10;clear Hd Hb;refine AI.of rfl ?_;go_simp;exact HK.out _ _ (by show Value.int .i64 (IntKind.i64.wrap (rv+1))= .int .i64 nr;rw[IntWalk.i64_in _ (by omega),Hnr.out]) (Below.refl _ _)
       ·intro vs wx hR hG
        have q1:(vs 1)= .slice (some ⟨gi,0,none⟩) 12 capi:=BI hR 1;have q3:(vs 3)= .int .i64 an:=BI hR 3;have q11:(vs 11)= .int .i64 nr:=BI hR 11;clear hR;simp only[Ai,AX,List.range,List.range.loop,List.foldl_cons,List.foldl_nil,q1,q3,q11];simp;clear q1 q3 q11;have SB:=AA (S4.out.below hG);obtain⟨_,_,d2w⟩:=SB.out.infoAt (f:=an) (by show an<(k.infos).length;have:=HK.out.len;(try simp only[Au]);omega);have Fr:=SB.out.fzi (an*3+2);have S6:=SB.out.info (by show 12=(k.infos).length;have:=HK.out.len;(try simp only[Au]);omega) (f:=an) (by show an<(k.infos).length;have:=HK.out.len;(try simp only[Au]);omega) (1)
        try simp only at S6 d2w
        rw[hrv] at S6 d2w;rw[show rv+1=nr by have:=Hnr.out;omega] at S6;replace S6:=AA S6;generalize hW6:wx.setCell _ _=W6 at S6;clear x0 x1 x2 x3 y0 y1 y2 y3 y4 y5 d2 hG SB;obtain⟨x0,x1,x2,x3⟩:=S6.out.xs;obtain⟨y0,y1,y2,y3,y4,y5⟩:=S6.out.ys6;obtain⟨_,_,D0,D1,_⟩:=S6.out.env (j:=en) (by show en<k.envs.length;rw[HK.out.envl];exact hen);have Fe:=S6.out.fze (en*2+1);have T1:=AA (S6.out.root HK.out.envl.symm (by show en<k.envs.length;rw[HK.out.envl];exact hen) ((an:Int)));generalize hW7:W6.setCell _ _=W7 at T1;have CD:=AA (fun W (h:Bn W (.slice ac nc cc) k.cache)=>Ho (.slice ac nc cc) k.cache (en:Int) W h (by have:=GQ HK.out;omega));have x3o:=T1.out.xs.2.2.2;obtain⟨_,yo,_⟩:=T1.out.ys6;go_wp2_with fail;refine(CD.out _ T1.out.K.2.2.2).mono ?_;rintro r w8 ⟨v',rfl,hO,hb8⟩;have T2:=AA (T1.out.cache hb8 hO);have fzg:=AM (T1.out.below hb8).ink.1;have x3p:=(T1.out.below hb8).xs.2.2.2;clear x0 x1 x2 x3 y0 y1 y2 y3 y4 y5 x3o yo D0 D1 Fe hW7;obtain⟨a9,c9,e9,_,_⟩:=hO.rd.shape;generalize List.length _=n9 at e9;subst e9;clear hO hb8;generalize hW10:w8.setCell _ _=W10 at T2;have HP4:=AA (show AU k ⟨7,(en:Int),(an:Int),b,c,nm⟩=({k with infos:=AV k.infos an (DK 1),envs:=AV k.envs en (Bu ((an:Int))),cache:=Co k.cache (en:Int)},0,0) by rw[HP3.out,HR.out]);obtain⟨x0,x1,x2,x3⟩:=T2.out.xs;obtain⟨⟨z0,z1,z2,z3⟩,hfz⟩:=T2.out.zs;obtain⟨hB9,HR9⟩:=T2.out.ret (Nat.le_trans hlo (Nat.le_add_right _ _)) (Nat.le_add_right _ _) (v:=0) (code:=0) (HP4.out);have HE:=AA (AB hB9);have HR:=AA HR9;clear hB9 HR9;go_wp2_with ((try simp only[Exit.inBlock,Exit.then]);with_reducible refine bodyPost_ret (v:= .tuple #[.agg #[_,_,_,_], .int .i64 (0), .int .i64 (0)]) ?_ rfl HR.out;obtain⟨E0,E1,E2,E3⟩:=HE.out;simp[results,Tryz.results229,go_sem,E0,E1,E2,E3])
      ·obtain⟨rn,hrn⟩:∃n:Nat,(AC k.envs en).root=(n:Int):=⟨(AC k.envs en).root.toNat,by omega⟩
       have hr12:rn<12:=by have:=root_lt HK.out hen;omega
       have HU:=AA (show BN k.infos (AC k.envs en).root=AV k.infos rn (DK (-1)) by unfold BN;rw[hrn,if_pos (by omega),Int.toNat_natCast]);rw[hrn] at D1;have t5:(0:Int)≤(rn:Int):=by omega
       clear ho hrn;obtain⟨x0,x1,x2,x3⟩:=S4.out.xs;obtain⟨y0,y1,y2,y3,y4,y5⟩:=S4.out.ys6;obtain⟨hlb,hlg,_,_⟩:=S4.out.lts;have hgi:=S4.out.gi_lt;obtain⟨_,_,d2⟩:=S4.out.infoAt (f:=rn) (by show rn<(k.infos).length;have:=HK.out.len;(try simp only[Au]);omega)
       try simp only at d2
       have hrv0:=HK.out.refs_le hr12;generalize hrv:(infoAt (k.infos) rn).r=rv at d2 hrv0;obtain⟨nr,hnr⟩:∃nr,rv - 1=nr:=⟨_,rfl⟩
       have Hnr:=AA hnr;clear hnr;have hati:(rn:Int)<12:=by omega
       go_wp2_with fail;refine AH 10 mixed (by kernel_rfl) 98 rfl (by kernel_rfl) (fun ix vv ww=>match ix with
        |0=>vv= .pointer (some ⟨w.heap.size,1,none⟩)
        |1=>vv= .slice (some ⟨gi,0,none⟩) 12 capi
        |2=>vv= .int .i64 rn
        |3=>vv= .pointer (some ⟨w.heap.size,1,none⟩)
        |4=>vv= .slice (some ⟨gi,0,none⟩) 12 capi
        |5=>vv= .int .i64 rn
        |6=>vv= .pointer (some ⟨gi,rn*3,none⟩)
        |7=>vv= .pointer (some ⟨gi,rn*3+2,none⟩)
        |8=>vv= .int .i64 rv
        |9=>vv= .int .i64 nr
        |_=>True) ?_ ?_ ?_
       ·intro i hi vv wz ww' hbz hz
        match i,hi with
        |0,_|1,_|2,_|3,_|4,_|5,_|6,_|7,_|8,_|9,_=>exact hz
       ·intro i hi o ho a wx Hb Hd hG K HK
        match i,hi with
        |0,_=>exact eF ho HK CU (eb (Aj Hb 2))
        |1,_=>exact eL ho HK (et (AD Hd 0)) (FF (bc hG hlg x1))
        |2,_=>exact eM ho HK (eb (Aj Hb 7))
        |3,_=>exact eF ho HK CU (eb (Aj Hb 2))
        |4,_=>exact eL ho HK (et (AD Hd 3)) (FF (bc hG hlg x1))
        |5,_=>exact eM ho HK (eb (Aj Hb 7))
        |6,_=>obtain rfl:=So_ ho;have d4:(a.tmps[58]?.getD undef)= .slice (some ⟨gi,0,none⟩) 12 capi:=AD Hd 4;have d5:(a.tmps[59]?.getD undef)= .int .i64 rn:=AD Hd 5;clear Hd Hb;refine AI.of rfl ?_;go_simp;exact HK.out _ _ rfl (Below.refl _ _)
        |7,_=>exact eF ho HK GW (et (AD Hd 6))
        |8,_=>exact eL ho HK (et (AD Hd 7)) (DA (bc hG hgi d2))
        |9,_=>obtain rfl:=So_ ho;have d8:(a.tmps[62]?.getD undef)= .int .i64 rv:=AD Hd 8;clear Hd Hb;refine AI.of rfl ?_;go_simp;exact HK.out _ _ (by show Value.int .i64 (IntKind.i64.wrap (rv - 1))= .int .i64 nr;rw[IntWalk.i64_in _ (by omega),Hnr.out]) (Below.refl _ _)
       ·intro vs wx hR hG
        have q1:(vs 1)= .slice (some ⟨gi,0,none⟩) 12 capi:=BI hR 1;have q2:(vs 2)= .int .i64 rn:=BI hR 2;have q9:(vs 9)= .int .i64 nr:=BI hR 9;clear hR;simp only[Ai,AX,List.range,List.range.loop,List.foldl_cons,List.foldl_nil,q1,q2,q9];simp;clear q1 q2 q9;have SB:=AA (S4.out.below hG);obtain⟨_,_,d2w⟩:=SB.out.infoAt (f:=rn) (by show rn<(k.infos).length;have:=HK.out.len;(try simp only[Au]);omega);have Fr:=SB.out.fzi (rn*3+2);have S5:=SB.out.info (by show 12=(k.infos).length;have:=HK.out.len;(try simp only[Au]);omega) (f:=rn) (by show rn<(k.infos).length;have:=HK.out.len;(try simp only[Au]);omega) (-1)
        try simp only at S5 d2w
        rw[hrv] at S5 d2w;rw[show rv+ -1=nr by have:=Hnr.out;omega] at S5;replace S5:=AA S5;generalize hW5:wx.setCell _ _=W5 at S5;clear x0 x1 x2 x3 y0 y1 y2 y3 y4 y5 d2 hG SB;have t7:(0:Int)≤(an:Int):=by omega
        have HR:=AA (show Br (BN k.infos (AC k.envs en).root) ((an:Int))=AV (AV k.infos rn (DK (-1))) an (DK 1) by rw[HU.out];unfold Br;rw[if_pos t7,Int.toNat_natCast]);obtain⟨x0,x1,x2,x3⟩:=S5.out.xs;obtain⟨y0,y1,y2,y3,y4,y5⟩:=S5.out.ys6;obtain⟨hlb,hlg,_,_⟩:=S5.out.lts;have hgi:=S5.out.gi_lt;obtain⟨_,_,d2⟩:=S5.out.infoAt (f:=an) (by show an<(AV k.infos rn (DK (-1))).length;have:=HK.out.len;(try simp only[Au]);omega)
        try simp only at d2
        have hrv0:=(show 0 - 1≤(infoAt (AV k.infos rn (DK (-1))) an).r∧(infoAt (AV k.infos rn (DK (-1))) an).r≤47 by
         have r1:=HK.out.refs_le han;rw[Ej]
         split
         ·next hx=>have r2:=HK.out.refs_le hr12;show 0 - 1≤(infoAt k.infos rn).r+ -1∧(infoAt k.infos rn).r+ -1≤47;omega
         ·omega)
        generalize hrv:(infoAt (AV k.infos rn (DK (-1))) an).r=rv at d2 hrv0;obtain⟨nr,hnr⟩:∃nr,rv+1=nr:=⟨_,rfl⟩
        have Hnr:=AA hnr;clear hnr;have hati:(an:Int)<12:=by omega
        go_wp2_with fail;refine AH 12 mixed (by kernel_rfl) 98 rfl (by kernel_rfl) (fun ix vv ww=>match ix with
         |0=>vv= .pointer (some ⟨w.heap.size,1,none⟩)
         |1=>vv= .slice (some ⟨gi,0,none⟩) 12 capi
         |2=>vv= .pointer (some ⟨w.heap.size+1,2,none⟩)
         |3=>vv= .int .i64 an
         |4=>vv= .pointer (some ⟨w.heap.size,1,none⟩)
         |5=>vv= .slice (some ⟨gi,0,none⟩) 12 capi
         |6=>vv= .pointer (some ⟨w.heap.size+1,2,none⟩)
         |7=>vv= .int .i64 an
         |8=>vv= .pointer (some ⟨gi,an*3,none⟩)
         |9=>vv= .pointer (some ⟨gi,an*3+2,none⟩)
         |10=>vv= .int .i64 rv
         |11=>vv= .int .i64 nr
         |_=>True) ?_ ?_ ?_
        ·intro i hi vv wz ww' hbz hz
         match i,hi with
         |0,_|1,_|2,_|3,_|4,_|5,_|6,_|7,_|8,_|9,_|10,_|11,_=>exact hz
        ·intro i hi o ho a wx Hb Hd hG K HK
         match i,hi with
         |0,_=>exact eF ho HK CU (eb (Aj Hb 2))
         |1,_=>exact eL ho HK (et (AD Hd 0)) (FF (bc hG hlg x1))
         |2,_=>exact eF ho HK EC (eb (Aj Hb 3))
         |3,_=>exact eL ho HK (et (AD Hd 2)) (DA (bc hG hlb y2))
         |4,_=>exact eF ho HK CU (eb (Aj Hb 2))
         |5,_=>exact eL ho HK (et (AD Hd 4)) (FF (bc hG hlg x1))
         |6,_=>exact eF ho HK EC (eb (Aj Hb 3))
         |7,_=>exact eL ho HK (et (AD Hd 6)) (DA (bc hG hlb y2))
         |8,_=>obtain rfl:=So_ ho;have d5:(a.tmps[74]?.getD undef)= .slice (some ⟨gi,0,none⟩) 12 capi:=AD Hd 5;have d7:(a.tmps[76]?.getD undef)= .int .i64 an:=AD Hd 7;clear Hd Hb;refine AI.of rfl ?_;go_simp;exact HK.out _ _ rfl (Below.refl _ _)
         |9,_=>exact eF ho HK GW (et (AD Hd 8))
         |10,_=>exact eL ho HK (et (AD Hd 9)) (DA (bc hG hgi d2))
         |11,_=>obtain rfl:=So_ ho;have d10:(a.tmps[79]?.getD undef)= .int .i64 rv:=AD Hd 10;clear Hd Hb;refine AI.of rfl ?_;go_simp;exact HK.out _ _ (by show Value.int .i64 (IntKind.i64.wrap (rv+1))= .int .i64 nr;rw[IntWalk.i64_in _ (by omega),Hnr.out]) (Below.refl _ _)
        ·intro vs wx hR hG
         have q1:(vs 1)= .slice (some ⟨gi,0,none⟩) 12 capi:=BI hR 1;have q3:(vs 3)= .int .i64 an:=BI hR 3;have q11:(vs 11)= .int .i64 nr:=BI hR 11;clear hR;simp only[Ai,AX,List.range,List.range.loop,List.foldl_cons,List.foldl_nil,q1,q3,q11];simp;clear q1 q3 q11;have SB:=AA (S5.out.below hG);obtain⟨_,_,d2w⟩:=SB.out.infoAt (f:=an) (by show an<(AV k.infos rn (DK (-1))).length;have:=HK.out.len;(try simp only[Au]);omega);have Fr:=SB.out.fzi (an*3+2);have S6:=SB.out.info (by show 12=(AV k.infos rn (DK (-1))).length;have:=HK.out.len;(try simp only[Au]);omega) (f:=an) (by show an<(AV k.infos rn (DK (-1))).length;have:=HK.out.len;(try simp only[Au]);omega) (1)
         try simp only at S6 d2w
         rw[hrv] at S6 d2w;rw[show rv+1=nr by have:=Hnr.out;omega] at S6;replace S6:=AA S6;generalize hW6:wx.setCell _ _=W6 at S6;clear x0 x1 x2 x3 y0 y1 y2 y3 y4 y5 d2 hG SB;obtain⟨x0,x1,x2,x3⟩:=S6.out.xs;obtain⟨y0,y1,y2,y3,y4,y5⟩:=S6.out.ys6;obtain⟨_,_,D0,D1,_⟩:=S6.out.env (j:=en) (by show en<k.envs.length;rw[HK.out.envl];exact hen);have Fe:=S6.out.fze (en*2+1);have T1:=AA (S6.out.root HK.out.envl.symm (by show en<k.envs.length;rw[HK.out.envl];exact hen) ((an:Int)));generalize hW7:W6.setCell _ _=W7 at T1;have CD:=AA (fun W (h:Bn W (.slice ac nc cc) k.cache)=>Ho (.slice ac nc cc) k.cache (en:Int) W h (by have:=GQ HK.out;omega));have x3o:=T1.out.xs.2.2.2;obtain⟨_,yo,_⟩:=T1.out.ys6;go_wp2_with fail;refine(CD.out _ T1.out.K.2.2.2).mono ?_;rintro r w8 ⟨v',rfl,hO,hb8⟩;have T2:=AA (T1.out.cache hb8 hO);have fzg:=AM (T1.out.below hb8).ink.1;have x3p:=(T1.out.below hb8).xs.2.2.2;clear x0 x1 x2 x3 y0 y1 y2 y3 y4 y5 x3o yo D0 D1 Fe hW7;obtain⟨a9,c9,e9,_,_⟩:=hO.rd.shape;generalize List.length _=n9 at e9;subst e9;clear hO hb8;generalize hW10:w8.setCell _ _=W10 at T2;have HP4:=AA (show AU k ⟨7,(en:Int),(an:Int),b,c,nm⟩=({k with infos:=AV (AV k.infos rn (DK (-1))) an (DK 1),envs:=AV k.envs en (Bu ((an:Int))),cache:=Co k.cache (en:Int)},0,0) by rw[HP3.out,HR.out]);obtain⟨x0,x1,x2,x3⟩:=T2.out.xs;obtain⟨⟨z0,z1,z2,z3⟩,hfz⟩:=T2.out.zs;obtain⟨hB9,HR9⟩:=T2.out.ret (Nat.le_trans hlo (Nat.le_add_right _ _)) (Nat.le_add_right _ _) (v:=0) (code:=0) (HP4.out);have HE:=AA (AB hB9);have HR:=AA HR9;clear hB9 HR9;go_wp2_with ((try simp only[Exit.inBlock,Exit.then]);with_reducible refine bodyPost_ret (v:= .tuple #[.agg #[_,_,_,_], .int .i64 (0), .int .i64 (0)]) ?_ rfl HR.out;obtain⟨E0,E1,E2,E3⟩:=HE.out;simp[results,Tryz.results229,go_sem,E0,E1,E2,E3])
   ·have t3:((infoAt k.infos an).k !=3)=true:=by simp[e3]
    have HP3:=AA (show AU k ⟨7,(en:Int),(an:Int),b,c,nm⟩=(k,0,3) by rw[HP.out,if_pos ⟨e1, .inr (by rw[Int.toNat_natCast];exact e3)⟩]);clear e1 e2 e3 HP ab;go_in;go_wp2_with fail;refine(Ae (Cg _ _)).mono ?_;rintro r w1 ⟨rfl,hb1⟩;rw[T.out];have S1:=AA (S0.out.below hb1);clear x0 x1 x2 x3 y0 y1 y2 y3 y4 y5 hb1 hW0;obtain⟨y0,y1,y2,y3,y4,y5⟩:=S1.out.ys6;obtain⟨d0,_,_⟩:=S1.out.infoAt (f:=an) (by rw[HK.out.len];exact han);obtain⟨x0,x1,x2,x3⟩:=S1.out.xs;obtain⟨⟨z0,z1,z2,z3⟩,hfz⟩:=S1.out.zs;obtain⟨hB9,HR9⟩:=S1.out.bad (Nat.le_trans hlo (Nat.le_add_right _ _)) (Nat.le_add_right _ _) (v:=0) (code:=3) (HP3.out) (by decide);have HE:=AA (AB hB9);have HR:=AA HR9;clear hB9 HR9;go_wp2_with ((try simp only[Exit.inBlock,Exit.then]);with_reducible refine bodyPost_ret (v:= .tuple #[.agg #[_,_,_,_], .int .i64 (0), .int .i64 (3)]) ?_ rfl HR.out;obtain⟨E0,E1,E2,E3⟩:=HE.out;simp[results,Tryz.results229,go_sem,E0,E1,E2,E3])
theorem VJ {ss:List ByteArray} {s:ByteArray} (h1:A2 ss=true) (h2:A4 s=true):Gu ss s=if(decide (LS ss s<ss.length)&&decide (Bp ss (LS ss s)=s))=true then(ss,true) else if ss.length=6 then(ss,false) else(Bb ss (LS ss s) s,true):=by
 unfold Gu;rw[h1,h2,←VM h1]
 show A6 ss s=_
 unfold A6;rw[UK];rfl
theorem Lm {ss:List ByteArray} {k:Nat} {s:ByteArray}:Bb ss k s=(ss.take k++[s])++ss.drop k:=by simp[Bb]
theorem Sp {w:World} {g T:Nat} {x:Value} (h:w.heap[g]? =some (.cells #[x] T (0,0))):Rd w (.slice (some ⟨g,0,none⟩) 1 1) 1 1 [x]:=by
 have h0:=cell_of_row _ _ 0 _ _ _ h;refine⟨_,_,rfl,Nat.le_refl _,by simp[maxLen],rfl,nofun,fun _=>⟨g,0,rfl,fun j hj=>?_⟩⟩;rw[Nat.zero_add]
 match j,hj with
 |0,_=>exact h0
 |_+1,hj=>exact absurd hj (by omega)
theorem Qr {w:World} {a:Option Addr} {c:Nat} {ss:List ByteArray} (h:BC w (.slice a ss.length c) ss) (a':Option Addr) (ha:a'=none→a=none):BC w (.slice a' 0 (c - ss.length)) (ss.drop ss.length):=by
 obtain⟨ao,c',hv,hmc,hcm,hl,hnil,hc⟩:=h;simp only[Value.slice.injEq] at hv;obtain⟨rfl,_,rfl⟩:=hv;rw[List.drop_length];exact⟨_,_,rfl,Nat.zero_le _,by omega,rfl,fun h=>by have:=hnil (ha h);omega,fun h=>absurd h (Nat.lt_irrefl 0)⟩
theorem NP (v:Value) (ss:List ByteArray) (s:ByteArray) (w:World) (h:BC w v ss) (hs:EB ss) (hz:s.size≤maxLen):Calls prog 246 #[v, .string s] w (VE w (Gu ss s)):=by
 have C1:=AA (K1 (GL v ss w h hs));have C2:=AA (fun W=>Ae (Df s W hz));obtain⟨pa,c,rfl,hc,hcm,H⟩:=A3.open EJ (by decide) h;have HR:=AA (fun W (hW:Below w.heap.size w W)=>A3.below h hW);have HH:=AA H;unfold maxLen at hcm;clear h hs hz H;generalize hrv:A2 ss=rv at C1;generalize hsv:A4 s=sv at C2;have HV:=AA (And.intro hrv hsv);clear hrv hsv;cases rv
 ·have P:=AA (show Gu ss s=([],false) by unfold Gu;rw[HV.out.1];rfl)
  go_in;go_wp2_with fail;refine C1.out.mono ?_;rintro r w1 ⟨rfl,b1⟩;go_wp2_with fail;go_ret2;exact⟨_,by rw[P.out];rfl,by rw[P.out];exact AJ.lower (CY An _ _ _) b1.size,b1.alloc b1.size _⟩
 ·cases sv
  ·have P:=AA (show Gu ss s=([],false) by unfold Gu;rw[HV.out.1,HV.out.2];rfl)
   go_in;go_wp2_with fail;refine C1.out.mono ?_;rintro r w1 ⟨rfl,b1⟩;go_wp2_with fail;refine(C2.out _).mono ?_;rintro r w2 ⟨rfl,b2⟩;have b3:=b1.trans (b2.mono b1.size);clear b1 b2;go_wp2_with fail;go_ret2;exact⟨_,by rw[P.out];rfl,by rw[P.out];exact AJ.lower (CY An _ _ _) b3.size,b3.alloc b3.size _⟩
  ·have hl6:=(ER.1 HV.out.1).2.2
   have HP:=AA (VJ (ss:=ss) (s:=s) HV.out.1 HV.out.2);go_in;go_wp2_with fail;refine C1.out.mono ?_;rintro r w1 ⟨rfl,b1⟩;go_wp2_with fail;refine(C2.out _).mono ?_;rintro r w2 ⟨rfl,b2⟩;have b3:=b1.trans (b2.mono b1.size);clear b1 b2 C1 C2;go_wp2_with fail;go_loopw [6] (fun ix wr=>∃k:Nat,k≤ss.length∧ix= .int .i64 k∧(∀j,j<k→Ke (Bp ss j) s=true)∧Below w.heap.size w wr) (fun ix _=>ss.length - (intOf ix).toNat)
   case atStart=>exact⟨0,Nat.zero_le _,rfl,fun j hj=>absurd hj (Nat.not_lt_zero _),b3⟩
   case round=>
    obtain⟨k,hk,rfl,hpre,hb⟩:=hrel;have Hpre:=AA hpre;have HB:=AA hb;clear hpre b3
    by_cases hlt:k<ss.length
    ·have hlti:(k:Int)<(ss.length:Int):=by omega
     obtain⟨b,off,rfl,D⟩:=(HH.out.below hb).str hlt;cases ht:Op.bytesLess (Bp ss k).toList s.toList
     ·have ECut:=AA (show LS ss s=k from PG hk Hpre.out (fun _=>ht))
      have Ht:=AA ht;clear hb
      by_cases he:Bp ss k=s
      ·have te:((Bp ss k).toList==s.toList)=true:=by rw[he];simp
       have P:=AA (show Gu ss s=(ss,true) by rw[HP.out,ECut.out,if_pos (by simp[hlt,he])]);clear he HP;go_wp2_with (at_builtin;go_must (refine Eu (cs:=An) rfl rfl 9 (.string ⟨#[]⟩) 1 16 underlying67 Tryz.infoStringK rfl (by decide) rfl (CY An _ _ _) rfl (HR.out _ (HB.out.trans ((AG _ _).mono HB.out.size))) (F0 _) (by omega) (by decide) (by simp) ?_;intro v' w9 hO hb9));have HO:=AA hO;obtain⟨a9,c9,e9,_,_⟩:=hO.rd.shape;generalize List.length _=n9 at e9;subst e9;have hbx:=AA ((HB.out.trans ((AG _ _).mono HB.out.size)).trans (hb9.mono HB.out.size));clear hO hb9;go_wp2_with fail;go_ret2;exact⟨_,by rw[P.out];rfl,by rw[P.out];exact HO.out.lower HB.out.size,hbx.out⟩
      ·have te:((Bp ss k).toList==s.toList)=false:=by
        rw[beq_eq_false_iff_ne];exact fun e=>he (ByteArray.ext (Array.toList_inj.mp (by rw[←Lib.toList_data,←Lib.toList_data];exact e)))
       have HP2:=AA (show Gu ss s=if ss.length=6 then(ss,false) else(Bb ss k s,true) by rw[HP.out,ECut.out,if_neg (by simp[he])]);clear he HP
       by_cases h6:ss.length=6
       ·have P:=AA (show Gu ss s=(ss,false) by rw[HP2.out,if_pos h6])
        have h6i:(6:Int)≤(ss.length:Int):=by omega
        clear h6;go_wp2_with (at_builtin;go_must (refine Eu (cs:=An) rfl rfl 9 (.string ⟨#[]⟩) 1 16 underlying67 Tryz.infoStringK rfl (by decide) rfl (CY An _ _ _) rfl (HR.out _ (HB.out.trans ((AG _ _).mono HB.out.size))) (F0 _) (by omega) (by decide) (by simp) ?_;intro v' w9 hO hb9));have HO:=AA hO;obtain⟨a9,c9,e9,_,_⟩:=hO.rd.shape;generalize List.length _=n9 at e9;subst e9;have hbx:=AA ((HB.out.trans ((AG _ _).mono HB.out.size)).trans (hb9.mono HB.out.size));clear hO hb9;go_wp2_with fail;go_ret2;exact⟨_,by rw[P.out];rfl,by rw[P.out];exact HO.out.lower HB.out.size,hbx.out⟩
       ·have P:=AA (show Gu ss s=(Bb ss k s,true) by rw[HP2.out,if_neg h6])
        have h6i:¬(6:Int)≤(ss.length:Int):=by omega
        have hkc:k≤c:=by omega
        clear h6;go_wp2_with fail;refine Bs 14 mixed 63 rfl (by kernel_rfl) rfl (fun ix=>ix==7||ix==11) (fun ll ix vv ww=>match ix with
         |0=>(ll 4=false→JM wr.heap.size 9 ww vv)
         |1=>vv= .slice (some ⟨b,off,none⟩) ss.length c
         |2=>vv= .int .i64 k
         |3=>(∀W',Below wr.heap.size wr W'→BC W' vv (ss.take k))
         |4=>(ll 7=false→AJ wr.heap.size 9 1 An ww vv (ss.take k))
         |5=>vv= .string s
         |6=>(ll 7=false→∃g,vv= .slice (some ⟨g,0,none⟩) 1 1∧ww.heap[g]? =some (.cells #[.string s] 9 (0,0)))
         |7=>(ll 11=false→AJ wr.heap.size 9 1 An ww vv (ss.take k++[s]))
         |8=>vv= .slice (some ⟨b,off,none⟩) ss.length c
         |9=>vv= .int .i64 k
         |10=>(∀W',Below wr.heap.size wr W'→BC W' vv (ss.drop k))
         |11=>AJ wr.heap.size 9 1 An ww vv (Bb ss k s)
         |12=>AJ wr.heap.size 9 1 An ww vv (Bb ss k s)
         |13=>vv= .bool true
         |_=>True) (fun ll ww=>Below wr.heap.size wr ww) ?_ ?_ ?_ ?_ ?_ ?_
        ·exact Ar (Below.refl _ _) 1
        ·intro j hj ll i vv wz ww' hi hS hLi hLj hbz hz
         match j,hj with
         |0,_=>exact(fun hL=>JM.below (hz (Em hL)) hbz)
         |1,_|2,_|3,_=>exact hz
         |4,_=>exact(fun hL=>AJ.below (hz (Em hL)) hbz)
         |5,_=>exact hz
         |6,_=>exact(fun hL=>by obtain⟨g,h0,h1⟩:=hz (Em hL);exact⟨g,h0,AF h1 hbz⟩)
         |7,_=>exact(fun hL=>AJ.below (hz (Em hL)) hbz)
         |8,_|9,_|10,_=>exact hz
         |11,_=>exact(AJ.below hz hbz)
         |12,_=>exact(AJ.below hz hbz)
         |13,_=>exact hz
        ·intro ll i wz ww' hi hS hLi hbz hg
         exact hg.trans (hbz.mono hg.size)
        ·intro i hi hS o ho a wx Hb ll Hd HL hG K HK
         match i,hi,hS with
         |0,_,_=>obtain rfl:=So_ ho;clear Hd Hb;refine AI.of rfl ?_;go_simp;exact HK.out _ _ (fun _=>⟨_,rfl,hG.size,heap_alloc_new _ _⟩) (AG _ _)
         |1,_,_=>obtain rfl:=So_ ho;exact eM ho HK (eb (Aj Hb 0))
         |2,_,_=>obtain rfl:=So_ ho;exact eM ho HK (eb (Aj Hb 6))
         |3,_,_=>obtain rfl:=So_ ho;have d1:(a.tmps[52]?.getD undef)= .slice (some ⟨b,off,none⟩) ss.length c:=Be Hd HL 1;have d2:(a.tmps[53]?.getD undef)= .int .i64 k:=Be Hd HL 2;clear Hd Hb;refine AI.of rfl ?_;go_simp;exact HK.out _ _ (fun W' hW=>Oj (HR.out W' (HB.out.trans (hW.mono HB.out.size))) rfl (by omega)) (Below.refl _ _)
         |4,_,_=>
          obtain rfl:=So_ ho;have d0:(ll 4=false→JM wr.heap.size 9 wx (a.tmps[51]?.getD undef)):=Be Hd HL 0;have d3:(∀W',Below wr.heap.size wr W'→BC W' (a.tmps[54]?.getD undef) (ss.take k)):=Be Hd HL 3;have u7:ll 7=false:=by
           cases hx:ll 7
           ·rfl
           ·exact absurd (HL.out.2.2 7 4 hx (by kernel_rfl)) (by rw[HL.out.1];decide)
          clear Hd Hb;refine AI.of rfl ?_;obtain⟨g_,d0a,d0b,d0c⟩:=d0 HL.out.1;obtain⟨v7,w4,hrun,r1,r2,_⟩:=Ct (lo:=wr.heap.size) (w:=wx) (t:=67) (ty:=67) 9 _ 1 16 underlying67 Tryz.infoStringK rfl (by decide) d0c d0b (d3 _ hG) (F0 _) (by rw[List.length_take];omega);refine BY rfl (BR d0a) (BR rfl) hrun ?_;exact HK.out _ _ (fun _=>r1) r2
         |5,_,_=>obtain rfl:=So_ ho;exact eM ho HK (eb (Aj Hb 1))
         |6,_,_=>
          obtain rfl:=So_ ho;have d5:(a.tmps[56]?.getD undef)= .string s:=Be Hd HL 5;have u7:ll 7=false:=by
           cases hx:ll 7
           ·rfl
           ·exact absurd (HL.out.2.2 7 6 hx (by kernel_rfl)) (by rw[HL.out.1];decide)
          clear Hd Hb;refine AI.of rfl ?_;go_simp;exact HK.out _ _ (fun _=>⟨_,rfl,heap_alloc_new _ _⟩) (AG _ _)
         |7,_,hs=>exact absurd hs (by decide)
         |8,_,_=>obtain rfl:=So_ ho;exact eM ho HK (eb (Aj Hb 0))
         |9,_,_=>obtain rfl:=So_ ho;exact eM ho HK (eb (Aj Hb 6))
         |10,_,_=>
          obtain rfl:=So_ ho;have d8:(a.tmps[59]?.getD undef)= .slice (some ⟨b,off,none⟩) ss.length c:=Be Hd HL 8;have d9:(a.tmps[60]?.getD undef)= .int .i64 k:=Be Hd HL 9;have u11:ll 11=false:=by
           cases hx:ll 11
           ·rfl
           ·exact absurd (HL.out.2.2 11 10 hx (by kernel_rfl)) (by rw[HL.out.1];decide)
          clear Hd Hb;refine AI.of rfl ?_;go_simp;rw[show(if c=k then some (⟨b,off,none⟩:Addr) else some ⟨b,off+k,none⟩)=some ⟨b,if c=k then off else off+k,none⟩ by split<;>rfl];exact HK.out _ _ (fun W' hW=>Tw (HR.out W' (HB.out.trans (hW.mono HB.out.size))) rfl (by omega) b _ (fun h=>⟨rfl,if_neg (by omega)⟩)) (Below.refl _ _)
         |11,_,hs=>exact absurd hs (by decide)
         |12,_,_=>obtain rfl:=So_ ho;have d11:AJ wr.heap.size 9 1 An wx (a.tmps[62]?.getD undef) (Bb ss k s):=Be Hd HL 11;have u7:ll 7=true:=HL.out.2.1 7 (by kernel_rfl);have u11:ll 11=true:=HL.out.2.1 11 (by kernel_rfl);clear Hd Hb;refine AI.of rfl ?_;go_simp;exact HK.out _ _ d11 (Below.refl _ _)
         |13,_,_=>obtain rfl:=So_ ho;exact eA ho HK rfl
        ·intro i hi hS o ho a wx Hb ll Hd HL hG K HK
         match i,hi,hS with
         |0,_,hs|1,_,hs|2,_,hs|3,_,hs|4,_,hs|5,_,hs|6,_,hs=>exact absurd hs (by decide)
         |7,_,_=>
          obtain rfl:=So_ ho;have d4:(ll 7=false→AJ wr.heap.size 9 1 An wx (a.tmps[55]?.getD undef) (ss.take k)):=Be Hd HL 4;have d6:(ll 7=false→∃g,(a.tmps[57]?.getD undef)= .slice (some ⟨g,0,none⟩) 1 1∧wx.heap[g]? =some (.cells #[.string s] 9 (0,0))):=Be Hd HL 6;have u11:ll 11=false:=by
           cases hx:ll 11
           ·rfl
           ·exact absurd (HL.out.2.2 11 7 hx (by kernel_rfl)) (by rw[HL.out.1];decide)
          clear Hd Hb;refine AI.of rfl ?_;have D4:=d4 HL.out.1;obtain⟨g6,e6,B6⟩:=d6 HL.out.1;obtain⟨v7,w4,hrun,r1,_,r3⟩:=IR (lo:=wr.heap.size) (w:=wx) (t:=67) 67 9 _ 1 16 underlying67 Tryz.infoStringK rfl (by decide) D4 (Sp B6) (by simp[Value.oneCell']) (by rw[List.length_take];unfold maxLen;omega) (by rw[List.length_take];omega) hG.size;refine BY rfl (BR rfl) (BR e6) hrun ?_;have r1':AJ wr.heap.size 9 1 An w4 v7 (ss.take k++[s]):=by unfold AJ;rw[BS,EO,List.length_append];exact r1
          exact HK.out _ _ (fun _=>r1') (hG.trans r3) (fun j hji hjn hjl hu=>match j,hjn with
           |0,_=>(fun h=>absurd ((Em h).symm.trans (HL.out.2.1 4 (by kernel_rfl))) (by decide))
           |1,_|2,_|3,_=>hu
           |4,_=>(fun h=>absurd h (by rw[FN];decide))
           |5,_=>hu
           |6,_=>(fun h=>absurd h (by rw[FN];decide))
           |7,_=>absurd rfl hji
           |8,_|9,_|10,_=>hu
           |11,_=>absurd (u11.symm.trans hjl) (by decide)
           |12,_=>absurd (u11.symm.trans (HL.out.2.2 12 11 hjl (by kernel_rfl))) (by decide)
           |13,_=>hu)
         |8,_,hs|9,_,hs|10,_,hs=>exact absurd hs (by decide)
         |11,_,_=>
          obtain rfl:=So_ ho;have d7:(ll 11=false→AJ wr.heap.size 9 1 An wx (a.tmps[58]?.getD undef) (ss.take k++[s])):=Be Hd HL 7;have d10:(∀W',Below wr.heap.size wr W'→BC W' (a.tmps[61]?.getD undef) (ss.drop k)):=Be Hd HL 10;have u7:ll 7=true:=HL.out.2.1 7 (by kernel_rfl);clear Hd Hb;refine AI.of rfl ?_;have D7:=d7 HL.out.1;obtain⟨v7,w4,hrun,r1,_,r3⟩:=IR (lo:=wr.heap.size) (w:=wx) (t:=67) 67 9 _ 1 16 underlying67 Tryz.infoStringK rfl (by decide) D7 (d10 _ hG) (F0 _) (by simp only[List.length_append,List.length_take,List.length_drop];unfold maxLen;simp;omega) (by simp only[List.length_append,List.length_take,List.length_drop];simp;omega) hG.size;refine BY rfl (BR rfl) (BR rfl) hrun ?_;have r1':AJ wr.heap.size 9 1 An w4 v7 (Bb ss k s):=by unfold AJ;rw[Lm,BS,List.length_append];exact r1
          exact HK.out _ _ r1' (hG.trans r3) (fun j hji hjn hjl hu=>match j,hjn with
           |0,_=>(fun h=>absurd ((Em h).symm.trans (HL.out.2.2 7 4 u7 (by kernel_rfl))) (by decide))
           |1,_|2,_|3,_=>hu
           |4,_=>(fun h=>absurd ((Em h).symm.trans (u7)) (by decide))
           |5,_=>hu
           |6,_=>(fun h=>absurd ((Em h).symm.trans (u7)) (by decide))
           |7,_=>(fun h=>absurd h (by rw[FN];decide))
           |8,_|9,_|10,_=>hu
           |11,_=>absurd rfl hji
           |12,_=>absurd (HL.out.1.symm.trans (HL.out.2.2 12 11 hjl (by kernel_rfl))) (by decide)
           |13,_=>hu)
         |12,_,hs|13,_,hs=>exact absurd hs (by decide)
        ·intro vs wx ll hall hR hG
         have q12:AJ wr.heap.size 9 1 An wx (vs 12) (Bb ss k s):=BI hR 12;have q13:(vs 13)= .bool true:=BI hR 13;clear hR;simp only[Dy,Bl,List.range,List.range.loop,List.foldl_cons,List.foldl_nil,q13];simp;generalize vs 12=z12 at q12 ⊢;clear q13;have HO:=AA q12;have hbx:=AA (HB.out.trans (hG.mono HB.out.size));go_wp2_with fail;go_ret2;exact⟨_,by rw[P.out];rfl,by rw[P.out];exact HO.out.lower HB.out.size,hbx.out⟩
     ·have Ht:=AA (show Ke (Bp ss k) s=true from ht)
      go_wp2_with fail;go_roundw
      case rel=>exact⟨k+1,by omega,by go_num,Ay Hpre.out Ht.out,hb⟩
      case measure=>simp[intOf];omega
    ·obtain rfl:k=ss.length:=by omega
     have ECut:=AA (show LS ss s=ss.length from PG hk Hpre.out (fun h=>absurd h (by omega)));have HP2:=AA (show Gu ss s=if ss.length=6 then(ss,false) else(Bb ss ss.length s,true) by rw[HP.out,ECut.out,if_neg (by simp)]);clear HP
     by_cases h6:ss.length=6
     ·have P:=AA (show Gu ss s=(ss,false) by rw[HP2.out,if_pos h6])
      have h6i:(6:Int)≤(ss.length:Int):=by omega
      clear h6;go_wp2_with (at_builtin;go_must (refine Eu (cs:=An) rfl rfl 9 (.string ⟨#[]⟩) 1 16 underlying67 Tryz.infoStringK rfl (by decide) rfl (CY An _ _ _) rfl (HR.out _ (HB.out.trans ((AG _ _).mono HB.out.size))) (F0 _) (by omega) (by decide) (by simp) ?_;intro v' w9 hO hb9));have HO:=AA hO;obtain⟨a9,c9,e9,_,_⟩:=hO.rd.shape;generalize List.length _=n9 at e9;subst e9;have hbx:=AA ((HB.out.trans ((AG _ _).mono HB.out.size)).trans (hb9.mono HB.out.size));clear hO hb9;go_wp2_with fail;go_ret2;exact⟨_,by rw[P.out];rfl,by rw[P.out];exact HO.out.lower HB.out.size,hbx.out⟩
     ·have P:=AA (show Gu ss s=(Bb ss ss.length s,true) by rw[HP2.out,if_neg h6])
      have h6i:¬(6:Int)≤(ss.length:Int):=by omega
      have hkc:ss.length≤c:=by omega
      clear h6;go_wp2_with fail;refine Bs 14 mixed 63 rfl (by kernel_rfl) rfl (fun ix=>ix==7||ix==11) (fun ll ix vv ww=>match ix with
       |0=>(ll 4=false→JM wr.heap.size 9 ww vv)
       |1=>vv= .slice pa ss.length c
       |2=>vv= .int .i64 ((ss.length:Int))
       |3=>(∀W',Below wr.heap.size wr W'→BC W' vv (ss.take ss.length))
       |4=>(ll 7=false→AJ wr.heap.size 9 1 An ww vv (ss.take ss.length))
       |5=>vv= .string s
       |6=>(ll 7=false→∃g,vv= .slice (some ⟨g,0,none⟩) 1 1∧ww.heap[g]? =some (.cells #[.string s] 9 (0,0)))
       |7=>(ll 11=false→AJ wr.heap.size 9 1 An ww vv (ss.take ss.length++[s]))
       |8=>vv= .slice pa ss.length c
       |9=>vv= .int .i64 ((ss.length:Int))
       |10=>(∀W',Below wr.heap.size wr W'→BC W' vv (ss.drop ss.length))
       |11=>AJ wr.heap.size 9 1 An ww vv (Bb ss ss.length s)
       |12=>AJ wr.heap.size 9 1 An ww vv (Bb ss ss.length s)
       |13=>vv= .bool true
       |_=>True) (fun ll ww=>Below wr.heap.size wr ww) ?_ ?_ ?_ ?_ ?_ ?_
      ·exact Ar (Below.refl _ _) 1
      ·intro j hj ll i vv wz ww' hi hS hLi hLj hbz hz
       match j,hj with
       |0,_=>exact(fun hL=>JM.below (hz (Em hL)) hbz)
       |1,_|2,_|3,_=>exact hz
       |4,_=>exact(fun hL=>AJ.below (hz (Em hL)) hbz)
       |5,_=>exact hz
       |6,_=>exact(fun hL=>by obtain⟨g,h0,h1⟩:=hz (Em hL);exact⟨g,h0,AF h1 hbz⟩)
       |7,_=>exact(fun hL=>AJ.below (hz (Em hL)) hbz)
       |8,_|9,_|10,_=>exact hz
       |11,_=>exact(AJ.below hz hbz)
       |12,_=>exact(AJ.below hz hbz)
       |13,_=>exact hz
      ·intro ll i wz ww' hi hS hLi hbz hg
       exact hg.trans (hbz.mono hg.size)
      ·intro i hi hS o ho a wx Hb ll Hd HL hG K HK
       match i,hi,hS with
       |0,_,_=>obtain rfl:=So_ ho;clear Hd Hb;refine AI.of rfl ?_;go_simp;exact HK.out _ _ (fun _=>⟨_,rfl,hG.size,heap_alloc_new _ _⟩) (AG _ _)
       |1,_,_=>obtain rfl:=So_ ho;exact eM ho HK (eb (Aj Hb 0))
       |2,_,_=>obtain rfl:=So_ ho;exact eM ho HK (eb (Aj Hb 6))
       |3,_,_=>obtain rfl:=So_ ho;have d1:(a.tmps[52]?.getD undef)= .slice pa ss.length c:=Be Hd HL 1;have d2:(a.tmps[53]?.getD undef)= .int .i64 ((ss.length:Int)):=Be Hd HL 2;clear Hd Hb;refine AI.of rfl ?_;go_simp;exact HK.out _ _ (fun W' hW=>Oj (HR.out W' (HB.out.trans (hW.mono HB.out.size))) rfl (by omega)) (Below.refl _ _)
       |4,_,_=>
        obtain rfl:=So_ ho;have d0:(ll 4=false→JM wr.heap.size 9 wx (a.tmps[51]?.getD undef)):=Be Hd HL 0;have d3:(∀W',Below wr.heap.size wr W'→BC W' (a.tmps[54]?.getD undef) (ss.take ss.length)):=Be Hd HL 3;have u7:ll 7=false:=by
         cases hx:ll 7
         ·rfl
         ·exact absurd (HL.out.2.2 7 4 hx (by kernel_rfl)) (by rw[HL.out.1];decide)
        clear Hd Hb;refine AI.of rfl ?_;obtain⟨g_,d0a,d0b,d0c⟩:=d0 HL.out.1;obtain⟨v7,w4,hrun,r1,r2,_⟩:=Ct (lo:=wr.heap.size) (w:=wx) (t:=67) (ty:=67) 9 _ 1 16 underlying67 Tryz.infoStringK rfl (by decide) d0c d0b (d3 _ hG) (F0 _) (by rw[List.length_take];omega);refine BY rfl (BR d0a) (BR rfl) hrun ?_;exact HK.out _ _ (fun _=>r1) r2
       |5,_,_=>obtain rfl:=So_ ho;exact eM ho HK (eb (Aj Hb 1))
       |6,_,_=>
        obtain rfl:=So_ ho;have d5:(a.tmps[56]?.getD undef)= .string s:=Be Hd HL 5;have u7:ll 7=false:=by
         cases hx:ll 7
         ·rfl
         ·exact absurd (HL.out.2.2 7 6 hx (by kernel_rfl)) (by rw[HL.out.1];decide)
        clear Hd Hb;refine AI.of rfl ?_;go_simp;exact HK.out _ _ (fun _=>⟨_,rfl,heap_alloc_new _ _⟩) (AG _ _)
       |7,_,hs=>exact absurd hs (by decide)
       |8,_,_=>obtain rfl:=So_ ho;exact eM ho HK (eb (Aj Hb 0))
       |9,_,_=>obtain rfl:=So_ ho;exact eM ho HK (eb (Aj Hb 6))
       |10,_,_=>
        obtain rfl:=So_ ho;have d8:(a.tmps[59]?.getD undef)= .slice pa ss.length c:=Be Hd HL 8;have d9:(a.tmps[60]?.getD undef)= .int .i64 ((ss.length:Int)):=Be Hd HL 9;have u11:ll 11=false:=by
         cases hx:ll 11
         ·rfl
         ·exact absurd (HL.out.2.2 11 10 hx (by kernel_rfl)) (by rw[HL.out.1];decide)
        clear Hd Hb;refine AI.of rfl ?_;go_simp
        rcases pa with _|ad
        ·go_simp
         exact HK.out _ _ (fun W' hW=>Qr (HR.out W' (HB.out.trans (hW.mono HB.out.size))) none (fun _=>rfl)) (Below.refl _ _)
        ·go_simp
         exact HK.out _ _ (fun W' hW=>Qr (HR.out W' (HB.out.trans (hW.mono HB.out.size))) _ (fun h=>by split at h<;>cases h)) (Below.refl _ _)
       |11,_,hs=>exact absurd hs (by decide)
       |12,_,_=>obtain rfl:=So_ ho;have d11:AJ wr.heap.size 9 1 An wx (a.tmps[62]?.getD undef) (Bb ss ss.length s):=Be Hd HL 11;have u7:ll 7=true:=HL.out.2.1 7 (by kernel_rfl);have u11:ll 11=true:=HL.out.2.1 11 (by kernel_rfl);clear Hd Hb;refine AI.of rfl ?_;go_simp;exact HK.out _ _ d11 (Below.refl _ _)
       |13,_,_=>obtain rfl:=So_ ho;exact eA ho HK rfl
      ·intro i hi hS o ho a wx Hb ll Hd HL hG K HK
       match i,hi,hS with
       |0,_,hs|1,_,hs|2,_,hs|3,_,hs|4,_,hs|5,_,hs|6,_,hs=>exact absurd hs (by decide)
       |7,_,_=>
        obtain rfl:=So_ ho;have d4:(ll 7=false→AJ wr.heap.size 9 1 An wx (a.tmps[55]?.getD undef) (ss.take ss.length)):=Be Hd HL 4;have d6:(ll 7=false→∃g,(a.tmps[57]?.getD undef)= .slice (some ⟨g,0,none⟩) 1 1∧wx.heap[g]? =some (.cells #[.string s] 9 (0,0))):=Be Hd HL 6;have u11:ll 11=false:=by
         cases hx:ll 11
         ·rfl
         ·exact absurd (HL.out.2.2 11 7 hx (by kernel_rfl)) (by rw[HL.out.1];decide)
        clear Hd Hb;refine AI.of rfl ?_;have D4:=d4 HL.out.1;obtain⟨g6,e6,B6⟩:=d6 HL.out.1;obtain⟨v7,w4,hrun,r1,_,r3⟩:=IR (lo:=wr.heap.size) (w:=wx) (t:=67) 67 9 _ 1 16 underlying67 Tryz.infoStringK rfl (by decide) D4 (Sp B6) (by simp[Value.oneCell']) (by rw[List.length_take];unfold maxLen;omega) (by rw[List.length_take];omega) hG.size;refine BY rfl (BR rfl) (BR e6) hrun ?_;have r1':AJ wr.heap.size 9 1 An w4 v7 (ss.take ss.length++[s]):=by unfold AJ;rw[BS,EO,List.length_append];exact r1
        exact HK.out _ _ (fun _=>r1') (hG.trans r3) (fun j hji hjn hjl hu=>match j,hjn with
         |0,_=>(fun h=>absurd ((Em h).symm.trans (HL.out.2.1 4 (by kernel_rfl))) (by decide))
         |1,_|2,_|3,_=>hu
         |4,_=>(fun h=>absurd h (by rw[FN];decide))
         |5,_=>hu
         |6,_=>(fun h=>absurd h (by rw[FN];decide))
         |7,_=>absurd rfl hji
         |8,_|9,_|10,_=>hu
         |11,_=>absurd (u11.symm.trans hjl) (by decide)
         |12,_=>absurd (u11.symm.trans (HL.out.2.2 12 11 hjl (by kernel_rfl))) (by decide)
         |13,_=>hu)
       |8,_,hs|9,_,hs|10,_,hs=>exact absurd hs (by decide)
       |11,_,_=>
        obtain rfl:=So_ ho;have d7:(ll 11=false→AJ wr.heap.size 9 1 An wx (a.tmps[58]?.getD undef) (ss.take ss.length++[s])):=Be Hd HL 7;have d10:(∀W',Below wr.heap.size wr W'→BC W' (a.tmps[61]?.getD undef) (ss.drop ss.length)):=Be Hd HL 10;have u7:ll 7=true:=HL.out.2.1 7 (by kernel_rfl);clear Hd Hb;refine AI.of rfl ?_;have D7:=d7 HL.out.1;obtain⟨v7,w4,hrun,r1,_,r3⟩:=IR (lo:=wr.heap.size) (w:=wx) (t:=67) 67 9 _ 1 16 underlying67 Tryz.infoStringK rfl (by decide) D7 (d10 _ hG) (F0 _) (by simp only[List.length_append,List.length_take,List.length_drop];unfold maxLen;simp;omega) (by simp only[List.length_append,List.length_take,List.length_drop];simp;omega) hG.size;refine BY rfl (BR rfl) (BR rfl) hrun ?_;have r1':AJ wr.heap.size 9 1 An w4 v7 (Bb ss ss.length s):=by unfold AJ;rw[Lm,BS,List.length_append];exact r1
        exact HK.out _ _ r1' (hG.trans r3) (fun j hji hjn hjl hu=>match j,hjn with
         |0,_=>(fun h=>absurd ((Em h).symm.trans (HL.out.2.2 7 4 u7 (by kernel_rfl))) (by decide))
         |1,_|2,_|3,_=>hu
         |4,_=>(fun h=>absurd ((Em h).symm.trans (u7)) (by decide))
         |5,_=>hu
         |6,_=>(fun h=>absurd ((Em h).symm.trans (u7)) (by decide))
         |7,_=>(fun h=>absurd h (by rw[FN];decide))
         |8,_|9,_|10,_=>hu
         |11,_=>absurd rfl hji
         |12,_=>absurd (HL.out.1.symm.trans (HL.out.2.2 12 11 hjl (by kernel_rfl))) (by decide)
         |13,_=>hu)
       |12,_,hs|13,_,hs=>exact absurd hs (by decide)
      ·intro vs wx ll hall hR hG
       have q12:AJ wr.heap.size 9 1 An wx (vs 12) (Bb ss ss.length s):=BI hR 12;have q13:(vs 13)= .bool true:=BI hR 13;clear hR;simp only[Dy,Bl,List.range,List.range.loop,List.foldl_cons,List.foldl_nil,q13];simp;generalize vs 12=z12 at q12 ⊢;clear q13;have HO:=AA q12;have hbx:=AA (HB.out.trans (hG.mono HB.out.size));go_wp2_with fail;go_ret2;exact⟨_,by rw[P.out];rfl,by rw[P.out];exact HO.out.lower HB.out.size,hbx.out⟩
end Go.Proofs.YtnieoiclifjoaaaGreatDoor
