/-
  Packed:2 texts.
-/
import Derived.Test.YteocokgpmgfbaaaGreatDoorY1
import Derived.Test.YteocokgpmgfbaaaGreatDoorY11
import Derived.Test.YteocokgpmgfbaaaGreatDoorY9
import Derived.Test.YteocokgpmgfbaaaGreatDoorY8
import Derived.Test.YteocokgpmgfbaaaGreatDoorY10
set_option linter.unusedVariables false
set_option linter.unusedSimpArgs false
set_option maxHeartbeats 16000000
set_option maxRecDepth 100000
namespace Go.Proofs.YteocokgpmgfbaaaGreatDoor
open Go.Proofs.Tryz
open Go.RowKit
theorem TJ (f:Int) (w:World) (h0:0≤f) (h1:f≤11):Calls prog 13 #[.int .i64 f, .bool true] w fun e w'=>e= .returned (.int .i64 (Og f))∧Below w.heap.size w w':=by unfold Og;go_in;go_wp2_with fail;go_ret;exact⟨rfl,Below.refl _ _⟩
def GB (W:World) (q:Nat) (k:AH) (t:Bool) (ww:World):Prop:=match t with
 |false=>Below W.heap.size W ww
 |true=>∃wz m i e c,Below W.heap.size W wz∧Ct W.heap.size wz m i e c k∧Below wz.heap.size (GH wz q m i e c) ww
theorem GB.grow {W:World} {q:Nat} {k:AH} {t:Bool} {ww ww':World} (h:GB W q k t ww) (hb:Below ww.heap.size ww ww'):GB W q k t ww':=by
 cases t
 ·exact Below.trans h (hb.mono (Below.size h))
 ·obtain⟨wz,m,i,e,c,h1,h3,h2⟩:=h
  exact⟨wz,m,i,e,c,h1,h3,h2.trans (hb.mono (by have:=h2.size;simpa[GH] using this))⟩
theorem GB.cell {W:World} {q:Nat} {k:AH} {t:Bool} {ww:World} (h:GB W q k t ww) (ht:t=false) {g o:Nat} {v:Value} (hg:g<W.heap.size) (hc:W.cell? ⟨g,o,none⟩=some v):ww.cell? ⟨g,o,none⟩=some v:=by subst ht;exact(Below.cell (p:=⟨g,o,none⟩) h hg).trans hc
def Jc (lo:Nat) (v:Value) (w:World) (k:AH) (x:Int) (b:Bool):Prop:=∃m i e c,v= .tuple #[.agg #[m,i,e,c], .int .i64 x, .bool b]∧Ct lo w m i e c k
theorem Jc.below {lo:Nat} {v:Value} {w w':World} {k:AH} {x:Int} {b:Bool} (h:Jc lo v w k x b) (hb:Below w.heap.size w w'):Jc lo v w' k x b:=by obtain⟨m,i,e,c,h1,h2⟩:=h;exact⟨m,i,e,c,h1,h2.below hb⟩
theorem Jc.far {lo g:Nat} {v:Value} {w w':World} {k:AH} {x:Int} {b:Bool} {cu:Array Value} (h:Jc lo v w k x b) (hg:w.grownBy w' (some g)) (hB:w.heap[g]? =some (.cells cu 27 (0,0))):Jc lo v w' k x b:=by obtain⟨m,i,e,c,h1,h2⟩:=h;exact⟨m,i,e,c,h1,h2.far hg hB (by decide) (by decide) (by decide) (by decide) (by decide) (by decide)⟩
def LZ (lo:Nat) (w:World) (v:Value):Prop:=∃vs,AC lo 28 1 Dz w v vs∧vs.length=16∧∀u∈vs,∃a cap,u= .slice a 0 cap∧cap≤maxLen∧(a=none→cap=0)
theorem LZ.of {lo:Nat} {w:World} {v:Value} {vs:List Value} (h:AV lo w v vs (List.replicate 16 [])):LZ lo w v:=by
 have hl:vs.length=16:=h.2.1.1.trans (List.length_replicate ..);refine⟨vs,h.1,hl,fun u hu=>?_⟩;obtain⟨j,hj⟩:=List.getElem?_of_mem hu;have hjl:=(List.getElem?_eq_some_iff.1 hj).1;have hr:=h.2.1.2 j u [] hj (by rw[List.getElem?_replicate,if_pos (by omega)]);obtain⟨a,cap,rfl,_,hc,_,hn,_⟩:=hr.rd;exact⟨a,cap,rfl,hc,hn⟩
theorem LZ.below {lo:Nat} {w w':World} {v:Value} (h:LZ lo w v) (hb:Below w.heap.size w w'):LZ lo w' v:=by obtain⟨vs,h1,h2⟩:=h;exact⟨vs,AC.below h1 hb,h2⟩
theorem LZ.lower {lo lo':Nat} {w:World} {v:Value} (h:LZ lo w v) (hl:lo'≤lo):LZ lo' w v:=by obtain⟨vs,h1,h2⟩:=h;exact⟨vs,Bd h1 hl,h2⟩
theorem LZ.far {lo g T:Nat} {w w':World} {v:Value} {cu:Array Value} {fr:Nat×Nat} (h:LZ lo w v) (hg:w.grownBy w' (some g)) (hB:w.heap[g]? =some (.cells cu T fr)) (hT:28≠T):LZ lo w' v:=by obtain⟨vs,h1,h2⟩:=h;exact⟨vs,AC.far h1 hg hB hT,h2⟩
theorem LZ.grown {lo:Nat} {w w':World} {v:Value} {o:Option Nat} (h:LZ lo w v) (hg:w.grownBy w' o) (hT:∀b,v.ownBlock=some b→o≠some b):LZ lo w' v:=by
 obtain⟨vs,h1,h2⟩:=h;refine⟨vs,An h1 hg ?_,h2⟩
 rcases hv:v.ownBlock with _|b
 ·exact .inl rfl
 ·exact .inr (hT b hv).symm
theorem LZ.rd {lo:Nat} {w:World} {v:Value} (h:LZ lo w v):BI w v (List.replicate 16 []):=by
 obtain⟨vs,h1,h2,h3⟩:=h;refine⟨vs,h1.rd,⟨by rw[h2,List.length_replicate],fun i x y hx hy=>?_⟩⟩;obtain⟨a,cap,rfl,hc,hn⟩:=h3 x (List.mem_of_getElem? hx);rw[List.getElem?_replicate] at hy
 split at hy
 ·cases hy
  exact⟨a,cap,rfl,Nat.zero_le _,hc,rfl,hn,fun h0=>absurd h0 (Nat.lt_irrefl 0)⟩
 ·cases hy
theorem LZ.slice {lo:Nat} {w:World} {v:Value} (h:LZ lo w v):∃a n c,v= .slice a n c:=by obtain⟨vs,h1,_⟩:=h;obtain⟨_,_,rfl,_,_⟩:=h1.rd.shape;exact⟨_,_,_,rfl⟩
structure IA (lo g gk q:Nat) (w:World) (l:Int) (n j:Nat) (m i e c sv lv qv:Value):Prop where
 pb:w.heap[g]? =some (.cells #[.slice none 0 0, .slice none 0 0, .slice none 0 0, .slice none 0 0,sv,lv,qv, .int .i64 0, .int .i64 l] 31 (0,0))
 kb:w.heap[q]? =some (.cells #[m,i,e,c] 27 (0,0))
 gb:∃a b c d,w.heap[gk]? =some (.cells #[a,b,c,d] 27 (0,0))
 glo:lo≤g∧lo≤gk∧lo≤q∧lo≤w.heap.size
 ker:Ct lo w m i e c (Ch n)
 swp:LZ lo w sv
 low:AE lo w lv (Fh j)
 pgs:AC lo 73 3 CQ w qv (List.replicate 16 ⟨0,0,false⟩)
section
variable {lo g gk q:Nat} {w w1:World} {l:Int} {n j:Nat} {m i e c sv lv qv:Value}
theorem IA.below (h:IA lo g gk q w l n j m i e c sv lv qv) (hb:Below w.heap.size w w1):IA lo g gk q w1 l n j m i e c sv lv qv:=by obtain⟨a,b,c',d,hg⟩:=h.gb;exact⟨AG h.pb hb,AG h.kb hb,⟨a,b,c',d,AG hg hb⟩,⟨h.glo.1,h.glo.2.1,h.glo.2.2.1,Nat.le_trans h.glo.2.2.2 hb.size⟩,h.ker.below hb,h.swp.below hb,h.low.below hb,h.pgs.below hb⟩
theorem IA.keep (h:IA lo g gk q w l n j m i e c sv lv qv) {p:Nat} {cu:Array Value} (hp:w.heap[p]? =some (.cells cu 27 (0,0))) (hg:w.grownBy w1 (some p)):
 w1.heap[g]? =some (.cells #[.slice none 0 0, .slice none 0 0, .slice none 0 0, .slice none 0 0,sv,lv,qv, .int .i64 0, .int .i64 l] 31 (0,0))∧LZ lo w1 sv∧AE lo w1 lv (Fh j)∧AC lo 73 3 CQ w1 qv (List.replicate 16 ⟨0,0,false⟩):=
 ⟨BD h.pb hg (DY hp h.pb (by decide)),h.swp.far hg hp (by decide),EN h.low hg hp (by decide),h.pgs.far hg hp (by decide)⟩
theorem IA.put {n':Nat} {m' i' e' c':Value} (h:IA lo g gk q w l n j m i e c sv lv qv) (hb:Below w.heap.size w w1) (O:Ct w.heap.size w1 m' i' e' c' (Ch n')):IA lo g gk q (GH w1 q m' i' e' c') l n' j m' i' e' c' sv lv qv:=by
 have h':=h.below hb;have hgr:=BJ w1 q m' i' e' c';obtain⟨k1,k2,k3,k4⟩:=h'.keep h'.kb hgr;obtain⟨a,b,c2,d,hg⟩:=h'.gb;refine⟨k1,DB h'.kb,?_,⟨h.glo.1,h.glo.2.1,h.glo.2.2.1,Nat.le_trans h'.glo.2.2.2 hgr.size⟩,(O.far hgr h'.kb (by decide) (by decide) (by decide) (by decide) (by decide) (by decide)).lower h.glo.2.2.2,k2,k3,k4⟩
 by_cases e:q=gk
 ·subst e
  exact⟨_,_,_,_,DB h'.kb⟩
 ·exact⟨a,b,c2,d,BD hg hgr e⟩
theorem IA.new {n':Nat} {m' i' e' c':Value} (h:IA lo g gk q w l n j m i e c sv lv qv) (hb:Below w.heap.size w w1) (O:Ct w.heap.size w1 m' i' e' c' (Ch n')):IA lo g gk w1.heap.size (w1.alloc (.cells #[m',i',e',c'] 27)) l n' j m' i' e' c' sv lv qv:=by have h':=(h.below hb).below (AF w1 (.cells #[m',i',e',c'] 27));exact⟨h'.pb,heap_alloc_new _ _,h'.gb,⟨h.glo.1,h.glo.2.1,Nat.le_trans h.glo.2.2.2 hb.size,h'.glo.2.2.2⟩,(O.below (AF _ _)).lower h.glo.2.2.2,h'.swp,h'.low,h'.pgs⟩
theorem IA.back (h:IA lo g gk q w l n j m i e c sv lv qv):IA lo g gk gk (GH w gk m i e c) l n j m i e c sv lv qv:=by obtain⟨a,b,c2,d,hg⟩:=h.gb;have hgr:=BJ w gk m i e c;obtain⟨k1,k2,k3,k4⟩:=h.keep hg hgr;exact⟨k1,DB hg,⟨_,_,_,_,DB hg⟩,⟨h.glo.1,h.glo.2.1,h.glo.2.1,Nat.le_trans h.glo.2.2.2 hgr.size⟩,h.ker.far hgr hg (by decide) (by decide) (by decide) (by decide) (by decide) (by decide),k2,k3,k4⟩
theorem IA.push {B:Nat} {w4 w5:World} {o':Value} {fr:Int} (h:IA lo g gk q w l n j m i e c sv lv qv) (K:Ct B w m i e c (Ch n)) (hB:lo≤B) (hr:∀b,lv.ownBlock=some b→b<B) (b4:Below w.heap.size w w4) (q1:w5.ownsRow lo 3 1 o' (j+1) ((Fh j).map (Value.int .i64)++[.int .i64 fr])) (q2:w4.grownBy w5 lv.ownBlock) (hfr:fr=((j+1:Nat):Int)):
 w5.heap[g]? =some (.cells #[.slice none 0 0, .slice none 0 0, .slice none 0 0, .slice none 0 0,sv,lv,qv, .int .i64 0, .int .i64 l] 31 (0,0))∧IA lo g gk q (w5.setCell ⟨g,5,none⟩ o') l n (j+1) m i e c sv o' qv:=by
 have h4:=h.below b4;have hne:=Bs h4.low h4.pb (by decide);have hnq:=Bs h4.low h4.kb (by decide);obtain⟨a,b,c2,d,hg⟩:=h4.gb;have hng:=Bs h4.low hg (by decide);have hB5:=(q2.block g (Aq h4.pb) (fun e=>hne e.symm)).trans h4.pb;have hK5:=(q2.block q (Aq h4.kb) (fun e=>hnq e.symm)).trans h4.kb;have hG5:=(q2.block gk (Aq hg) (fun e=>hng e.symm)).trans hg;have gr:=Aj w5 g 5 o';have S6:=(h4.swp.grown q2 (fun b hb he=>by obtain⟨vs,o1,_⟩:=h4.swp;obtain⟨cu1,hc1⟩:=A8 o1 b hb;obtain⟨cu2,hc2⟩:=A8 h4.low b he;rw[hc1] at hc2;simp at hc2)).far gr hB5 (by decide)
 have hlow:AE lo w5 o' (Fh (j+1)):=by rw[Ma,←hfr];simpa[AE,JQ] using q1
 refine⟨hB5,⟨?_,BD hK5 gr (DY hB5 hK5 (by decide)),⟨a,b,c2,d,BD hG5 gr (DY hB5 hG5 (by decide))⟩,⟨h.glo.1,h.glo.2.1,h.glo.2.2.1,Nat.le_trans h4.glo.2.2.2 (Nat.le_trans q2.size gr.size)⟩,(((K.below b4).past q2 hr).lower hB).far gr hB5 (by decide) (by decide) (by decide) (by decide) (by decide) (by decide),S6,EN hlow gr hB5 (by decide),EN (An h4.pgs q2 (BA h4.pgs h4.low (by decide)).ne) gr hB5 (by decide)⟩⟩
 ·have:=heap_setCell_same w5 g 5 _ _ o' hB5
  simpa using this
end
theorem Nn {w:World} {m i e c:Value} {n:Nat} (h:L6 w m i e c (Ch n)) (hn:n≤15) (kind a b x:Int) (hx:x≤9223372036854775807) {v:Int} (hc:AO (Ch n) (DP kind a b x)=(Ch (n+1),v,0)):
 Calls prog 12 #[.agg #[m,i,e,c], .int .i64 kind, .int .i64 a, .int .i64 b, .int .i64 x] w
  (fun r w'=>∃m i e c,r= .returned (.tuple #[.agg #[m,i,e,c], .int .i64 v, .bool true])∧Ct w.heap.size w' m i e c (Ch (n+1))∧Below w.heap.size w w'):=by
 have:=QL h (QR n hn) kind a b x hx;rw[hc] at this;exact this
theorem PT (l:Int) (w:World) (h:Bv l 1 6=false):Calls prog 4 #[.int .i64 l] w fun r w'=>Tq r∧Below w.heap.size w w':=by have N0:=heap_alloc_new w (.cells #[.slice none 0 0, .slice none 0 0, .slice none 0 0, .slice none 0 0, .slice none 0 0, .slice none 0 0, .slice none 0 0, .int .i64 0, .int .i64 0] 31);have f0:=AI N0;obtain⟨x0,x1,x2,x3,x4,x5,x6,x7,x8⟩:=Ad N0;go_in;go_wp2_with fail;refine(DH _ _ _ _).mono ?_;rintro e w' ⟨rfl,rfl⟩;rw[h];go_wp2_with fail;exact bodyPost_ret (v:= .tuple #[.agg #[_,_,_,_,_,_,_,_,_],_]) (by simp[results,Tryz.results4,go_sem,x0,x1,x2,x3,x4,x5,x6,x7,x8]) rfl ⟨rfl,AF _ _⟩
def Qp (w:World) (P:BU) (b:Bool) (r:Ending) (w':World):Prop:=∃m i e c s lo q,r= .returned (.tuple #[Cu m i e c s lo q P.hand P.limit, .bool b])∧Pg w' m i e c s lo q P∧Below w.heap.size w w'
def Ko (lo:Nat) (v:Value) (w:World) (l:Int):Prop:=∃s lv q,v= .agg #[.slice none 0 0, .slice none 0 0, .slice none 0 0, .slice none 0 0,s,lv,q, .int .i64 0, .int .i64 l]∧LZ lo w s∧AE lo w lv []∧AC lo 73 3 CQ w q (List.replicate 16 ⟨0,0,false⟩)
theorem Ko.below {lo:Nat} {v:Value} {w w':World} {l:Int} (h:Ko lo v w l) (hb:Below w.heap.size w w'):Ko lo v w' l:=by obtain⟨s,lv,q,h1,h2,h3,h4⟩:=h;exact⟨s,lv,q,h1,h2.below hb,h3.below hb,h4.below hb⟩
theorem NU (l:Int) (w:World) (h1:1≤l) (h6:l≤6):Calls prog 4 #[.int .i64 l] w (Qp w (GF l) true):=by
 have N0:=heap_alloc_new w (.cells #[.slice none 0 0, .slice none 0 0, .slice none 0 0, .slice none 0 0, .slice none 0 0, .slice none 0 0, .slice none 0 0, .int .i64 0, .int .i64 0] 31);have b0:=AF w (.cells #[.slice none 0 0, .slice none 0 0, .slice none 0 0, .slice none 0 0, .slice none 0 0, .slice none 0 0, .slice none 0 0, .int .i64 0, .int .i64 0] 31);go_in;go_wp2_with fail;refine(DH _ _ _ _).mono ?_;rintro e w' ⟨rfl,rfl⟩;rw[show Bv l 1 6=true from Ac.2 ⟨h1,h6⟩];have hgw:=Aq N0;generalize w.alloc _=W0 at*;go_wp2_with fail;have hr3:=Sa W0 ⟨#[97]⟩ ⟨#[98]⟩ ⟨#[99]⟩ 9 40;have bn:=((FQ W0 (.cells #[.string ⟨#[97]⟩] 9) (.cells #[.string ⟨#[98]⟩] 9)).trans ((AF _ (.cells #[.string ⟨#[99]⟩] 9)).mono (FQ W0 _ _).size));replace bn:=bn.trans ((AF _ (.cells #[.slice (some ⟨W0.heap.size,0,none⟩) 1 1, .slice (some ⟨W0.heap.size+1,0,none⟩) 1 1, .slice (some ⟨W0.heap.size+1+1,0,none⟩) 1 1] 40)).mono bn.size);generalize(((W0.alloc _).alloc _).alloc _).alloc _=w5 at*;refine(Lx _ JT w5 hr3 rfl J6 Jo).mono ?_;rintro e w6 ⟨mk,ik,ek,ck,rfl,O6,b6⟩;rw[LO] at O6;obtain⟨⟨ma,mn,mc,rfl⟩,⟨ia,iN,ic,rfl⟩,⟨ea,en,ec,rfl⟩,⟨qa,qn,qc,rfl⟩⟩:=O6.shapes;have b7:=AF w6 (.cells #[.slice ma mn mc, .slice ia iN ic, .slice ea en ec, .slice qa qn qc] 27);have N7:=heap_alloc_new w6 (.cells #[.slice ma mn mc, .slice ia iN ic, .slice ea en ec, .slice qa qn qc] 27);have O7:=(O6.below b7).lower bn.size;have B7:=bn.trans ((b6.trans (b7.mono b6.size)).mono bn.size);have hgk0:W0.heap.size≤w6.heap.size:=Nat.le_trans bn.size b6.size;go_wp2_with fail;generalize w6.heap.size=gk at N7 hgk0 ⊢;generalize w6.alloc _=W7 at*;have HO:=AA O7;have HB:=AA B7;have HN:=AA N0;have HN7:=AA N7;have Hb:=AA b0;clear hr3 bn O6 b6 b7 N7 O7 B7 N0 b0;refine Am 6 87 [.z, .z, .z, .i l, .z, .z] (fun ix vv ww=>match ix with
  |0=>LZ W7.heap.size ww vv
  |1=>AE W7.heap.size ww vv []
  |2=>AC W7.heap.size 73 3 CQ ww vv (List.replicate 16 ⟨0,0,false⟩)
  |4=>Ko W7.heap.size vv ww l
  |5=>GT W7.heap.size vv ww
  |_=>True) ?_ ?_ ?_
 ·intro i hi o ho a wx Hb Hd hG K HK
  match i,hi with
  |0,_=>exact sC ho HK Hb Hd (RZ _) (by rintro r w_ ⟨v',vs,rfl,hO,hb2⟩;exact⟨_,rfl,((LZ.of hO).lower hG.size),hb2⟩)
  |3,_=>exact sP ho HK Hb Hd
  |1,_=>obtain rfl:=So_ ho;clear Hd Hb;refine Aa.of rfl ?_;go_simp;exact HK.out _ _ (Bd (FW wx) hG.size) (AF _ _)
  |2,_=>obtain rfl:=So_ ho;clear Hd Hb;obtain⟨i0,hi0,hz0,hz1,hz2⟩:=info_parts Tryz.infoPageK;obtain⟨w9,hrun,h3,h4⟩:=run_make_full (P:=prog) wx wx.heap.size 29 73 i0 _ 3 underlying29 hi0 hz0 hz1 .i64 .i64 16 (by rw[hz2];decide) (by decide) (Nat.le_refl _);have h5:=Below.of_grown h4;rw[Nm] at h3;have hrun':(Instr.makeSlice 29 (.int .i64 16) (.int .i64 16)).run prog wx= .ok (.slice (some ⟨wx.heap.size,0,none⟩) 16 16) w9:=hrun;clear hi0 hz0 hz1 hz2 hrun;refine Aa.of rfl ?_;go_simp;exact HK.out _ _ (Bd h3 hG.size) h5
  |4,_=>obtain rfl:=So_ ho;have d0:LZ W7.heap.size wx (a.tmps[25]?.getD undef):=Bx Hd 0;have d1:AE W7.heap.size wx (a.tmps[26]?.getD undef) []:=Bx Hd 1;have d2:AC W7.heap.size 73 3 CQ wx (a.tmps[27]?.getD undef) (List.replicate 16 ⟨0,0,false⟩):=Bx Hd 2;have d3:(a.tmps[28]?.getD undef)= .int .i64 l:=Bx Hd 3;clear Hd Hb;generalize e25:a.tmps[25]?.getD undef=s' at d0;generalize e26:a.tmps[26]?.getD undef=l' at d1;generalize e27:a.tmps[27]?.getD undef=q' at d2;have D0:=AA d0;have D1:=AA d1;have D2:=AA d2;obtain⟨_,_,_,rfl⟩:=d0.slice;obtain⟨_,_,rfl,_,_,_⟩:=d1.rd.open;obtain⟨_,_,rfl,_,_⟩:=d2.rd.shape;clear d0 d1 d2;refine Aa.of rfl ?_;go_simp;exact HK.out _ _ ⟨_,_,_,rfl,D0.out,D1.out,D2.out⟩ (Below.refl _ _)
  |5,_=>obtain rfl:=So_ ho;clear Hd Hb;refine Aa.of rfl ?_;go_simp;exact HK.out _ _ ⟨_,rfl,hG.size,heap_alloc_new _ _⟩ (AF _ _)
 ·intro i hi vv wz ww' hbz hz
  match i,hi with
  |0,_=>exact(LZ.below hz hbz)
  |1,_=>exact(AE.below hz hbz)
  |2,_=>exact(AC.below hz hbz)
  |4,_=>exact(Ko.below hz hbz)
  |5,_=>exact(GT.below hz hbz)
  |3,_=>exact hz
 ·intro vs wx hR hG
  have q4:Ko W7.heap.size (vs 4) wx l:=BT hR 4;have q5:GT W7.heap.size (vs 5) wx:=BT hR 5;clear hR;simp only[Ai,AQ,List.range,List.range.loop,List.foldl_cons,List.foldl_nil];simp;generalize vs 4=z4 at q4 ⊢;generalize vs 5=z5 at q5 ⊢;obtain⟨s',l',q',rfl,r1,r0,r2⟩:=q4;obtain⟨g,rfl,hg7,hgB⟩:=q5;obtain⟨sa,sn,sc,rfl⟩:=r1.slice;obtain⟨la,ln,lc,rfl⟩:∃a n c,l'= .slice a n c:=by obtain⟨_,_,rfl,_,_,_⟩:=r0.rd.open;exact⟨_,_,_,rfl⟩
  obtain⟨pa,pn,pc,rfl⟩:∃a n c,q'= .slice a n c:=by obtain⟨_,_,rfl,_,_⟩:=r2.rd.shape;exact⟨_,_,_,rfl⟩
  obtain⟨x0,x1,x2,x3,x4,x5,x6,x7,x8⟩:=Ad hgB;have fz:=AI hgB;go_step;go_simp;have hgr:=Gw (w:=wx) (g:=g) (b0:= .slice none 0 0) (b1:= .slice none 0 0) (b2:= .slice none 0 0) (b3:= .slice none 0 0) (b4:= .slice sa sn sc) (b5:= .slice la ln lc) (b6:= .slice pa pn pc) (b7:= .int .i64 0) (b8:= .int .i64 l);have N8:=JF (b0:= .slice none 0 0) (b1:= .slice none 0 0) (b2:= .slice none 0 0) (b3:= .slice none 0 0) (b4:= .slice sa sn sc) (b5:= .slice la ln lc) (b6:= .slice pa pn pc) (b7:= .int .i64 0) (b8:= .int .i64 l) hgB;have K8:=BD (AG HN7.out hG) hgr (DY hgB (AG HN7.out hG) (by decide));have I8:IA W0.heap.size g gk gk _ l 0 0 _ _ _ _ _ _ _:=⟨N8,K8,⟨_,_,_,_,K8⟩,⟨Nat.le_trans HB.out.size hg7,hgk0,hgk0,Nat.le_trans HB.out.size (Nat.le_trans hG.size hgr.size)⟩,(HO.out.below hG).far hgr hgB (by decide) (by decide) (by decide) (by decide) (by decide) (by decide),(r1.lower HB.out.size).far hgr hgB (by decide),EN (Bd r0 HB.out.size) hgr hgB (by decide),AC.far (Bd r2 HB.out.size) hgr hgB (by decide)⟩;have B8:=AN (HB.out.trans (hG.mono HB.out.size)) hgr (Nat.le_trans HB.out.size hg7) (Nat.le_trans HB.out.size hG.size);clear r0 r1 r2 N8 K8 hgr x0 x1 x2 x3 x4 x5 x6 x7 x8 fz hgB hg7 hG HO HB HN7;unfold Lf at I8 B8;generalize((((((((wx.setCell _ _).setCell _ _).setCell _ _).setCell _ _).setCell _ _).setCell _ _).setCell _ _).setCell _ _).setCell _ _=W8 at*;replace I8:=AA I8;replace B8:=AA B8;obtain⟨k0,k1,k2,k3⟩:=AB I8.out.kb;have C:=Nn (n:=0) I8.out.ker.rd (by omega) 1 0 0 0 (by decide) SS;go_wp2_with fail;refine C.mono ?_;rintro r w9 ⟨m9,i9,e9,c9,rfl,O9,b9⟩;have I9:=AA (I8.out.put b9 O9);have B9:=AA (AN (B8.out.trans (b9.mono I8.out.glo.2.2.2)) (BJ w9 gk m9 i9 e9 c9) I8.out.glo.2.1 (Nat.le_trans I8.out.glo.2.2.2 b9.size));have kf:=AI (I8.out.below b9).kb;obtain⟨k0,k1,k2,k3⟩:=AB (I8.out.below b9).kb;obtain⟨⟨ua,un,uc,rfl⟩,⟨va,vn,vc,rfl⟩,⟨ya,yn,yc,rfl⟩,⟨za,zn,zc,rfl⟩⟩:=O9.shapes;unfold GH at I9;generalize hW9:(((w9.setCell _ _).setCell _ _).setCell _ _).setCell _ _=W9 at I9 B9;obtain⟨n0,n1,n2,n3⟩:=AB I9.out.kb;clear O9 b9 I8 B8 C;go_wp2_with fail;clear k0 k1 k2 k3 kf;have C:=Nn (n:=1) I9.out.ker.rd (by omega) 4 0 3 0 (by decide) SP;refine C.mono ?_;rintro r w10 ⟨m10,i10,e10,c10,rfl,O10,b10⟩;have I10:=AA (I9.out.put b10 O10);have B10:=AA (AN (B9.out.trans (b10.mono I9.out.glo.2.2.2)) (BJ w10 gk m10 i10 e10 c10) I9.out.glo.2.1 (Nat.le_trans I9.out.glo.2.2.2 b10.size));have kf:=AI (I9.out.below b10).kb;obtain⟨k0,k1,k2,k3⟩:=AB (I9.out.below b10).kb;obtain⟨⟨ua,un,uc,rfl⟩,⟨va,vn,vc,rfl⟩,⟨ya,yn,yc,rfl⟩,⟨za,zn,zc,rfl⟩⟩:=O10.shapes;unfold GH at I10;generalize hW10:(((w10.setCell _ _).setCell _ _).setCell _ _).setCell _ _=W10 at I10 B10;obtain⟨n0,n1,n2,n3⟩:=AB I10.out.kb;clear O10 b10 I9 B9 C;go_wp2_with fail;clear k0 k1 k2 k3 kf;clear n0 n1 n2 n3;have C:=Nn (n:=2) I10.out.ker.rd (by omega) 7 0 0 0 (by decide) QS
  refine C.mono ?_;rintro r w11 ⟨m11,i11,e11,c11,rfl,O11,b11⟩;have I11:=AA (I10.out.put b11 O11);have B11:=AA (AN (B10.out.trans (b11.mono I10.out.glo.2.2.2)) (BJ w11 gk m11 i11 e11 c11) I10.out.glo.2.1 (Nat.le_trans I10.out.glo.2.2.2 b11.size));have kf:=AI (I10.out.below b11).kb;obtain⟨k0,k1,k2,k3⟩:=AB (I10.out.below b11).kb;obtain⟨⟨ua,un,uc,rfl⟩,⟨va,vn,vc,rfl⟩,⟨ya,yn,yc,rfl⟩,⟨za,zn,zc,rfl⟩⟩:=O11.shapes;unfold GH at I11;generalize hW11:(((w11.setCell _ _).setCell _ _).setCell _ _).setCell _ _=W11 at I11 B11;obtain⟨n0,n1,n2,n3⟩:=AB I11.out.kb;clear O11 b11 I10 B10 C;go_wp2_with fail;clear k0 k1 k2 k3 kf;go_wp2_with fail;go_loopw [9,10,11,12] (fun ix _ _ _ wr=>∃k:Nat,k≤4∧ix= .int .i64 k∧∃m i e c la ln lc,IA W0.heap.size g gk gk wr l (3*k+3) k m i e c (.slice sa sn sc) (.slice la ln lc) (.slice pa pn pc)∧Below W0.heap.size W0 wr) (fun ix _ _ _ _=>4 - (intOf ix).toNat)
  case atStart=>exact⟨0,by omega,rfl,_,_,_,_,_,_,_,I11.out,B11.out⟩
  case round=>
   clear I11 B11;obtain⟨k,hk,rfl,mv,iv,ev,cv,la,ln,lc,I0,B0⟩:=hrel;replace I0:=AA I0;replace B0:=AA B0
   by_cases hlt:k<4
   ·obtain⟨fr,hfr⟩:∃fr:Int,fr=((k+1:Nat):Int):=⟨_,rfl⟩
    have T1:=QT k hlt;have T2:=SO k hlt;have T3:=SQ k hlt;rw[←hfr] at T1 T2 T3;have hf0:0≤fr∧fr≤11:=by omega
    have Hfr:=AA hfr;clear hfr;have k4:(k:Int)<4:=by omega
    obtain⟨⟨ka,kn,kc,e1_⟩,⟨ja,jn,jc,e2_⟩,⟨fa,fn,fc,e3_⟩,⟨ra,rn,rc,e4_⟩⟩:=I0.out.ker.shapes;subst e1_ e2_ e3_ e4_;obtain⟨k0,k1,k2,k3⟩:=AB I0.out.kb;have C:=Nn (n:=3*k+3) I0.out.ker.rd (by omega) 1 0 0 0 (by decide) T1;go_wp2_with fail;refine C.mono ?_;rintro r w1 ⟨m1,i1,e1,c1,rfl,O1,b1⟩;have I1:=AA (I0.out.new b1 O1);have B1:=AA (B0.out.trans ((b1.trans ((AF w1 (.cells #[m1,i1,e1,c1] 27)).mono b1.size)).mono I0.out.glo.2.2.2));obtain⟨⟨ua,un,uc,rfl⟩,⟨va,vn,vc,rfl⟩,⟨ya,yn,yc,rfl⟩,⟨za,zn,zc,rfl⟩⟩:=O1.shapes;clear O1 b1 C k0 k1 k2 k3 I0 B0;obtain⟨k0,k1,k2,k3⟩:=AB I1.out.kb;go_wp2_with fail;clear k0 k1 k2 k3;obtain⟨q1,hq1⟩:∃q1,q1=w1.heap.size:=⟨_,rfl⟩
    rw[←hq1] at I1 ⊢;clear hq1;generalize w1.alloc _=W1 at*;have C:=Nn (n:=3*k+4) I1.out.ker.rd (by omega) 4 fr 2 0 (by decide) T2;refine C.mono ?_;rintro r w2 ⟨m2,i2,e2,c2,rfl,O2,b2⟩;have I2:=AA (I1.out.put b2 O2);have B2:=AA (AN (B1.out.trans (b2.mono I1.out.glo.2.2.2)) (BJ w2 q1 m2 i2 e2 c2) I1.out.glo.2.2.1 (Nat.le_trans I1.out.glo.2.2.2 b2.size));have kf:=AI (I1.out.below b2).kb;obtain⟨k0,k1,k2,k3⟩:=AB (I1.out.below b2).kb;obtain⟨⟨ua,un,uc,rfl⟩,⟨va,vn,vc,rfl⟩,⟨ya,yn,yc,rfl⟩,⟨za,zn,zc,rfl⟩⟩:=O2.shapes;unfold GH at I2;generalize hW2:(((w2.setCell _ _).setCell _ _).setCell _ _).setCell _ _=W2 at I2 B2;obtain⟨n0,n1,n2,n3⟩:=AB I2.out.kb;clear O2 b2 I1 B1 C;go_wp2_with fail;clear k0 k1 k2 k3 kf;have hqB:=I2.out.kb;have hql:=Aq hqB;have he:Og fr≤9223372036854775807:=by unfold Og;omega
    have CP:=AA (fun W=>TJ fr W hf0.1 hf0.2);generalize Og fr=en_ at T3 he CP;have RK:=I2.out.ker.rd;have CM:=AA (fun W (hW:Below W2.heap.size W2 W)=>Nn (n:=3*k+5) (RK.below hW) (by omega) 6 0 (k:Int) en_ he T3);clear T1 T2 T3 RK;refine Cz 11 87 (fun ix=>ix==10) [.a #[.slice ua un uc, .slice va vn vc, .slice ya yn yc, .slice za zn zc], .i 0, .i ((k:Int)), .i fr, .i en_, .z, .z, .z, .i 0, .b true, .z] (fun ll ix vv ww=>match ix with
     |5=>Jc W2.heap.size vv ww (Ch (3*k+6)) 0 true
     |6=>Jc W2.heap.size vv ww (Ch (3*k+6)) 0 true
     |7=>IN W2.heap.size vv ww (Ch (3*k+6))
     |_=>True) (fun ll ww=>GB W2 (q1) (Ch (3*k+6)) (ll 10) ww) ?_ ?_ ?_ ?_ ?_ ?_
    ·exact Ao (Below.refl _ _) 1
    ·intro j hj ll i vv wz ww' hi hS hLi hLj hbz hz
     match j,hj with
     |5,_=>exact(Jc.below hz hbz)
     |6,_=>exact(Jc.below hz hbz)
     |7,_=>exact(IN.below hz hbz)
     |0,_|1,_|2,_|3,_|4,_|8,_|9,_|10,_=>exact hz
    ·intro ll i wz ww' hi hS hLi hbz hg
     show GB _ _ _ (Gy ll i 10) _
     rw[ER (by rintro rfl;cases hS)];exact GB.grow hg hbz
    ·intro i hi hS o ho a wx Hb ll Hd HL hG K HK
     match i,hi,hS with
     |0,_,_=>have u10:=Cl HL 10;have mc0:=(show wx.cell? ⟨q1,0,none⟩=some (.slice ua un uc) from GB.cell hG (by cases hx:ll 10 with|false=>rfl|true=>exact absurd (HL.out.2.2 5 0 (HL.out.2.2 6 5 (HL.out.2.2 7 6 (HL.out.2.2 10 7 (hx) (by kernel_rfl)) (by kernel_rfl)) (by kernel_rfl)) (by kernel_rfl)) (by rw[HL.out.1];decide)) hql n0);have mc1:=(show wx.cell? ⟨q1,1,none⟩=some (.slice va vn vc) from GB.cell hG (by cases hx:ll 10 with|false=>rfl|true=>exact absurd (HL.out.2.2 5 0 (HL.out.2.2 6 5 (HL.out.2.2 7 6 (HL.out.2.2 10 7 (hx) (by kernel_rfl)) (by kernel_rfl)) (by kernel_rfl)) (by kernel_rfl)) (by rw[HL.out.1];decide)) hql n1);have mc2:=(show wx.cell? ⟨q1,2,none⟩=some (.slice ya yn yc) from GB.cell hG (by cases hx:ll 10 with|false=>rfl|true=>exact absurd (HL.out.2.2 5 0 (HL.out.2.2 6 5 (HL.out.2.2 7 6 (HL.out.2.2 10 7 (hx) (by kernel_rfl)) (by kernel_rfl)) (by kernel_rfl)) (by kernel_rfl)) (by rw[HL.out.1];decide)) hql n2);have mc3:=(show wx.cell? ⟨q1,3,none⟩=some (.slice za zn zc) from GB.cell hG (by cases hx:ll 10 with|false=>rfl|true=>exact absurd (HL.out.2.2 5 0 (HL.out.2.2 6 5 (HL.out.2.2 7 6 (HL.out.2.2 10 7 (hx) (by kernel_rfl)) (by kernel_rfl)) (by kernel_rfl)) (by kernel_rfl)) (by rw[HL.out.1];decide)) hql n3);exact Je ho HK Hb Hd HL (hl:=MY (by assumption) (by assumption) (by assumption) (by assumption))
     |1,_,_|2,_,_|3,_,_=>exact Tk ho HK Hb Hd HL
     |10,_,hs=>exact absurd hs (by decide)
     |4,_,_=>obtain rfl:=So_ ho;have d3:(a.tmps[71]?.getD undef)= .int .i64 fr:=Ec Hd HL 3;have u10:=Cl HL 10;clear Hd Hb;refine Aa.of rfl ?_;go_simp;refine(CP.out _).mono ?_;rintro r w_ ⟨rfl,hb2⟩;exact HK.out _ _ rfl hb2
     |5,_,_=>
      obtain rfl:=So_ ho;have d0:(a.tmps[68]?.getD undef)= .agg #[.slice ua un uc, .slice va vn vc, .slice ya yn yc, .slice za zn zc]:=Ec Hd HL 0;have d1:(a.tmps[69]?.getD undef)= .int .i64 0:=Ec Hd HL 1;have d2:(a.tmps[70]?.getD undef)= .int .i64 k:=Ec Hd HL 2;have d4:(a.tmps[72]?.getD undef)= .int .i64 en_:=Ec Hd HL 4;have u10:=Cl HL 10;clear Hd Hb;refine Aa.of rfl ?_;go_simp;have hG9:Below W2.heap.size W2 wx:=by
       rw[show ll 10=false from(by cases hx:ll 10 with|false=>rfl|true=>exact absurd (HL.out.2.2 6 5 (HL.out.2.2 7 6 (HL.out.2.2 10 7 (hx) (by kernel_rfl)) (by kernel_rfl)) (by kernel_rfl)) (by rw[HL.out.1];decide))] at hG;exact hG
      refine(CM.out _ hG9).mono ?_;rintro r w_ ⟨m',i',e',c',rfl,hO,hb2⟩;exact HK.out _ _ ⟨m',i',e',c',rfl,hO.lower hG9.size⟩ hb2
     |6,_,_=>obtain rfl:=So_ ho;have d5:Jc W2.heap.size (a.tmps[73]?.getD undef) wx (Ch (3*k+6)) 0 true:=Ec Hd HL 5;have u10:=Cl HL 10;clear Hd Hb;refine Aa.of rfl ?_;go_simp;exact HK.out _ _ d5 (Below.refl _ _)
     |7,_,_=>obtain rfl:=So_ ho;have d6:Jc W2.heap.size (a.tmps[67]?.getD undef) wx (Ch (3*k+6)) 0 true:=Ec Hd HL 6;have u10:=Cl HL 10;clear Hd Hb;obtain⟨m',i',e',c',d6,hO⟩:=d6;refine Aa.of rfl ?_;go_simp;exact HK.out _ _ ⟨_,_,_,_,rfl,hO⟩ (Below.refl _ _)
     |8,_,_=>obtain rfl:=So_ ho;have d6:Jc W2.heap.size (a.tmps[67]?.getD undef) wx (Ch (3*k+6)) 0 true:=Ec Hd HL 6;clear Hd Hb;obtain⟨m',i',e',c',d6,hO⟩:=d6;refine Aa.of rfl ?_;go_simp;exact HK.out _ _ rfl (Below.refl _ _)
     |9,_,_=>obtain rfl:=So_ ho;have d6:Jc W2.heap.size (a.tmps[67]?.getD undef) wx (Ch (3*k+6)) 0 true:=Ec Hd HL 6;clear Hd Hb;obtain⟨m',i',e',c',d6,hO⟩:=d6;refine Aa.of rfl ?_;go_simp;exact HK.out _ _ rfl (Below.refl _ _)
    ·intro i hi hS o ho a wx Hb ll Hd HL hG K HK
     match i,hi,hS with
     |0,_,hs|1,_,hs|2,_,hs|3,_,hs|4,_,hs|5,_,hs|6,_,hs|7,_,hs|8,_,hs|9,_,hs=>exact absurd hs (by decide)
     |10,_,_=>
      obtain rfl:=So_ ho;have e10:a.tmps[10]?.getD undef= .pointer (some ⟨q1,0,none⟩):=eg (SA Hb 10);have d7:IN W2.heap.size (a.tmps[74]?.getD undef) wx (Ch (3*k+6)):=Ec Hd HL 7;clear Hd Hb;rw[HL.out.1] at hG;replace hG:Below W2.heap.size W2 wx:=hG;obtain⟨m',i',e',c',d7,hO⟩:=d7;obtain⟨⟨va,vn,vc,rfl⟩,⟨wa,wn,wc,rfl⟩,⟨xa,xn,xc,rfl⟩,⟨ya,yn,yc,rfl⟩⟩:=hO.shapes;have hq2:=AG hqB hG;obtain⟨c0,c1_,c2,c3⟩:=AB hq2;have fq:=AI hq2;have hgr:=AA (BJ wx (q1) (.slice va vn vc) (.slice wa wn wc) (.slice xa xn xc) (.slice ya yn yc));have Hq:=AA hq2;have HO:=AA hO;clear hq2 hO;refine Aa.of rfl ?_;go_simp;exact HK.out undef _ trivial (by show GB _ _ _ (Gy ll 10 10) _;rw[En];exact⟨wx,_,_,_,_,hG,HO.out,Below.refl _ _⟩) (fun j hji hjn hjl hu=>match j,hjn with
       |0,_|1,_|2,_|3,_|4,_|8,_|9,_=>hu
       |5,_=>Jc.far hu hgr.out Hq.out
       |6,_=>Jc.far hu hgr.out Hq.out
       |7,_=>IN.far hu hgr.out Hq.out
       |10,_=>absurd rfl hji)
    ·intro vs wx ll hall hR hG
     have q8:(vs 8)= .int .i64 0:=BT hR 8;clear hR;simp only[DS,BW,List.range,List.range.loop,List.foldl_cons,List.foldl_nil,q8];simp;clear q8;rw[hall 10 (by decide)] at hG;obtain⟨wz,m3,i3,e3,c3,hz1,hO,hz2⟩:=hG;have hz2':Below (GH wz q1 m3 i3 e3 c3).heap.size (GH wz q1 m3 i3 e3 c3) wx:=by simpa[GH] using hz2
     have I3:=(I2.out.put hz1 hO).below hz2';have K3:=(hO.far (BJ wz q1 m3 i3 e3 c3) (AG hqB hz1) (by decide) (by decide) (by decide) (by decide) (by decide) (by decide)).below hz2';have B3:=B2.out.trans ((AN (hz1.mono I2.out.glo.2.2.2) (BJ wz q1 m3 i3 e3 c3) I2.out.glo.2.2.1 (Nat.le_trans I2.out.glo.2.2.2 hz1.size):Below W0.heap.size W2 _).trans (hz2'.mono (Nat.le_trans I2.out.glo.2.2.2 (Nat.le_trans hz1.size (BJ wz q1 m3 i3 e3 c3).size))));have hlt2:∀b,(Value.slice la ln lc).ownBlock=some b→b<W2.heap.size:=fun b hb=>(World.ownsRow.lt I2.out.low b hb).2
     have hL2:=I2.out.glo.2.2.2;clear hall hz1 hz2 hz2' hO hqB hql n0 n1 n2 n3 CM CP;have hxl:=JQ k;have HP:=AA (fun w4 w5 o' (b4:Below wx.heap.size wx w4) q1 (q2:w4.grownBy w5 (Value.slice la ln lc).ownBlock)=>IA.push (o':=o') (w5:=w5) I3 K3 hL2 hlt2 b4 q1 q2 Hfr.out);obtain⟨_,_,_,_,_,c5,_⟩:=Ad I3.pb;have f5:=AI I3.pb;have b4:=AF wx (.cells #[.int .i64 fr] 3);have hlow4:(wx.alloc (.cells #[.int .i64 fr] 3)).ownsRow W0.heap.size 3 1 (.slice la ln lc) k ((Fh k).map (Value.int .i64)):=by have:=AE.below I3.low b4;unfold AE at this;rwa [hxl] at this
     have hln:ln=k:=by obtain⟨_,_,hv,_⟩:=I3.low.rd.open;simp only[Value.slice.injEq] at hv;rw[hxl] at hv;exact hv.2.1
     subst hln;have L4:=Nat.le_trans I3.glo.2.2.2 b4.size;have HI:=AA (And.intro B3 (And.intro b4 L4));have hgl:=AA I3.glo.1;have hLx:=I3.glo.2.2.2;clear I3 I2 K3 B3 B2 hlt2;go_wp2_with (at_builtin;go_must (refine BX (lo:=W0.heap.size) (n:=ln) (xs:=(Fh ln).map (Value.int .i64)) (m:=1) (news:=[.int .i64 fr]) rfl rfl 3 (.int .i64 0) 1 8 underlying28 Tryz.infoInt rfl (by decide) rfl hlow4 rfl (Rd.newsAt _ #[_] _ 1 1 _ (by simp) rfl (by simp[maxLen])) (by simp[Value.oneCell']) (by unfold maxLen;omega) (by omega) L4 ?_;intro o' w5 q1_ q2_ q3_ q4_;obtain⟨oa,on,oc,rfl⟩:=Nz q1_;have X:=HP.out _ _ _ HI.out.2.1 q1_ q2_;have f6:=AI X.1;have c6:=cell_of_row _ _ 5 _ _ _ X.1;have HX:=AA X.2;have HQ:=AA q4_;obtain⟨k0,k1,k2,k3⟩:=AB HX.out.kb;obtain⟨xa,xb,xc,xd,hgb⟩:=HX.out.gb;obtain⟨v0,v1,v2,v3⟩:=AB hgb;have fgk:=AI hgb;obtain⟨⟨sa1,sn1,sc1,rfl⟩,⟨sa2,sn2,sc2,rfl⟩,⟨sa3,sn3,sc3,rfl⟩,⟨sa4,sn4,sc4,rfl⟩⟩:=HX.out.ker.shapes;clear X q1_ q2_ q3_ q4_ hlow4 hgb));have B5:=AA (AN (HI.out.1.trans ((HI.out.2.1.mono hLx).trans HQ.out)) (Aj w5 g 5 (.slice oa on oc)) hgl.out (Nat.le_trans HI.out.2.2 HQ.out.size));have I6:=HX.out.back;have B6:=AN B5.out (BJ _ gk (.slice sa1 sn1 sc1) (.slice sa2 sn2 sc2) (.slice sa3 sn3 sc3) (.slice sa4 sn4 sc4)) HX.out.glo.2.1 HX.out.glo.2.2.2;go_roundw
     case rel=>exact⟨ln+1,by omega,by go_num,_,_,_,_,_,_,_,I6,B6⟩
     case measure=>simp[intOf];omega
   ·obtain rfl:k=4:=by omega
    obtain⟨⟨ka,kn,kc,e1_⟩,⟨ja,jn,jc,e2_⟩,⟨fa,fn,fc,e3_⟩,⟨ra,rn,rc,e4_⟩⟩:=I0.out.ker.shapes;subst e1_ e2_ e3_ e4_;obtain⟨k0,k1,k2,k3⟩:=AB I0.out.kb;have hpb:=I0.out.pb;have hgr:=BJ wr g (.slice ka kn kc) (.slice ja jn jc) (.slice fa fn fc) (.slice ra rn rc);have N1:=MF (m':= .slice ka kn kc) (i':= .slice ja jn jc) (e':= .slice fa fn fc) (c':= .slice ra rn rc) hpb;have HB2:=(B0.out.block w.heap.size hgw).trans HN.out;have HB3:=BD HB2 hgr (by have:=I0.out.glo.1;omega);obtain⟨x0,x1,x2,x3,x4,x5,x6,x7,x8⟩:=Ad hpb;have fz:=AI hpb;obtain⟨z0,z1,z2,z3,z4,z5,z6,z7,z8⟩:=Ad N1;obtain⟨y0,y1,y2,y3,y4,y5,y6,y7,y8⟩:=Ad HB3;have fy:=AI HB3;have gr2:=Gw (w:=((((wr.setCell ⟨g,0,none⟩ (.slice ka kn kc)).setCell ⟨g,1,none⟩ (.slice ja jn jc)).setCell ⟨g,2,none⟩ (.slice fa fn fc)).setCell ⟨g,3,none⟩ (.slice ra rn rc))) (g:=w.heap.size) (b0:= .slice ka kn kc) (b1:= .slice ja jn jc) (b2:= .slice fa fn fc) (b3:= .slice ra rn rc) (b4:= .slice sa sn sc) (b5:= .slice la ln lc) (b6:= .slice pa pn pc) (b7:= .int .i64 0) (b8:= .int .i64 l);have NN:=JF (b0:= .slice ka kn kc) (b1:= .slice ja jn jc) (b2:= .slice fa fn fc) (b3:= .slice ra rn rc) (b4:= .slice sa sn sc) (b5:= .slice la ln lc) (b6:= .slice pa pn pc) (b7:= .int .i64 0) (b8:= .int .i64 l) HB3;have RK:=(((I0.out.ker.far hgr hpb (by decide) (by decide) (by decide) (by decide) (by decide) (by decide)).far gr2 HB3 (by decide) (by decide) (by decide) (by decide) (by decide) (by decide)).rd);have RS:=((I0.out.swp.far hgr hpb (by decide)).far gr2 HB3 (by decide)).rd;have RL:=AE.rd (EN (EN I0.out.low hgr hpb (by decide)) gr2 HB3 (by decide));have RQ:=AC.rd (AC.far (AC.far I0.out.pgs hgr hpb (by decide)) gr2 HB3 (by decide));have RP:=AA (show Pg _ (.slice ka kn kc) (.slice ja jn jc) (.slice fa fn fc) (.slice ra rn rc) (.slice sa sn sc) (.slice la ln lc) (.slice pa pn pc) (GF l) from⟨by have:=RK;rw[show 3*4+3=15 from rfl,Mg] at this;exact this,RS,RL,RQ⟩);have BF:=AA (AN (AN (Hb.out.trans (B0.out.mono Hb.out.size)) hgr (by have:=I0.out.glo.1;omega) (Nat.le_trans (Nat.le_trans Hb.out.size (Nat.le_refl _)) I0.out.glo.2.2.2)) gr2 (Nat.le_refl _) (Nat.le_trans (Nat.le_trans Hb.out.size I0.out.glo.2.2.2) hgr.size));have HE:=AA (Ad NN);clear RK RS RL RQ gr2 NN hgr N1 HB2 HB3 hpb I0 B0;rw[show((4:Nat):Int)=4 from rfl];go_wp2_with fail;obtain⟨E0,E1,E2,E3,E4,E5,E6,E7,E8⟩:=HE.out;unfold Lf at E0 E1 E2 E3 E4 E5 E6 E7 E8;exact bodyPost_ret (v:= .tuple #[.agg #[_,_,_,_,_,_,_,_,_],_]) (by simp[results,Tryz.results4,go_sem,E0,E1,E2,E3,E4,E5,E6,E7,E8];exact⟨rfl,rfl⟩) rfl ⟨_,_,_,_,_,_,_,rfl,RP.out,BF.out⟩
def Ly (l:Int):BU:=if Bv l 1 6 then GF l else⟨⟨[],[],[],[]⟩,[],[],[],0,0⟩
theorem Vb (w:World):Pg w (.slice none 0 0) (.slice none 0 0) (.slice none 0 0) (.slice none 0 0) (.slice none 0 0) (.slice none 0 0) (.slice none 0 0) ⟨⟨[],[],[],[]⟩,[],[],[],0,0⟩:=
 ⟨⟨⟨[],AC.rd (Es Dz 0 28 1 w),Ei.nil⟩,AC.rd (Es AX 0 91 3 w),(MJ 0 w).rd,AC.rd (Es AJ 0 95 4 w)⟩,⟨[],AC.rd (Es Dz 0 28 1 w),Ei.nil⟩,AE.rd (lo:=0) (World.ownsRow_nil _ _ _ _),AC.rd (Es CQ 0 73 3 w)⟩
theorem VA (lo:Nat) (w:World):KC lo w (.slice none 0 0) (.slice none 0 0) (.slice none 0 0) (.slice none 0 0) (.slice none 0 0) (.slice none 0 0) (.slice none 0 0) [] [] [] ⟨⟨[],[],[],[]⟩,[],[],[],0,0⟩:=
 ⟨⟨Es Dz lo 28 1 w,Ei.nil,Bj.nil⟩,Es AX lo 91 3 w,MJ lo w,Es AJ lo 95 4 w,Es Dz lo 28 1 w,⟨rfl,fun u hu=>by (cases hu),fun u hu=>by (cases hu)⟩,World.ownsRow_nil _ _ _ _,Es CQ lo 73 3 w,fun b hb=>by (cases hb)⟩
theorem Nu:∀x∈JB.mem,x.length=4∧x≠[1,2,3,4]:=by
 intro x hx;simp only[JB,List.mem_cons,List.mem_replicate] at hx
 rcases hx with rfl|⟨_,rfl⟩<;>decide
theorem UT {lo:Nat} {w:World} {m i e c s l q:Value} {lim:Int} (h:IP lo w m i e c s l q (GF lim)):∃vs us ps,KC lo w m i e c s l q vs us ps (GF lim):=by
 obtain⟨⟨⟨vs,hm⟩,hi,⟨ps,he⟩,hc⟩,⟨us,hs⟩,hl,hq,_⟩:=h;have hsw:∀x∈(GF lim).swap,x=[]:=fun x hx=>by simp only[GF,List.mem_replicate] at hx;exact hx.2
 refine⟨vs,us,ps,hm,hi,he,hc,hs.1,⟨hs.2.1.1,fun u hu=>?_,hsw⟩,hl,hq,fun b hb=>?_⟩
 ·obtain⟨j,hj,hx⟩:=List.getElem_of_mem hu
  have hj':j<(GF lim).swap.length:=by rw[←hs.2.1.1];exact hj
  have ho:=hs.2.1.2 j u _ (by rw[List.getElem?_eq_getElem hj,hx]) (List.getElem?_eq_getElem hj');rw[hsw _ (List.getElem_mem hj')] at ho;obtain⟨_,h2⟩:=ho
  rcases h2 with⟨rfl,_⟩|⟨g,cap,cur,rfl,_,_,_,h7,_⟩
  ·exact⟨none,0,rfl,by unfold maxLen;omega,fun _=>rfl⟩
  ·exact⟨some ⟨g,0,none⟩,cap,rfl,h7,fun e=>by (cases e)⟩
 ·rintro⟨u,hu,hb'⟩
  obtain⟨j,hj,hx⟩:=List.getElem_of_mem hu;have hj':j<(GF lim).kern.mem.length:=by rw[←hm.2.1.1];exact hj
  have ho:=hm.2.1.2 j u _ (by rw[List.getElem?_eq_getElem hj,hx]) (List.getElem?_eq_getElem hj');obtain⟨r4,rn⟩:=Nu _ (List.getElem_mem hj');generalize(GF lim).kern.mem[j]=x at ho r4 rn;obtain⟨l1,h1⟩:=ho;obtain⟨l2,h2⟩:=hl
  rcases h1 with⟨rfl,_⟩|⟨g,cap,cur,rfl,_,hB,_,_,_,e1⟩
  ·cases hb'
  rcases h2 with⟨e0,_⟩|⟨g',cap',cur',e0,_,hB',_,_,_,e2⟩
  ·subst e0;cases hb
  subst e0;cases hb;cases hb';rw[hB] at hB';cases hB';rw[r4] at e1;have e3:(GF lim).low=[1,2,3,4]:=rfl;rw[e3] at e2;have e4:x.map (Value.int .i64)=[1,2,3,4].map (Value.int .i64):=e1.symm.trans e2;apply rn
  match x,r4,e4 with
  | [a,b,c,d],_,e4=>simp at e4;obtain⟨rfl,rfl,rfl,rfl⟩:=e4;rfl
theorem VC (l:Int):Vv (Ly l)∧FE 1 (Ly l).kern+EC 0 (CL (Ly l).swap)+(Ly l).low.length+3*(Ly l).pages.length≤900000:=by
 unfold Ly
 split
 ·have e1:(GF l).kern=JB:=rfl
  have e2:FE 1 JB=91:=by kernel_rfl
  have e3:EC 0 (CL (GF l).swap)=0:=by
   show EC 0 (CL (List.replicate 16 []))=0
   kernel_rfl
  have e4:(GF l).low.length=4:=rfl;have e5:(GF l).pages.length=16:=by simp[GF]
  refine⟨⟨⟨?_,fun x hx=>Nat.le_trans (Nat.le_of_eq (Nu x hx).1) (by decide),?_,?_,fun x hx=>?_,?_⟩,by simp[GF],fun x hx=>?_,by rw[e4];decide,by rw[e5];decide⟩,?_⟩
  ·show JB.mem.length≤_
   decide
  ·show JB.infos.length≤_
   decide
  ·show JB.envs.length≤_
   decide
  ·simp only[e1,JB,List.mem_cons,List.not_mem_nil,or_false] at hx
   rcases hx with rfl|rfl|rfl<;>decide
  ·show JB.cache.length≤_
   decide
  ·simp only[GF,List.mem_replicate] at hx
   rw[hx.2];decide
  ·rw[e1,e2,e3,e4,e5]
   decide
 ·refine⟨⟨⟨by decide,fun x hx=>by (cases hx),by decide,by decide,fun x hx=>by (cases hx),by decide⟩,by decide,fun x hx=>by (cases hx),by decide,by decide⟩,by decide⟩
theorem VI (l:Int) (w:World):Calls prog 4 #[.int .i64 l] w (Qp w (Ly l) (Bv l 1 6)):=by
 unfold Ly;cases h:Bv l 1 6
 ·refine(PT l w h).mono ?_
  rintro r w1 ⟨rfl,b1⟩;exact⟨_,_,_,_,_,_,_,rfl,Vb w1,b1⟩
 ·have hl:=Ac.1 h
  exact NU l w hl.1 hl.2
def Tm (w:World) (P:BU) (b:Bool) (r:Ending) (w':World):Prop:=∃m i e c s lo q vs us ps,r= .returned (.tuple #[Cu m i e c s lo q P.hand P.limit, .bool b])∧KC w.heap.size w' m i e c s lo q vs us ps P∧Below w.heap.size w w'
theorem U5 (l:Int) (w:World):Calls prog 5 #[.int .i64 l] w (Tm w (Ly l) (Bv l 1 6)):=by
 unfold Ly;cases h:Bv l 1 6
 ·refine(Pf l w h).mono ?_
  rintro r w1 ⟨rfl,b1⟩;exact⟨_,_,_,_,_,_,_,[],[],[],rfl,VA _ w1,b1⟩
 ·have hl:=Ac.1 h
  refine(OW l w hl.1 hl.2).mono ?_;rintro r w1 ⟨m,i,e,c,s,lo,q,rfl,O,b1⟩;obtain⟨vs,us,ps,F⟩:=UT O;exact⟨_,_,_,_,_,_,_,vs,us,ps,rfl,F,b1⟩
theorem Pg.shapes {w:World} {m i e c s l q:Value} {P:BU} (h:Pg w m i e c s l q P):((∃a n q,m= .slice a n q)∧(∃a n q,i= .slice a n q)∧(∃a n q,e= .slice a n q)∧∃a n q,c= .slice a n q)∧(∃a n q,s= .slice a n q)∧(∃a n q,l= .slice a n q)∧∃a n r,q= .slice a n r:=by obtain⟨⟨h1,h2,h3,h4⟩,h5,h6,h7⟩:=h;obtain⟨_,_,rfl,_⟩:=h1.open;obtain⟨_,_,rfl,_⟩:=h2.shape;obtain⟨_,_,rfl,_⟩:=h3.open;obtain⟨_,_,rfl,_⟩:=h4.shape;obtain⟨_,_,rfl,_⟩:=h5.open;obtain⟨_,_,rfl,_⟩:=h6.open;obtain⟨_,_,rfl,_⟩:=h7.shape;exact⟨⟨⟨_,_,_,rfl⟩,⟨_,_,_,rfl⟩,⟨_,_,_,rfl⟩,⟨_,_,_,rfl⟩⟩,⟨_,_,_,rfl⟩,⟨_,_,_,rfl⟩,⟨_,_,_,rfl⟩⟩
theorem KC.rd {lo:Nat} {w:World} {m i e c s l q:Value} {vs us:List Value} {ps:List (Value×Int)} {P:BU} (h:KC lo w m i e c s l q vs us ps P):Pg w m i e c s l q P:=by
 refine⟨⟨h.mem.rd,h.inf.rd,h.env.rd,h.cac.rd⟩,⟨us,h.swp.rd,h.swe.1,fun i u x hu hx=>?_⟩,h.low.rd,h.pgs.rd⟩;obtain⟨a,c,rfl,hc⟩:=h.swe.2.1 u (List.mem_of_getElem? hu);obtain rfl:=h.swe.2.2 x (List.mem_of_getElem? hx);exact⟨a,c,rfl,Nat.zero_le _,hc.1,rfl,hc.2,fun h=>absurd h (Nat.lt_irrefl _)⟩
theorem fnExactPagerNew.walkR (l:Int) (w:World):Calls prog 3 #[.int .i64 l] w fun e w'=>e= .returned (.bool true)∧Below w.heap.size w w':=by
 obtain⟨hz,hk1⟩:=VC l;have C0:=AA (VI l);have C1:=AA (U5 l);unfold Qp at C0;unfold Tm at C1;generalize Ly l=P at*;generalize Bv l 1 6=bb at*;have hE0:0≤FE 1 P.kern+EC 0 (CL P.swap)+P.low.length+3*P.pages.length:=by have:=Bt 0 (CL P.swap);have:=Bt 0 (CL P.kern.mem);have:=Bt 1 (DC P.kern.envs);unfold FE;omega
 have CM:=AA (fun lo m i e c s l q vs us ps W (h:KC lo W m i e c s l q vs us ps P) (hl:lo≤W.heap.size)=>NQ lo m i e c s l q vs us ps P 1 W h hz (by decide) hk1 hl);have CH:=AA (fun m i e c s l q W (h:Pg W m i e c s l q (Mc 1 P))=>NI m i e c s l q P 1 W h hz (by decide) hk1);generalize FE 1 P.kern+EC 0 (CL P.swap)+P.low.length+3*P.pages.length=E at CM CH hE0;unfold Cu at C0 C1 CM CH;have hlt:¬E<0:=by omega
 clear hz hk1 hE0;cases bb
 all_goals
  go_in;go_wp2_with fail;refine(C0.out w).mono ?_;rintro r w1 ⟨m1,i1,e1,c1,s1,l1,q1,rfl,R1,b1⟩;obtain⟨⟨⟨am1,nm1,km1,rfl⟩,⟨ai1,ni1,ki1,rfl⟩,⟨ae1,ne1,ke1,rfl⟩,⟨ac1,nc1,kc1,rfl⟩⟩,⟨as1,ns1,ks1,rfl⟩,⟨al1,nl1,kl1,rfl⟩,⟨aq1,nq1,kq1,rfl⟩⟩:=R1.shapes;have N1:=heap_alloc_new w1 (.cells #[.slice am1 nm1 km1, .slice ai1 ni1 ki1, .slice ae1 ne1 ke1, .slice ac1 nc1 kc1, .slice as1 ns1 ks1, .slice al1 nl1 kl1, .slice aq1 nq1 kq1, .int .i64 P.hand, .int .i64 P.limit] 31);have bA:=AF w1 (.cells #[.slice am1 nm1 km1, .slice ai1 ni1 ki1, .slice ae1 ne1 ke1, .slice ac1 nc1 kc1, .slice as1 ns1 ks1, .slice al1 nl1 kl1, .slice aq1 nq1 kq1, .int .i64 P.hand, .int .i64 P.limit] 31);have R1':=R1.below bA;have B1:=b1.trans (bA.mono b1.size);clear R1 b1 bA;go_wp2_with fail;obtain⟨g1,hg1⟩:∃g,g=w1.heap.size:=⟨_,rfl⟩
  rw[←hg1] at N1 ⊢;clear hg1;generalize w1.alloc _=W1 at*;refine(C1.out W1).mono ?_;rintro r w2 ⟨m2,i2,e2,c2,s2,l2,q2,vs,us,ps,rfl,F2,b2⟩;obtain⟨⟨⟨am2,nm2,km2,rfl⟩,⟨ai2,ni2,ki2,rfl⟩,⟨ae2,ne2,ke2,rfl⟩,⟨ac2,nc2,kc2,rfl⟩⟩,⟨as2,ns2,ks2,rfl⟩,⟨al2,nl2,kl2,rfl⟩,⟨aq2,nq2,kq2,rfl⟩⟩:=F2.rd.shapes;have N2:=heap_alloc_new w2 (.cells #[.slice am2 nm2 km2, .slice ai2 ni2 ki2, .slice ae2 ne2 ke2, .slice ac2 nc2 kc2, .slice as2 ns2 ks2, .slice al2 nl2 kl2, .slice aq2 nq2 kq2, .int .i64 P.hand, .int .i64 P.limit] 31);have bB:=AF w2 (.cells #[.slice am2 nm2 km2, .slice ai2 ni2 ki2, .slice ae2 ne2 ke2, .slice ac2 nc2 kc2, .slice as2 ns2 ks2, .slice al2 nl2 kl2, .slice aq2 nq2 kq2, .int .i64 P.hand, .int .i64 P.limit] 31);have F3:=F2.below bB;have B2:=b2.trans (bB.mono b2.size);clear F2 b2 bB;obtain⟨x0,x1,x2,x3,x4,x5,x6,x7,x8⟩:=Ad (AG N1 B2);obtain⟨y0,y1,y2,y3,y4,y5,y6,y7,y8⟩:=Ad N2;go_wp2_with fail;obtain⟨g2,hg2⟩:∃g,g=w2.heap.size:=⟨_,rfl⟩
  rw[←hg2] at N2 y0 y1 y2 y3 y4 y5 y6 y7 y8 ⊢;clear hg2;generalize w2.alloc _=W2 at*;have Q1:=LI _ _ _ _ _ _ _ _ _ _ _ _ _ _ P W2 F3.rd (R1'.below B2);unfold Cu at Q1;refine Q1.mono ?_;rintro r w3 ⟨rfl,b3⟩;have F4:=F3.below b3;have B3:=B2.trans (b3.mono B2.size);have N3:=AG N2 b3;clear x0 x1 x2 x3 x4 x5 x6 x7 x8 y0 y1 y2 y3 y4 y5 y6 y7 y8 F3 b3 B2 N2 Q1;obtain⟨y0,y1,y2,y3,y4,y5,y6,y7,y8⟩:=Ad N3;go_wp2_with fail;refine(CM.out _ _ _ _ _ _ _ _ _ _ _ w3 F4 B3.size).mono ?_;rintro r w4 ⟨rfl,RM,b4,KP⟩;have B4:=B3.trans b4;have N4:=KP _ _ N3;clear y0 y1 y2 y3 y4 y5 y6 y7 y8 F4 B3 N3 b4 KP;obtain⟨y0,y1,y2,y3,y4,y5,y6,y7,y8⟩:=Ad N4;go_wp2_with fail;refine(CH.out _ _ _ _ _ _ _ w4 RM).mono ?_;rintro r w5 ⟨rfl,b5⟩;have RM5:=RM.below b5;have N5:=AG N4 b5;have B5:=B4.trans (b5.mono B4.size);clear y0 y1 y2 y3 y4 y5 y6 y7 y8 RM N4 B4 b5;go_wp2_with fail;refine(C1.out w5).mono ?_;rintro r w6 ⟨m3,i3,e3,c3,s3,l3,q3,vs3,us3,ps3,rfl,F6,b6⟩;obtain⟨⟨⟨am3,nm3,km3,rfl⟩,⟨ai3,ni3,ki3,rfl⟩,⟨ae3,ne3,ke3,rfl⟩,⟨ac3,nc3,kc3,rfl⟩⟩,⟨as3,ns3,ks3,rfl⟩,⟨al3,nl3,kl3,rfl⟩,⟨aq3,nq3,kq3,rfl⟩⟩:=F6.rd.shapes;have N6:=heap_alloc_new w6 (.cells #[.slice am3 nm3 km3, .slice ai3 ni3 ki3, .slice ae3 ne3 ke3, .slice ac3 nc3 kc3, .slice as3 ns3 ks3, .slice al3 nl3 kl3, .slice aq3 nq3 kq3, .int .i64 P.hand, .int .i64 P.limit] 31);have bC:=AF w6 (.cells #[.slice am3 nm3 km3, .slice ai3 ni3 ki3, .slice ae3 ne3 ke3, .slice ac3 nc3 kc3, .slice as3 ns3 ks3, .slice al3 nl3 kl3, .slice aq3 nq3 kq3, .int .i64 P.hand, .int .i64 P.limit] 31);have F7:=F6.rd.below bC;have B56:=b6.trans (bC.mono b6.size);have RM7:=RM5.below B56;have N57:=AG N5 B56;have B7:=B5.trans (B56.mono B5.size);clear F6 b6 bC RM5 N5 B5 B56;obtain⟨x0,x1,x2,x3,x4,x5,x6,x7,x8⟩:=Ad (AG N1 B7);obtain⟨y0,y1,y2,y3,y4,y5,y6,y7,y8⟩:=Ad N6;go_wp2_with fail;obtain⟨g3,hg3⟩:∃g,g=w6.heap.size:=⟨_,rfl⟩
  rw[←hg3] at N6 y0 y1 y2 y3 y4 y5 y6 y7 y8 ⊢;clear hg3;generalize w6.alloc _=W7 at*;have Q1:=LI _ _ _ _ _ _ _ _ _ _ _ _ _ _ P W7 F7 (R1'.below B7);unfold Cu at Q1;refine Q1.mono ?_;rintro r w8 ⟨rfl,b8⟩;have RM8:=RM7.below b8;have N8:=AG N57 b8;have B8:=B7.trans (b8.mono B7.size);clear x0 x1 x2 x3 x4 x5 x6 x7 x8 y0 y1 y2 y3 y4 y5 y6 y7 y8 Q1 F7 RM7 N57 N6 B7 b8;obtain⟨y0,y1,y2,y3,y4,y5,y6,y7,y8⟩:=Ad N8;go_wp2_with fail;refine(CH.out _ _ _ _ _ _ _ w8 RM8).mono ?_;rintro r w9 ⟨rfl,b9⟩;have HF:=AA (B1.trans ((B8.trans (b9.mono B8.size)).mono B1.size));clear y0 y1 y2 y3 y4 y5 y6 y7 y8 N8 RM8 B8 b9;go_wp2_with fail;go_ret;exact⟨rfl,HF.out⟩
end Go.Proofs.YteocokgpmgfbaaaGreatDoor
