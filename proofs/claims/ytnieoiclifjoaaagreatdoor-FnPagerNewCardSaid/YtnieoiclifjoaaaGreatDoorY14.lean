/-
  Packed:9 texts.
-/
import Derived.Test.YtnieoiclifjoaaaGreatDoorY13
import Derived.Test.YtnieoiclifjoaaaGreatDoorY6
import Derived.Test.YtnieoiclifjoaaaGreatDoorY7
import Derived.Test.YtnieoiclifjoaaaGreatDoorY10
import Derived.Test.YtnieoiclifjoaaaGreatDoorY11
set_option linter.unusedVariables false
set_option maxHeartbeats 16000000
set_option maxRecDepth 100000
namespace Go.Proofs.YtnieoiclifjoaaaGreatDoor
open Go.Proofs.Tryz
open Go.RowKit
theorem Tb (f:Int) (w:World) (h0:0≤f) (h1:f≤11):Calls prog 48 #[.int .i64 f, .bool true] w fun e w'=>e= .returned (.int .i64 (J5 f))∧Below w.heap.size w w':=by unfold J5;go_in;go_wp2_with fail;go_ret;exact⟨rfl,Below.refl _ _⟩
def GB (W:World) (q:Nat) (k:AN) (t:Bool) (ww:World):Prop:=match t with
 |false=>Below W.heap.size W ww
 |true=>∃wz m i e c,Below W.heap.size W wz∧Cz W.heap.size wz m i e c k∧Below wz.heap.size (Gf wz q m i e c) ww
theorem GB.grow {W:World} {q:Nat} {k:AN} {t:Bool} {ww ww':World} (h:GB W q k t ww) (hb:Below ww.heap.size ww ww'):GB W q k t ww':=by
 cases t
 ·exact Below.trans h (hb.mono (Below.size h))
 ·obtain⟨wz,m,i,e,c,h1,h3,h2⟩:=h
  exact⟨wz,m,i,e,c,h1,h3,h2.trans (hb.mono (by have:=h2.size;simpa[Gf] using this))⟩
theorem GB.cell {W:World} {q:Nat} {k:AN} {t:Bool} {ww:World} (h:GB W q k t ww) (ht:t=false) {g o:Nat} {v:Value} (hg:g<W.heap.size) (hc:W.cell? ⟨g,o,none⟩=some v):ww.cell? ⟨g,o,none⟩=some v:=by subst ht;exact(Below.cell (p:=⟨g,o,none⟩) h hg).trans hc
def J3 (lo:Nat) (v:Value) (w:World) (k:AN) (x:Int) (b:Bool):Prop:=∃m i e c,v= .tuple #[.agg #[m,i,e,c], .int .i64 x, .bool b]∧Cz lo w m i e c k
theorem J3.below {lo:Nat} {v:Value} {w w':World} {k:AN} {x:Int} {b:Bool} (h:J3 lo v w k x b) (hb:Below w.heap.size w w'):J3 lo v w' k x b:=by obtain⟨m,i,e,c,h1,h2⟩:=h;exact⟨m,i,e,c,h1,h2.below hb⟩
theorem J3.far {lo g:Nat} {v:Value} {w w':World} {k:AN} {x:Int} {b:Bool} {cu:Array Value} (h:J3 lo v w k x b) (hg:w.grownBy w' (some g)) (hB:w.heap[g]? =some (.cells cu 29 (0,0))):J3 lo v w' k x b:=by obtain⟨m,i,e,c,h1,h2⟩:=h;exact⟨m,i,e,c,h1,h2.far hg hB (by decide) (by decide) (by decide) (by decide) (by decide) (by decide)⟩
def MD (lo:Nat) (w:World) (v:Value):Prop:=∃vs,AJ lo 30 1 Fg w v vs∧vs.length=16∧∀u∈vs,∃a cap,u= .slice a 0 cap∧cap≤maxLen∧(a=none→cap=0)
theorem MD.of {lo:Nat} {w:World} {v:Value} {vs:List Value} (h:Ah lo w v vs (List.replicate 16 [])):MD lo w v:=by
 have hl:vs.length=16:=h.2.1.1.trans (List.length_replicate ..);refine⟨vs,h.1,hl,fun u hu=>?_⟩;obtain⟨j,hj⟩:=List.getElem?_of_mem hu;have hjl:=(List.getElem?_eq_some_iff.1 hj).1;have hr:=h.2.1.2 j u [] hj (by rw[List.getElem?_replicate,if_pos (by omega)]);obtain⟨a,cap,rfl,_,hc,_,hn,_⟩:=hr.rd;exact⟨a,cap,rfl,hc,hn⟩
theorem MD.below {lo:Nat} {w w':World} {v:Value} (h:MD lo w v) (hb:Below w.heap.size w w'):MD lo w' v:=by obtain⟨vs,h1,h2⟩:=h;exact⟨vs,AJ.below h1 hb,h2⟩
theorem MD.lower {lo lo':Nat} {w:World} {v:Value} (h:MD lo w v) (hl:lo'≤lo):MD lo' w v:=by obtain⟨vs,h1,h2⟩:=h;exact⟨vs,BQ h1 hl,h2⟩
theorem MD.far {lo g T:Nat} {w w':World} {v:Value} {cu:Array Value} {fr:Nat×Nat} (h:MD lo w v) (hg:w.grownBy w' (some g)) (hB:w.heap[g]? =some (.cells cu T fr)) (hT:30≠T):MD lo w' v:=by obtain⟨vs,h1,h2⟩:=h;exact⟨vs,AJ.far h1 hg hB hT,h2⟩
theorem MD.grown {lo:Nat} {w w':World} {v:Value} {o:Option Nat} (h:MD lo w v) (hg:w.grownBy w' o) (hT:∀b,v.ownBlock=some b→o≠some b):MD lo w' v:=by
 obtain⟨vs,h1,h2⟩:=h;refine⟨vs,Av h1 hg ?_,h2⟩
 rcases hv:v.ownBlock with _|b
 ·exact .inl rfl
 ·exact .inr (hT b hv).symm
theorem MD.rd {lo:Nat} {w:World} {v:Value} (h:MD lo w v):BJ w v (List.replicate 16 []):=by
 obtain⟨vs,h1,h2,h3⟩:=h;refine⟨vs,h1.rd,⟨by rw[h2,List.length_replicate],fun i x y hx hy=>?_⟩⟩;obtain⟨a,cap,rfl,hc,hn⟩:=h3 x (List.mem_of_getElem? hx);rw[List.getElem?_replicate] at hy
 split at hy
 ·cases hy
  exact⟨a,cap,rfl,Nat.zero_le _,hc,rfl,hn,fun h0=>absurd h0 (Nat.lt_irrefl 0)⟩
 ·cases hy
theorem MD.slice {lo:Nat} {w:World} {v:Value} (h:MD lo w v):∃a n c,v= .slice a n c:=by obtain⟨vs,h1,_⟩:=h;obtain⟨_,_,rfl,_,_⟩:=h1.rd.shape;exact⟨_,_,_,rfl⟩
structure Ia (lo g gk q:Nat) (w:World) (l:Int) (n j:Nat) (m i e c sv lv qv:Value):Prop where
 pb:w.heap[g]? =some (.cells #[.slice none 0 0, .slice none 0 0, .slice none 0 0, .slice none 0 0,sv,lv,qv, .int .i64 0, .int .i64 l] 33 (0,0))
 kb:w.heap[q]? =some (.cells #[m,i,e,c] 29 (0,0))
 gb:∃a b c d,w.heap[gk]? =some (.cells #[a,b,c,d] 29 (0,0))
 glo:lo≤g∧lo≤gk∧lo≤q∧lo≤w.heap.size
 ker:Cz lo w m i e c (Cp n)
 swp:MD lo w sv
 low:AE lo w lv (GH j)
 pgs:AJ lo 127 3 Dg w qv (List.replicate 16 ⟨0,0,false⟩)
section
variable {lo g gk q:Nat} {w w1:World} {l:Int} {n j:Nat} {m i e c sv lv qv:Value}
theorem Ia.below (h:Ia lo g gk q w l n j m i e c sv lv qv) (hb:Below w.heap.size w w1):Ia lo g gk q w1 l n j m i e c sv lv qv:=by obtain⟨a,b,c',d,hg⟩:=h.gb;exact⟨AF h.pb hb,AF h.kb hb,⟨a,b,c',d,AF hg hb⟩,⟨h.glo.1,h.glo.2.1,h.glo.2.2.1,Nat.le_trans h.glo.2.2.2 hb.size⟩,h.ker.below hb,h.swp.below hb,h.low.below hb,h.pgs.below hb⟩
theorem Ia.keep (h:Ia lo g gk q w l n j m i e c sv lv qv) {p:Nat} {cu:Array Value} (hp:w.heap[p]? =some (.cells cu 29 (0,0))) (hg:w.grownBy w1 (some p)):
 w1.heap[g]? =some (.cells #[.slice none 0 0, .slice none 0 0, .slice none 0 0, .slice none 0 0,sv,lv,qv, .int .i64 0, .int .i64 l] 33 (0,0))∧MD lo w1 sv∧AE lo w1 lv (GH j)∧AJ lo 127 3 Dg w1 qv (List.replicate 16 ⟨0,0,false⟩):=
 ⟨BD h.pb hg (Dn hp h.pb (by decide)),h.swp.far hg hp (by decide),Ek h.low hg hp (by decide),h.pgs.far hg hp (by decide)⟩
theorem Ia.put {n':Nat} {m' i' e' c':Value} (h:Ia lo g gk q w l n j m i e c sv lv qv) (hb:Below w.heap.size w w1) (O:Cz w.heap.size w1 m' i' e' c' (Cp n')):Ia lo g gk q (Gf w1 q m' i' e' c') l n' j m' i' e' c' sv lv qv:=by
 have h':=h.below hb;have hgr:=BM w1 q m' i' e' c';obtain⟨k1,k2,k3,k4⟩:=h'.keep h'.kb hgr;obtain⟨a,b,c2,d,hg⟩:=h'.gb;refine⟨k1,DJ h'.kb,?_,⟨h.glo.1,h.glo.2.1,h.glo.2.2.1,Nat.le_trans h'.glo.2.2.2 hgr.size⟩,(O.far hgr h'.kb (by decide) (by decide) (by decide) (by decide) (by decide) (by decide)).lower h.glo.2.2.2,k2,k3,k4⟩
 by_cases e:q=gk
 ·subst e
  exact⟨_,_,_,_,DJ h'.kb⟩
 ·exact⟨a,b,c2,d,BD hg hgr e⟩
theorem Ia.new {n':Nat} {m' i' e' c':Value} (h:Ia lo g gk q w l n j m i e c sv lv qv) (hb:Below w.heap.size w w1) (O:Cz w.heap.size w1 m' i' e' c' (Cp n')):Ia lo g gk w1.heap.size (w1.alloc (.cells #[m',i',e',c'] 29)) l n' j m' i' e' c' sv lv qv:=by have h':=(h.below hb).below (AG w1 (.cells #[m',i',e',c'] 29));exact⟨h'.pb,heap_alloc_new _ _,h'.gb,⟨h.glo.1,h.glo.2.1,Nat.le_trans h.glo.2.2.2 hb.size,h'.glo.2.2.2⟩,(O.below (AG _ _)).lower h.glo.2.2.2,h'.swp,h'.low,h'.pgs⟩
theorem Ia.back (h:Ia lo g gk q w l n j m i e c sv lv qv):Ia lo g gk gk (Gf w gk m i e c) l n j m i e c sv lv qv:=by obtain⟨a,b,c2,d,hg⟩:=h.gb;have hgr:=BM w gk m i e c;obtain⟨k1,k2,k3,k4⟩:=h.keep hg hgr;exact⟨k1,DJ hg,⟨_,_,_,_,DJ hg⟩,⟨h.glo.1,h.glo.2.1,h.glo.2.1,Nat.le_trans h.glo.2.2.2 hgr.size⟩,h.ker.far hgr hg (by decide) (by decide) (by decide) (by decide) (by decide) (by decide),k2,k3,k4⟩
theorem Ia.push {B:Nat} {w4 w5:World} {o':Value} {fr:Int} (h:Ia lo g gk q w l n j m i e c sv lv qv) (K:Cz B w m i e c (Cp n)) (hB:lo≤B) (hr:∀b,lv.ownBlock=some b→b<B) (b4:Below w.heap.size w w4) (q1:w5.ownsRow lo 3 1 o' (j+1) ((GH j).map (Value.int .i64)++[.int .i64 fr])) (q2:w4.grownBy w5 lv.ownBlock) (hfr:fr=((j+1:Nat):Int)):
 w5.heap[g]? =some (.cells #[.slice none 0 0, .slice none 0 0, .slice none 0 0, .slice none 0 0,sv,lv,qv, .int .i64 0, .int .i64 l] 33 (0,0))∧Ia lo g gk q (w5.setCell ⟨g,5,none⟩ o') l n (j+1) m i e c sv o' qv:=by
 have h4:=h.below b4;have hne:=Bz h4.low h4.pb (by decide);have hnq:=Bz h4.low h4.kb (by decide);obtain⟨a,b,c2,d,hg⟩:=h4.gb;have hng:=Bz h4.low hg (by decide);have hB5:=(q2.block g (Ao h4.pb) (fun e=>hne e.symm)).trans h4.pb;have hK5:=(q2.block q (Ao h4.kb) (fun e=>hnq e.symm)).trans h4.kb;have hG5:=(q2.block gk (Ao hg) (fun e=>hng e.symm)).trans hg;have gr:=Al w5 g 5 o';have S6:=(h4.swp.grown q2 (fun b hb he=>by obtain⟨vs,o1,_⟩:=h4.swp;obtain⟨cu1,hc1⟩:=Bf o1 b hb;obtain⟨cu2,hc2⟩:=Bf h4.low b he;rw[hc1] at hc2;simp at hc2)).far gr hB5 (by decide)
 have hlow:AE lo w5 o' (GH (j+1)):=by rw[M7,←hfr];simpa[AE,Jt] using q1
 refine⟨hB5,⟨?_,BD hK5 gr (Dn hB5 hK5 (by decide)),⟨a,b,c2,d,BD hG5 gr (Dn hB5 hG5 (by decide))⟩,⟨h.glo.1,h.glo.2.1,h.glo.2.2.1,Nat.le_trans h4.glo.2.2.2 (Nat.le_trans q2.size gr.size)⟩,(((K.below b4).past q2 hr).lower hB).far gr hB5 (by decide) (by decide) (by decide) (by decide) (by decide) (by decide),S6,Ek hlow gr hB5 (by decide),Ek (Av h4.pgs q2 (BK h4.pgs h4.low (by decide)).ne) gr hB5 (by decide)⟩⟩
 ·have:=heap_setCell_same w5 g 5 _ _ o' hB5
  simpa using this
end
theorem OS {w:World} {m i e c:Value} {n:Nat} (h:Mb w m i e c (Cp n)) (hn:n≤15) (kind a b x:Int) (hx:x≤9223372036854775807) {v:Int} (hc:AU (Cp n) (Dh kind a b x)=(Cp (n+1),v,0)):
 Calls prog 47 #[.agg #[m,i,e,c], .int .i64 kind, .int .i64 a, .int .i64 b, .int .i64 x] w
  (fun r w'=>∃m i e c,r= .returned (.tuple #[.agg #[m,i,e,c], .int .i64 v, .bool true])∧Cz w.heap.size w' m i e c (Cp (n+1))∧Below w.heap.size w w'):=by
 have:=Qg h (Qj n hn) kind a b x hx;rw[hc] at this;exact this
theorem Pg (l:Int) (w:World) (h:Bk l 1 6=false):Calls prog 17 #[.int .i64 l] w fun r w'=>UH r∧Below w.heap.size w w':=by have N0:=heap_alloc_new w (.cells #[.slice none 0 0, .slice none 0 0, .slice none 0 0, .slice none 0 0, .slice none 0 0, .slice none 0 0, .slice none 0 0, .int .i64 0, .int .i64 0] 33);have f0:=AM N0;obtain⟨x0,x1,x2,x3,x4,x5,x6,x7,x8⟩:=Ad N0;go_in;go_wp2_with fail;refine(DV _ _ _ _).mono ?_;rintro e w' ⟨rfl,rfl⟩;rw[h];go_wp2_with fail;exact bodyPost_ret (v:= .tuple #[.agg #[_,_,_,_,_,_,_,_,_],_]) (by simp[results,Tryz.results17,go_sem,x0,x1,x2,x3,x4,x5,x6,x7,x8]) rfl ⟨rfl,AG _ _⟩
def Vk (w:World) (P:BO) (b:Bool) (r:Ending) (w':World):Prop:=∃m i e c s lo q,r= .returned (.tuple #[Bq m i e c s lo q P.hand P.limit, .bool b])∧Qz w' m i e c s lo q P∧Below w.heap.size w w'
def LF (lo:Nat) (v:Value) (w:World) (l:Int):Prop:=∃s lv q,v= .agg #[.slice none 0 0, .slice none 0 0, .slice none 0 0, .slice none 0 0,s,lv,q, .int .i64 0, .int .i64 l]∧MD lo w s∧AE lo w lv []∧AJ lo 127 3 Dg w q (List.replicate 16 ⟨0,0,false⟩)
theorem LF.below {lo:Nat} {v:Value} {w w':World} {l:Int} (h:LF lo v w l) (hb:Below w.heap.size w w'):LF lo v w' l:=by obtain⟨s,lv,q,h1,h2,h3,h4⟩:=h;exact⟨s,lv,q,h1,h2.below hb,h3.below hb,h4.below hb⟩
theorem Ns (l:Int) (w:World) (h1:1≤l) (h6:l≤6):Calls prog 17 #[.int .i64 l] w (Vk w (Hz l) true):=by
 have N0:=heap_alloc_new w (.cells #[.slice none 0 0, .slice none 0 0, .slice none 0 0, .slice none 0 0, .slice none 0 0, .slice none 0 0, .slice none 0 0, .int .i64 0, .int .i64 0] 33);have b0:=AG w (.cells #[.slice none 0 0, .slice none 0 0, .slice none 0 0, .slice none 0 0, .slice none 0 0, .slice none 0 0, .slice none 0 0, .int .i64 0, .int .i64 0] 33);go_in;go_wp2_with fail;refine(DV _ _ _ _).mono ?_;rintro e w' ⟨rfl,rfl⟩;rw[show Bk l 1 6=true from AZ.2 ⟨h1,h6⟩];have hgw:=Ao N0;generalize w.alloc _=W0 at*;go_wp2_with fail;have hr3:=So W0 ⟨#[97]⟩ ⟨#[98]⟩ ⟨#[99]⟩ 9 67;have bn:=((F3 W0 (.cells #[.string ⟨#[97]⟩] 9) (.cells #[.string ⟨#[98]⟩] 9)).trans ((AG _ (.cells #[.string ⟨#[99]⟩] 9)).mono (F3 W0 _ _).size));replace bn:=bn.trans ((AG _ (.cells #[.slice (some ⟨W0.heap.size,0,none⟩) 1 1, .slice (some ⟨W0.heap.size+1,0,none⟩) 1 1, .slice (some ⟨W0.heap.size+1+1,0,none⟩) 1 1] 67)).mono bn.size);generalize(((W0.alloc _).alloc _).alloc _).alloc _=w5 at*;refine(MY _ Ju w5 hr3 rfl Ka KF).mono ?_;rintro e w6 ⟨mk,ik,ek,ck,rfl,O6,b6⟩;rw[Ls] at O6;obtain⟨⟨ma,mn,mc,rfl⟩,⟨ia,iN,ic,rfl⟩,⟨ea,en,ec,rfl⟩,⟨qa,qn,qc,rfl⟩⟩:=O6.shapes;have b7:=AG w6 (.cells #[.slice ma mn mc, .slice ia iN ic, .slice ea en ec, .slice qa qn qc] 29);have N7:=heap_alloc_new w6 (.cells #[.slice ma mn mc, .slice ia iN ic, .slice ea en ec, .slice qa qn qc] 29);have O7:=(O6.below b7).lower bn.size;have B7:=bn.trans ((b6.trans (b7.mono b6.size)).mono bn.size);have hgk0:W0.heap.size≤w6.heap.size:=Nat.le_trans bn.size b6.size;go_wp2_with fail;generalize w6.heap.size=gk at N7 hgk0 ⊢;generalize w6.alloc _=W7 at*;have HO:=AA O7;have HB:=AA B7;have HN:=AA N0;have HN7:=AA N7;have Hb:=AA b0;clear hr3 bn O6 b6 b7 N7 O7 B7 N0 b0;refine AH 6 mixed (by kernel_rfl) 87 rfl (by kernel_rfl) (fun ix vv ww=>match ix with
  |0=>MD W7.heap.size ww vv
  |1=>AE W7.heap.size ww vv []
  |2=>AJ W7.heap.size 127 3 Dg ww vv (List.replicate 16 ⟨0,0,false⟩)
  |3=>vv= .int .i64 l
  |4=>LF W7.heap.size vv ww l
  |5=>Gw W7.heap.size vv ww
  |_=>True) ?_ ?_ ?_
 ·intro i hi vv wz ww' hbz hz
  match i,hi with
  |0,_=>exact(MD.below hz hbz)
  |1,_=>exact(AE.below hz hbz)
  |2,_=>exact(AJ.below hz hbz)
  |3,_=>exact hz
  |4,_=>exact(LF.below hz hbz)
  |5,_=>exact(Gw.below hz hbz)
 ·intro i hi o ho a wx Hb Hd hG K HK
  match i,hi with
  |0,_=>obtain rfl:=So_ ho;clear Hd Hb;refine AI.of rfl ?_;go_simp;refine(Rl _).mono ?_;rintro r w_ ⟨v',vs,rfl,hO,hb2⟩;exact HK.out _ _ ((MD.of hO).lower hG.size) hb2
  |1,_=>obtain rfl:=So_ ho;clear Hd Hb;refine AI.of rfl ?_;go_simp;exact HK.out _ _ (BQ (Fh wx) hG.size) (AG _ _)
  |2,_=>obtain rfl:=So_ ho;clear Hd Hb;obtain⟨i0,hi0,hz0,hz1,hz2⟩:=info_parts Tryz.infoPageK;obtain⟨w9,hrun,h3,h4⟩:=run_make_full (P:=prog) wx wx.heap.size 31 127 i0 _ 3 underlying31 hi0 hz0 hz1 .i64 .i64 16 (by rw[hz2];decide) (by decide) (Nat.le_refl _);have h5:=Below.of_grown h4;rw[OR] at h3;have hrun':(Instr.makeSlice 31 (.int .i64 16) (.int .i64 16)).run prog wx= .ok (.slice (some ⟨wx.heap.size,0,none⟩) 16 16) w9:=hrun;clear hi0 hz0 hz1 hz2 hrun;refine AI.of rfl ?_;go_simp;exact HK.out _ _ (BQ h3 hG.size) h5
  |3,_=>exact eM ho HK (eb (Aj Hb 0))
  |4,_=>obtain rfl:=So_ ho;have d0:MD W7.heap.size wx (a.tmps[25]?.getD undef):=AD Hd 0;have d1:AE W7.heap.size wx (a.tmps[26]?.getD undef) []:=AD Hd 1;have d2:AJ W7.heap.size 127 3 Dg wx (a.tmps[27]?.getD undef) (List.replicate 16 ⟨0,0,false⟩):=AD Hd 2;have d3:(a.tmps[28]?.getD undef)= .int .i64 l:=AD Hd 3;clear Hd Hb;generalize e25:a.tmps[25]?.getD undef=s' at d0;generalize e26:a.tmps[26]?.getD undef=l' at d1;generalize e27:a.tmps[27]?.getD undef=q' at d2;have D0:=AA d0;have D1:=AA d1;have D2:=AA d2;obtain⟨_,_,_,rfl⟩:=d0.slice;obtain⟨_,_,rfl,_,_,_⟩:=d1.rd.open;obtain⟨_,_,rfl,_,_⟩:=d2.rd.shape;clear d0 d1 d2;refine AI.of rfl ?_;go_simp;exact HK.out _ _ ⟨_,_,_,rfl,D0.out,D1.out,D2.out⟩ (Below.refl _ _)
  |5,_=>obtain rfl:=So_ ho;clear Hd Hb;refine AI.of rfl ?_;go_simp;exact HK.out _ _ ⟨_,rfl,hG.size,heap_alloc_new _ _⟩ (AG _ _)
 ·intro vs wx hR hG
  have q4:LF W7.heap.size (vs 4) wx l:=BI hR 4;have q5:Gw W7.heap.size (vs 5) wx:=BI hR 5;clear hR;simp only[Ai,AX,List.range,List.range.loop,List.foldl_cons,List.foldl_nil];simp;generalize vs 4=z4 at q4 ⊢;generalize vs 5=z5 at q5 ⊢;obtain⟨s',l',q',rfl,r1,r0,r2⟩:=q4;obtain⟨g,rfl,hg7,hgB⟩:=q5;obtain⟨sa,sn,sc,rfl⟩:=r1.slice;obtain⟨la,ln,lc,rfl⟩:∃a n c,l'= .slice a n c:=by obtain⟨_,_,rfl,_,_,_⟩:=r0.rd.open;exact⟨_,_,_,rfl⟩
  obtain⟨pa,pn,pc,rfl⟩:∃a n c,q'= .slice a n c:=by obtain⟨_,_,rfl,_,_⟩:=r2.rd.shape;exact⟨_,_,_,rfl⟩
  obtain⟨x0,x1,x2,x3,x4,x5,x6,x7,x8⟩:=Ad hgB;have fz:=AM hgB;go_step;go_simp;have hgr:=IC (w:=wx) (g:=g) (b0:= .slice none 0 0) (b1:= .slice none 0 0) (b2:= .slice none 0 0) (b3:= .slice none 0 0) (b4:= .slice sa sn sc) (b5:= .slice la ln lc) (b6:= .slice pa pn pc) (b7:= .int .i64 0) (b8:= .int .i64 l);have N8:=Jj (b0:= .slice none 0 0) (b1:= .slice none 0 0) (b2:= .slice none 0 0) (b3:= .slice none 0 0) (b4:= .slice sa sn sc) (b5:= .slice la ln lc) (b6:= .slice pa pn pc) (b7:= .int .i64 0) (b8:= .int .i64 l) hgB;have K8:=BD (AF HN7.out hG) hgr (Dn hgB (AF HN7.out hG) (by decide));have I8:Ia W0.heap.size g gk gk _ l 0 0 _ _ _ _ _ _ _:=⟨N8,K8,⟨_,_,_,_,K8⟩,⟨Nat.le_trans HB.out.size hg7,hgk0,hgk0,Nat.le_trans HB.out.size (Nat.le_trans hG.size hgr.size)⟩,(HO.out.below hG).far hgr hgB (by decide) (by decide) (by decide) (by decide) (by decide) (by decide),(r1.lower HB.out.size).far hgr hgB (by decide),Ek (BQ r0 HB.out.size) hgr hgB (by decide),AJ.far (BQ r2 HB.out.size) hgr hgB (by decide)⟩;have B8:=AT (HB.out.trans (hG.mono HB.out.size)) hgr (Nat.le_trans HB.out.size hg7) (Nat.le_trans HB.out.size hG.size);clear r0 r1 r2 N8 K8 hgr x0 x1 x2 x3 x4 x5 x6 x7 x8 fz hgB hg7 hG HO HB HN7;unfold MF at I8 B8;generalize((((((((wx.setCell _ _).setCell _ _).setCell _ _).setCell _ _).setCell _ _).setCell _ _).setCell _ _).setCell _ _).setCell _ _=W8 at*;replace I8:=AA I8;replace B8:=AA B8;obtain⟨k0,k1,k2,k3⟩:=AB I8.out.kb;have C:=OS (n:=0) I8.out.ker.rd (by omega) 1 0 0 0 (by decide) Sj;go_wp2_with fail;refine C.mono ?_;rintro r w9 ⟨m9,i9,e9,c9,rfl,O9,b9⟩;have I9:=AA (I8.out.put b9 O9);have B9:=AA (AT (B8.out.trans (b9.mono I8.out.glo.2.2.2)) (BM w9 gk m9 i9 e9 c9) I8.out.glo.2.1 (Nat.le_trans I8.out.glo.2.2.2 b9.size));have kf:=AM (I8.out.below b9).kb;obtain⟨k0,k1,k2,k3⟩:=AB (I8.out.below b9).kb;obtain⟨⟨ua,un,uc,rfl⟩,⟨va,vn,vc,rfl⟩,⟨ya,yn,yc,rfl⟩,⟨za,zn,zc,rfl⟩⟩:=O9.shapes;unfold Gf at I9;generalize hW9:(((w9.setCell _ _).setCell _ _).setCell _ _).setCell _ _=W9 at I9 B9;obtain⟨n0,n1,n2,n3⟩:=AB I9.out.kb;clear O9 b9 I8 B8 C;go_wp2_with fail;clear k0 k1 k2 k3 kf;have C:=OS (n:=1) I9.out.ker.rd (by omega) 4 0 3 0 (by decide) Sg;refine C.mono ?_;rintro r w10 ⟨m10,i10,e10,c10,rfl,O10,b10⟩;have I10:=AA (I9.out.put b10 O10);have B10:=AA (AT (B9.out.trans (b10.mono I9.out.glo.2.2.2)) (BM w10 gk m10 i10 e10 c10) I9.out.glo.2.1 (Nat.le_trans I9.out.glo.2.2.2 b10.size));have kf:=AM (I9.out.below b10).kb;obtain⟨k0,k1,k2,k3⟩:=AB (I9.out.below b10).kb;obtain⟨⟨ua,un,uc,rfl⟩,⟨va,vn,vc,rfl⟩,⟨ya,yn,yc,rfl⟩,⟨za,zn,zc,rfl⟩⟩:=O10.shapes;unfold Gf at I10;generalize hW10:(((w10.setCell _ _).setCell _ _).setCell _ _).setCell _ _=W10 at I10 B10;obtain⟨n0,n1,n2,n3⟩:=AB I10.out.kb;clear O10 b10 I9 B9 C;go_wp2_with fail;clear k0 k1 k2 k3 kf;clear n0 n1 n2 n3;have C:=OS (n:=2) I10.out.ker.rd (by omega) 7 0 0 0 (by decide) Qk
  refine C.mono ?_;rintro r w11 ⟨m11,i11,e11,c11,rfl,O11,b11⟩;have I11:=AA (I10.out.put b11 O11);have B11:=AA (AT (B10.out.trans (b11.mono I10.out.glo.2.2.2)) (BM w11 gk m11 i11 e11 c11) I10.out.glo.2.1 (Nat.le_trans I10.out.glo.2.2.2 b11.size));have kf:=AM (I10.out.below b11).kb;obtain⟨k0,k1,k2,k3⟩:=AB (I10.out.below b11).kb;obtain⟨⟨ua,un,uc,rfl⟩,⟨va,vn,vc,rfl⟩,⟨ya,yn,yc,rfl⟩,⟨za,zn,zc,rfl⟩⟩:=O11.shapes;unfold Gf at I11;generalize hW11:(((w11.setCell _ _).setCell _ _).setCell _ _).setCell _ _=W11 at I11 B11;obtain⟨n0,n1,n2,n3⟩:=AB I11.out.kb;clear O11 b11 I10 B10 C;go_wp2_with fail;clear k0 k1 k2 k3 kf;go_wp2_with fail;go_loopw [9,10,11,12] (fun ix _ _ _ wr=>∃k:Nat,k≤4∧ix= .int .i64 k∧∃m i e c la ln lc,Ia W0.heap.size g gk gk wr l (3*k+3) k m i e c (.slice sa sn sc) (.slice la ln lc) (.slice pa pn pc)∧Below W0.heap.size W0 wr) (fun ix _ _ _ _=>4 - (intOf ix).toNat)
  case atStart=>exact⟨0,by omega,rfl,_,_,_,_,_,_,_,I11.out,B11.out⟩
  case round=>
   clear I11 B11;obtain⟨k,hk,rfl,mv,iv,ev,cv,la,ln,lc,I0,B0⟩:=hrel;replace I0:=AA I0;replace B0:=AA B0
   by_cases hlt:k<4
   ·obtain⟨fr,hfr⟩:∃fr:Int,fr=((k+1:Nat):Int):=⟨_,rfl⟩
    have T1:=Ql k hlt;have T2:=Sf k hlt;have T3:=Si k hlt;rw[←hfr] at T1 T2 T3;have hf0:0≤fr∧fr≤11:=by omega
    have Hfr:=AA hfr;clear hfr;have k4:(k:Int)<4:=by omega
    obtain⟨⟨ka,kn,kc,e1_⟩,⟨ja,jn,jc,e2_⟩,⟨fa,fn,fc,e3_⟩,⟨ra,rn,rc,e4_⟩⟩:=I0.out.ker.shapes;subst e1_ e2_ e3_ e4_;obtain⟨k0,k1,k2,k3⟩:=AB I0.out.kb;have C:=OS (n:=3*k+3) I0.out.ker.rd (by omega) 1 0 0 0 (by decide) T1;go_wp2_with fail;refine C.mono ?_;rintro r w1 ⟨m1,i1,e1,c1,rfl,O1,b1⟩;have I1:=AA (I0.out.new b1 O1);have B1:=AA (B0.out.trans ((b1.trans ((AG w1 (.cells #[m1,i1,e1,c1] 29)).mono b1.size)).mono I0.out.glo.2.2.2));obtain⟨⟨ua,un,uc,rfl⟩,⟨va,vn,vc,rfl⟩,⟨ya,yn,yc,rfl⟩,⟨za,zn,zc,rfl⟩⟩:=O1.shapes;clear O1 b1 C k0 k1 k2 k3 I0 B0;obtain⟨k0,k1,k2,k3⟩:=AB I1.out.kb;go_wp2_with fail;clear k0 k1 k2 k3;obtain⟨q1,hq1⟩:∃q1,q1=w1.heap.size:=⟨_,rfl⟩
    rw[←hq1] at I1 ⊢;clear hq1;generalize w1.alloc _=W1 at*;have C:=OS (n:=3*k+4) I1.out.ker.rd (by omega) 4 fr 2 0 (by decide) T2;refine C.mono ?_;rintro r w2 ⟨m2,i2,e2,c2,rfl,O2,b2⟩;have I2:=AA (I1.out.put b2 O2);have B2:=AA (AT (B1.out.trans (b2.mono I1.out.glo.2.2.2)) (BM w2 q1 m2 i2 e2 c2) I1.out.glo.2.2.1 (Nat.le_trans I1.out.glo.2.2.2 b2.size));have kf:=AM (I1.out.below b2).kb;obtain⟨k0,k1,k2,k3⟩:=AB (I1.out.below b2).kb;obtain⟨⟨ua,un,uc,rfl⟩,⟨va,vn,vc,rfl⟩,⟨ya,yn,yc,rfl⟩,⟨za,zn,zc,rfl⟩⟩:=O2.shapes;unfold Gf at I2;generalize hW2:(((w2.setCell _ _).setCell _ _).setCell _ _).setCell _ _=W2 at I2 B2;obtain⟨n0,n1,n2,n3⟩:=AB I2.out.kb;clear O2 b2 I1 B1 C;go_wp2_with fail;clear k0 k1 k2 k3 kf;have hqB:=I2.out.kb;have hql:=Ao hqB;have he:J5 fr≤9223372036854775807:=by unfold J5;omega
    have CP:=AA (fun W=>Tb fr W hf0.1 hf0.2);generalize J5 fr=en_ at T3 he CP;have RK:=I2.out.ker.rd;have CM:=AA (fun W (hW:Below W2.heap.size W2 W)=>OS (n:=3*k+5) (RK.below hW) (by omega) 6 0 (k:Int) en_ he T3);clear T1 T2 T3 RK;refine Bs 11 mixed 87 rfl (by kernel_rfl) rfl (fun ix=>ix==10) (fun ll ix vv ww=>match ix with
     |0=>vv= .agg #[.slice ua un uc, .slice va vn vc, .slice ya yn yc, .slice za zn zc]
     |1=>vv= .int .i64 0
     |2=>vv= .int .i64 k
     |3=>vv= .int .i64 fr
     |4=>vv= .int .i64 en_
     |5=>J3 W2.heap.size vv ww (Cp (3*k+6)) 0 true
     |6=>J3 W2.heap.size vv ww (Cp (3*k+6)) 0 true
     |7=>Is W2.heap.size vv ww (Cp (3*k+6))
     |8=>vv= .int .i64 0
     |9=>vv= .bool true
     |10=>True
     |_=>True) (fun ll ww=>GB W2 (q1) (Cp (3*k+6)) (ll 10) ww) ?_ ?_ ?_ ?_ ?_ ?_
    ·exact Ar (Below.refl _ _) 1
    ·intro j hj ll i vv wz ww' hi hS hLi hLj hbz hz
     match j,hj with
     |0,_|1,_|2,_|3,_|4,_=>exact hz
     |5,_=>exact(J3.below hz hbz)
     |6,_=>exact(J3.below hz hbz)
     |7,_=>exact(Is.below hz hbz)
     |8,_|9,_|10,_=>exact hz
    ·intro ll i wz ww' hi hS hLi hbz hg
     show GB _ _ _ (JK ll i 10) _
     rw[En (by rintro rfl;cases hS)];exact GB.grow hg hbz
    ·intro i hi hS o ho a wx Hb ll Hd HL hG K HK
     match i,hi,hS with
     |0,_,_=>
      obtain rfl:=So_ ho;have e10:a.tmps[10]?.getD undef= .pointer (some ⟨q1,0,none⟩):=eg (Aj Hb 10);have u10:ll 10=false:=by
       cases hx:ll 10
       ·rfl
       ·exact absurd (HL.out.2.2 10 0 hx (by kernel_rfl)) (by rw[HL.out.1];decide)
      clear Hd Hb;have m0:wx.cell? ⟨q1,0,none⟩=some (.slice ua un uc):=GB.cell hG (by cases hx:ll 10 with|false=>rfl|true=>exact absurd (HL.out.2.2 5 0 (HL.out.2.2 6 5 (HL.out.2.2 7 6 (HL.out.2.2 10 7 (hx) (by kernel_rfl)) (by kernel_rfl)) (by kernel_rfl)) (by kernel_rfl)) (by rw[HL.out.1];decide)) hql n0;have m1:wx.cell? ⟨q1,1,none⟩=some (.slice va vn vc):=GB.cell hG (by cases hx:ll 10 with|false=>rfl|true=>exact absurd (HL.out.2.2 5 0 (HL.out.2.2 6 5 (HL.out.2.2 7 6 (HL.out.2.2 10 7 (hx) (by kernel_rfl)) (by kernel_rfl)) (by kernel_rfl)) (by kernel_rfl)) (by rw[HL.out.1];decide)) hql n1;have m2:wx.cell? ⟨q1,2,none⟩=some (.slice ya yn yc):=GB.cell hG (by cases hx:ll 10 with|false=>rfl|true=>exact absurd (HL.out.2.2 5 0 (HL.out.2.2 6 5 (HL.out.2.2 7 6 (HL.out.2.2 10 7 (hx) (by kernel_rfl)) (by kernel_rfl)) (by kernel_rfl)) (by kernel_rfl)) (by rw[HL.out.1];decide)) hql n2;have m3:wx.cell? ⟨q1,3,none⟩=some (.slice za zn zc):=GB.cell hG (by cases hx:ll 10 with|false=>rfl|true=>exact absurd (HL.out.2.2 5 0 (HL.out.2.2 6 5 (HL.out.2.2 7 6 (HL.out.2.2 10 7 (hx) (by kernel_rfl)) (by kernel_rfl)) (by kernel_rfl)) (by kernel_rfl)) (by rw[HL.out.1];decide)) hql n3;refine AI.of rfl ?_;go_simp;exact HK.out _ _ rfl (Below.refl _ _)
     |1,_,_=>obtain rfl:=So_ ho;exact eM ho HK (eb (Aj Hb 7))
     |2,_,_=>obtain rfl:=So_ ho;exact eM ho HK (eb (Aj Hb 9))
     |3,_,_=>obtain rfl:=So_ ho;exact eM ho HK (eb (Aj Hb 11))
     |4,_,_=>
      obtain rfl:=So_ ho;have d3:(a.tmps[71]?.getD undef)= .int .i64 fr:=Be Hd HL 3;have u10:ll 10=false:=by
       cases hx:ll 10
       ·rfl
       ·exact absurd (HL.out.2.2 10 4 hx (by kernel_rfl)) (by rw[HL.out.1];decide)
      clear Hd Hb;refine AI.of rfl ?_;go_simp;refine(CP.out _).mono ?_;rintro r w_ ⟨rfl,hb2⟩;exact HK.out _ _ rfl hb2
     |5,_,_=>
      obtain rfl:=So_ ho;have d0:(a.tmps[68]?.getD undef)= .agg #[.slice ua un uc, .slice va vn vc, .slice ya yn yc, .slice za zn zc]:=Be Hd HL 0;have d1:(a.tmps[69]?.getD undef)= .int .i64 0:=Be Hd HL 1;have d2:(a.tmps[70]?.getD undef)= .int .i64 k:=Be Hd HL 2;have d4:(a.tmps[72]?.getD undef)= .int .i64 en_:=Be Hd HL 4;have u10:ll 10=false:=by
       cases hx:ll 10
       ·rfl
       ·exact absurd (HL.out.2.2 10 5 hx (by kernel_rfl)) (by rw[HL.out.1];decide)
      clear Hd Hb;refine AI.of rfl ?_;go_simp;have hG9:Below W2.heap.size W2 wx:=by
       rw[show ll 10=false from(by cases hx:ll 10 with|false=>rfl|true=>exact absurd (HL.out.2.2 6 5 (HL.out.2.2 7 6 (HL.out.2.2 10 7 (hx) (by kernel_rfl)) (by kernel_rfl)) (by kernel_rfl)) (by rw[HL.out.1];decide))] at hG;exact hG
      refine(CM.out _ hG9).mono ?_;rintro r w_ ⟨m',i',e',c',rfl,hO,hb2⟩;exact HK.out _ _ ⟨m',i',e',c',rfl,hO.lower hG9.size⟩ hb2
     |6,_,_=>
      obtain rfl:=So_ ho;have d5:J3 W2.heap.size (a.tmps[73]?.getD undef) wx (Cp (3*k+6)) 0 true:=Be Hd HL 5;have u10:ll 10=false:=by
       cases hx:ll 10
       ·rfl
       ·exact absurd (HL.out.2.2 10 6 hx (by kernel_rfl)) (by rw[HL.out.1];decide)
      clear Hd Hb;refine AI.of rfl ?_;go_simp;exact HK.out _ _ d5 (Below.refl _ _)
     |7,_,_=>
      obtain rfl:=So_ ho;have d6:J3 W2.heap.size (a.tmps[67]?.getD undef) wx (Cp (3*k+6)) 0 true:=Be Hd HL 6;have u10:ll 10=false:=by
       cases hx:ll 10
       ·rfl
       ·exact absurd (HL.out.2.2 10 7 hx (by kernel_rfl)) (by rw[HL.out.1];decide)
      clear Hd Hb;obtain⟨m',i',e',c',d6,hO⟩:=d6;refine AI.of rfl ?_;go_simp;exact HK.out _ _ ⟨_,_,_,_,rfl,hO⟩ (Below.refl _ _)
     |8,_,_=>obtain rfl:=So_ ho;have d6:J3 W2.heap.size (a.tmps[67]?.getD undef) wx (Cp (3*k+6)) 0 true:=Be Hd HL 6;clear Hd Hb;obtain⟨m',i',e',c',d6,hO⟩:=d6;refine AI.of rfl ?_;go_simp;exact HK.out _ _ rfl (Below.refl _ _)
     |9,_,_=>obtain rfl:=So_ ho;have d6:J3 W2.heap.size (a.tmps[67]?.getD undef) wx (Cp (3*k+6)) 0 true:=Be Hd HL 6;clear Hd Hb;obtain⟨m',i',e',c',d6,hO⟩:=d6;refine AI.of rfl ?_;go_simp;exact HK.out _ _ rfl (Below.refl _ _)
     |10,_,hs=>exact absurd hs (by decide)
    ·intro i hi hS o ho a wx Hb ll Hd HL hG K HK
     match i,hi,hS with
     |0,_,hs|1,_,hs|2,_,hs|3,_,hs|4,_,hs|5,_,hs|6,_,hs|7,_,hs|8,_,hs|9,_,hs=>exact absurd hs (by decide)
     |10,_,_=>
      obtain rfl:=So_ ho;have e10:a.tmps[10]?.getD undef= .pointer (some ⟨q1,0,none⟩):=eg (Aj Hb 10);have d7:Is W2.heap.size (a.tmps[74]?.getD undef) wx (Cp (3*k+6)):=Be Hd HL 7;clear Hd Hb;rw[HL.out.1] at hG;replace hG:Below W2.heap.size W2 wx:=hG;obtain⟨m',i',e',c',d7,hO⟩:=d7;obtain⟨⟨va,vn,vc,rfl⟩,⟨wa,wn,wc,rfl⟩,⟨xa,xn,xc,rfl⟩,⟨ya,yn,yc,rfl⟩⟩:=hO.shapes;have hq2:=AF hqB hG;obtain⟨c0,c1_,c2,c3⟩:=AB hq2;have fq:=AM hq2;have hgr:=AA (BM wx (q1) (.slice va vn vc) (.slice wa wn wc) (.slice xa xn xc) (.slice ya yn yc));have Hq:=AA hq2;have HO:=AA hO;clear hq2 hO;refine AI.of rfl ?_;go_simp;exact HK.out undef _ trivial (by show GB _ _ _ (JK ll 10 10) _;rw[FN];exact⟨wx,_,_,_,_,hG,HO.out,Below.refl _ _⟩) (fun j hji hjn hjl hu=>match j,hjn with
       |0,_|1,_|2,_|3,_|4,_=>hu
       |5,_=>J3.far hu hgr.out Hq.out
       |6,_=>J3.far hu hgr.out Hq.out
       |7,_=>Is.far hu hgr.out Hq.out
       |8,_|9,_=>hu
       |10,_=>absurd rfl hji)
    ·intro vs wx ll hall hR hG
     have q8:(vs 8)= .int .i64 0:=BI hR 8;clear hR;simp only[Dy,Bl,List.range,List.range.loop,List.foldl_cons,List.foldl_nil,q8];simp;clear q8;rw[hall 10 (by decide)] at hG;obtain⟨wz,m3,i3,e3,c3,hz1,hO,hz2⟩:=hG;have hz2':Below (Gf wz q1 m3 i3 e3 c3).heap.size (Gf wz q1 m3 i3 e3 c3) wx:=by simpa[Gf] using hz2
     have I3:=(I2.out.put hz1 hO).below hz2';have K3:=(hO.far (BM wz q1 m3 i3 e3 c3) (AF hqB hz1) (by decide) (by decide) (by decide) (by decide) (by decide) (by decide)).below hz2';have B3:=B2.out.trans ((AT (hz1.mono I2.out.glo.2.2.2) (BM wz q1 m3 i3 e3 c3) I2.out.glo.2.2.1 (Nat.le_trans I2.out.glo.2.2.2 hz1.size):Below W0.heap.size W2 _).trans (hz2'.mono (Nat.le_trans I2.out.glo.2.2.2 (Nat.le_trans hz1.size (BM wz q1 m3 i3 e3 c3).size))));have hlt2:∀b,(Value.slice la ln lc).ownBlock=some b→b<W2.heap.size:=fun b hb=>(World.ownsRow.lt I2.out.low b hb).2
     have hL2:=I2.out.glo.2.2.2;clear hall hz1 hz2 hz2' hO hqB hql n0 n1 n2 n3 CM CP;have hxl:=Jt k;have HP:=AA (fun w4 w5 o' (b4:Below wx.heap.size wx w4) q1 (q2:w4.grownBy w5 (Value.slice la ln lc).ownBlock)=>Ia.push (o':=o') (w5:=w5) I3 K3 hL2 hlt2 b4 q1 q2 Hfr.out);obtain⟨_,_,_,_,_,c5,_⟩:=Ad I3.pb;have f5:=AM I3.pb;have b4:=AG wx (.cells #[.int .i64 fr] 3);have hlow4:(wx.alloc (.cells #[.int .i64 fr] 3)).ownsRow W0.heap.size 3 1 (.slice la ln lc) k ((GH k).map (Value.int .i64)):=by have:=AE.below I3.low b4;unfold AE at this;rwa [hxl] at this
     have hln:ln=k:=by obtain⟨_,_,hv,_⟩:=I3.low.rd.open;simp only[Value.slice.injEq] at hv;rw[hxl] at hv;exact hv.2.1
     subst hln;have L4:=Nat.le_trans I3.glo.2.2.2 b4.size;have HI:=AA (And.intro B3 (And.intro b4 L4));have hgl:=AA I3.glo.1;have hLx:=I3.glo.2.2.2;clear I3 I2 K3 B3 B2 hlt2;go_wp2_with (at_builtin;go_must (refine BW (lo:=W0.heap.size) (n:=ln) (xs:=(GH ln).map (Value.int .i64)) (m:=1) (news:=[.int .i64 fr]) rfl rfl 3 (.int .i64 0) 1 8 underlying30 Tryz.infoInt rfl (by decide) rfl hlow4 rfl (Rd.newsAt _ #[_] _ 1 1 _ (by simp) rfl (by simp[maxLen])) (by simp[Value.oneCell']) (by unfold maxLen;omega) (by omega) L4 ?_;intro o' w5 q1_ q2_ q3_ q4_;obtain⟨oa,on,oc,rfl⟩:=Ld q1_;have X:=HP.out _ _ _ HI.out.2.1 q1_ q2_;have f6:=AM X.1;have c6:=cell_of_row _ _ 5 _ _ _ X.1;have HX:=AA X.2;have HQ:=AA q4_;obtain⟨k0,k1,k2,k3⟩:=AB HX.out.kb;obtain⟨xa,xb,xc,xd,hgb⟩:=HX.out.gb;obtain⟨v0,v1,v2,v3⟩:=AB hgb;have fgk:=AM hgb;obtain⟨⟨sa1,sn1,sc1,rfl⟩,⟨sa2,sn2,sc2,rfl⟩,⟨sa3,sn3,sc3,rfl⟩,⟨sa4,sn4,sc4,rfl⟩⟩:=HX.out.ker.shapes;clear X q1_ q2_ q3_ q4_ hlow4 hgb));have B5:=AA (AT (HI.out.1.trans ((HI.out.2.1.mono hLx).trans HQ.out)) (Al w5 g 5 (.slice oa on oc)) hgl.out (Nat.le_trans HI.out.2.2 HQ.out.size));have I6:=HX.out.back;have B6:=AT B5.out (BM _ gk (.slice sa1 sn1 sc1) (.slice sa2 sn2 sc2) (.slice sa3 sn3 sc3) (.slice sa4 sn4 sc4)) HX.out.glo.2.1 HX.out.glo.2.2.2;go_roundw
     case rel=>exact⟨ln+1,by omega,by go_num,_,_,_,_,_,_,_,I6,B6⟩
     case measure=>simp[intOf];omega
   ·obtain rfl:k=4:=by omega
    obtain⟨⟨ka,kn,kc,e1_⟩,⟨ja,jn,jc,e2_⟩,⟨fa,fn,fc,e3_⟩,⟨ra,rn,rc,e4_⟩⟩:=I0.out.ker.shapes;subst e1_ e2_ e3_ e4_;obtain⟨k0,k1,k2,k3⟩:=AB I0.out.kb;have hpb:=I0.out.pb;have hgr:=BM wr g (.slice ka kn kc) (.slice ja jn jc) (.slice fa fn fc) (.slice ra rn rc);have N1:=Ml (m':= .slice ka kn kc) (i':= .slice ja jn jc) (e':= .slice fa fn fc) (c':= .slice ra rn rc) hpb;have HB2:=(B0.out.block w.heap.size hgw).trans HN.out;have HB3:=BD HB2 hgr (by have:=I0.out.glo.1;omega);obtain⟨x0,x1,x2,x3,x4,x5,x6,x7,x8⟩:=Ad hpb;have fz:=AM hpb;obtain⟨z0,z1,z2,z3,z4,z5,z6,z7,z8⟩:=Ad N1;obtain⟨y0,y1,y2,y3,y4,y5,y6,y7,y8⟩:=Ad HB3;have fy:=AM HB3;have gr2:=IC (w:=((((wr.setCell ⟨g,0,none⟩ (.slice ka kn kc)).setCell ⟨g,1,none⟩ (.slice ja jn jc)).setCell ⟨g,2,none⟩ (.slice fa fn fc)).setCell ⟨g,3,none⟩ (.slice ra rn rc))) (g:=w.heap.size) (b0:= .slice ka kn kc) (b1:= .slice ja jn jc) (b2:= .slice fa fn fc) (b3:= .slice ra rn rc) (b4:= .slice sa sn sc) (b5:= .slice la ln lc) (b6:= .slice pa pn pc) (b7:= .int .i64 0) (b8:= .int .i64 l);have NN:=Jj (b0:= .slice ka kn kc) (b1:= .slice ja jn jc) (b2:= .slice fa fn fc) (b3:= .slice ra rn rc) (b4:= .slice sa sn sc) (b5:= .slice la ln lc) (b6:= .slice pa pn pc) (b7:= .int .i64 0) (b8:= .int .i64 l) HB3;have RK:=(((I0.out.ker.far hgr hpb (by decide) (by decide) (by decide) (by decide) (by decide) (by decide)).far gr2 HB3 (by decide) (by decide) (by decide) (by decide) (by decide) (by decide)).rd);have RS:=((I0.out.swp.far hgr hpb (by decide)).far gr2 HB3 (by decide)).rd;have RL:=AE.rd (Ek (Ek I0.out.low hgr hpb (by decide)) gr2 HB3 (by decide));have RQ:=AJ.rd (AJ.far (AJ.far I0.out.pgs hgr hpb (by decide)) gr2 HB3 (by decide));have RP:=AA (show Qz _ (.slice ka kn kc) (.slice ja jn jc) (.slice fa fn fc) (.slice ra rn rc) (.slice sa sn sc) (.slice la ln lc) (.slice pa pn pc) (Hz l) from⟨by have:=RK;rw[show 3*4+3=15 from rfl,NA] at this;exact this,RS,RL,RQ⟩);have BF:=AA (AT (AT (Hb.out.trans (B0.out.mono Hb.out.size)) hgr (by have:=I0.out.glo.1;omega) (Nat.le_trans (Nat.le_trans Hb.out.size (Nat.le_refl _)) I0.out.glo.2.2.2)) gr2 (Nat.le_refl _) (Nat.le_trans (Nat.le_trans Hb.out.size I0.out.glo.2.2.2) hgr.size));have HE:=AA (Ad NN);clear RK RS RL RQ gr2 NN hgr N1 HB2 HB3 hpb I0 B0;rw[show((4:Nat):Int)=4 from rfl];go_wp2_with fail;obtain⟨E0,E1,E2,E3,E4,E5,E6,E7,E8⟩:=HE.out;unfold MF at E0 E1 E2 E3 E4 E5 E6 E7 E8;exact bodyPost_ret (v:= .tuple #[.agg #[_,_,_,_,_,_,_,_,_],_]) (by simp[results,Tryz.results17,go_sem,E0,E1,E2,E3,E4,E5,E6,E7,E8];exact⟨rfl,rfl⟩) rfl ⟨_,_,_,_,_,_,_,rfl,RP.out,BF.out⟩
theorem Up {lo:Nat} {w:World} {v:Value} {xs:List Int} (h:AE lo w v xs) {j:Nat} (hj:j<xs.length):∃b cap,v= .slice (some ⟨b,0,none⟩) xs.length cap∧b<w.heap.size∧w.cell? ⟨b,j,none⟩=some (.int .i64 (xs.getD j 0)):=by
 have h0:=h;unfold AE at h0
 rcases h0.2 with⟨rfl,e⟩|⟨b,cap,cur,rfl,_,_,_⟩
 ·omega
 ·refine⟨b,cap,rfl,(World.ownsRow.lt h0 b rfl).2,?_⟩
  have:=World.ownsRow.cellAt h0 j (by omega);rw[this];simp[List.getD_eq_getElem?_getD,hj]
theorem RO {l:List DI} {k:Nat} {x:DI} (h:l[k]? =some x) (wh:Int):DT (l.take (k+1)) wh=DT (l.take k) wh+GG (TY wh x):=by rw[Cv h];unfold DT;rw[List.countP_append];simp[List.countP_cons,GG]
theorem Rw {g:Nat} {w:World} {qv:Value} {ps:List DI} (hq:w.cell? ⟨g,6,none⟩=some qv) (hR:A3 3 Dg w qv ps) (hl:ps.length=16) (wh:Int):
 Calls prog 58 #[.pointer (some ⟨g,0,none⟩), .int .i64 wh] w (fun r w'=>r= .returned (.int .i64 (DT ps wh:Int))∧Below w.heap.size w w'):=by
 obtain⟨a,c,rfl,_⟩:=hR.shape;have H0:=Px.of H6 (by decide) hR;rw[hl] at hq;go_in;go_wp2_with fail;go_loopw [5,7,13] (fun n _ ix wr=>∃k:Nat,k≤16∧ix= .int .i64 k∧n= .int .i64 (DT (ps.take k) wh:Int)∧Below w.heap.size w wr) (fun _ _ ix _=>16 - (intOf ix).toNat)
 case atStart=>exact⟨0,by omega,rfl,rfl,Below.refl _ _⟩
 case round=>
  obtain⟨k,hk,rfl,rfl,hb⟩:=hrel
  by_cases hlt:k<16
  ·obtain⟨x,hx⟩:∃x,ps[k]? =some x:=⟨_,List.getElem?_eq_getElem (by omega)⟩
   obtain⟨b,off,rfl,hbl,hc⟩:=(H0.below hb) k x hx;have D0:=hc 0 _ rfl;have D1:=hc 1 _ rfl;have D2:=hc 2 _ rfl;rw[Nat.add_zero] at D0;have Nx:=AA (RO hx wh);have hcl:DT (ps.take k) wh≤16:=by unfold DT;exact Nat.le_trans List.countP_le_length (by rw[List.length_take];omega)
   generalize DT (ps.take k) wh=n at*;have k16:(k:Int)<16:=by omega
   obtain⟨xw,xa,xu⟩:=x;have bw:=AA (hb.trans ((AG wr (.cells #[.int .i64 xw, .int .i64 xa, .bool xu] 127)).mono hb.size));clear hc hx H0 hR
   by_cases hw:xw=wh
   ·subst hw
    have t1:GG (TY xw ⟨xw,xa,xu⟩)=1:=by simp[TY,GG]
    go_wp2_with fail;go_roundw
    case rel=>exact⟨k+1,by omega,by go_num,by rw[Nx.out,t1];go_num,bw.out⟩
    case measure=>simp[intOf];omega
   ·have t1:GG (TY wh ⟨xw,xa,xu⟩)=0:=by simp[TY,GG,hw]
    have t2:(xw==wh)=false:=by simp[hw]
    clear hw;go_wp2_with fail;go_roundw
    case rel=>exact⟨k+1,by omega,by go_num,by rw[Nx.out,t1];go_num,bw.out⟩
    case measure=>simp[intOf];omega
  ·obtain rfl:k=16:=by omega
   rw[List.take_of_length_le (by omega)];go_wp2_with fail;go_ret;exact⟨rfl,hb⟩
theorem Ro {infos:List AQ} {f:Nat} (hk:Ou (infoAt infos f)):Ff infos f=(decide ((infoAt infos f).g=gA)&&decide ((infoAt infos f).r=1)&&decide ((infoAt infos f).k≠0)):=by
 unfold Ff
 by_cases h:(infoAt infos f).g=gA
 ·have:(infoAt infos f).k≠0:=fun e=>by
   rcases hk with⟨_,g⟩|⟨a,_⟩
   ·rw[h] at g;cases g
   ·omega
  simp[this]
 ·simp[h]
theorem KW {g:Nat} {w:World} {iv:Value} {infos:List AQ} (hi:w.cell? ⟨g,1,none⟩=some iv) (hR:A3 3 Ag w iv infos) (hl:infos.length=12) {f:Nat} (hf:f<12) (hk:Ou (infoAt infos f)):
 Calls prog 117 #[.pointer (some ⟨g,0,none⟩), .int .i64 f] w (fun r w'=>r= .returned (.bool (Ff infos f))∧Below w.heap.size w w'):=by
 have E:=AA (Ro hk);obtain⟨a,c,rfl,hc1,hc2⟩:=hR.shape;have H0:=Px.of As (by decide) hR;have hx:infos[f]? =some (infoAt infos f):=Bo (by omega);obtain⟨b,off,rfl,hbl,hc⟩:=H0 f _ hx;have D0:=hc 0 _ rfl;have D1:=hc 1 _ rfl;have D2:=hc 2 _ rfl;rw[Nat.add_zero] at D0;rw[hl] at hi;have hfi:(f:Int)<12:=by omega
 generalize infoAt infos f=x at*;obtain⟨k,gd,r⟩:=x;dsimp only at D0 D1 D2 E;clear hc H0 hR hx hk hl;have eg:gd=gA↔gd.toList=[97]:=⟨fun h=>by subst h;rw[Lib.toList_data];rfl,fun h=>by rw[Lib.toList_data] at h;cases gd with|mk d=>cases d with|mk l=>simp at h;subst h;rfl⟩
 by_cases hg:gd.toList=[97]
 ·have t1:(gd.toList==[97])=true:=by simp[hg]
  by_cases hr:r=1
  ·subst hr
   have t3:(k !=0)=decide (k≠0):=by by_cases h:k=0<;>simp[h]
   have E2:=AA (show Ff infos f=(k !=0) by rw[E.out,t3];simp[eg.2 hg]);clear hg eg E t3;go_in;go_wp2_with fail;go_ret;exact⟨AK E2.out.symm,AG _ _⟩
  ·have t2:(r==1)=false:=by simp[hr]
   have E2:=AA (show Ff infos f=false by rw[E.out];simp[hr]);clear hg eg E hr;go_in;go_wp2_with fail;go_ret;exact⟨AK E2.out.symm,AG _ _⟩
 ·have t1:(gd.toList==[97])=false:=by simp[hg]
  have E2:=AA (show Ff infos f=false by rw[E.out];simp[eg,hg]);clear hg eg E;go_in;go_wp2_with fail;go_ret;exact⟨AK E2.out.symm,AG _ _⟩
theorem To {g:Nat} {w:World} {mv iv ev cv sv lv qv:Value} {P:BO} (hB:w.heap[g]? =some (.cells #[mv,iv,ev,cv,sv,lv,qv, .int .i64 P.hand, .int .i64 P.limit] 33 (0,0))) (h:Qz w mv iv ev cv sv lv qv P) (hm:P.kern.mem.length=12) (hr:∀f,f<12→(AL P.kern.mem f).length=4) (hll:P.low.length=4) {n:Nat} (hn:n<16) (hlo:0≤D6 P.low (n/4)∧D6 P.low (n/4)≤11):
 Calls prog 121 #[.pointer (some ⟨g,0,none⟩), .int .i64 n] w (fun r w'=>r= .returned (.int .i64 (DC P n))∧Below w.heap.size w w'):=by
 unfold DC Am;obtain⟨ja,ha⟩:∃ja,ja=n/4:=⟨_,rfl⟩
 obtain⟨jb,hb⟩:∃jb,jb=n%4:=⟨_,rfl⟩
 rw[←ha] at hlo ⊢;rw[←hb];have q1:(n:Int)/4=(ja:Int):=by omega
 have q2:(n:Int)%4=(jb:Int):=by omega
 have q2t:(n:Int).tmod 4=(jb:Int):=by rw[Int.tmod_eq_emod_of_nonneg (by omega)];exact q2
 have hb4:jb<4:=by omega
 have ha4:ja<4:=by omega
 obtain⟨x0,_,_,_,_,x5,_⟩:=Ad hB;have hg:=Ao hB;obtain⟨al,lc,rfl,_,_,HL⟩:=h.2.2.1.open;obtain⟨lb,lof,rfl,DL⟩:=HL.at (k:=ja) (by omega);have hlb:=World.block_lt_of_cell? w _ DL;replace DL:w.cell? ⟨lb,lof+ja,none⟩=some (.int .i64 (D6 P.low ja)):=DL;obtain⟨f,hf⟩:∃f:Nat,D6 P.low ja=(f:Int):=⟨(D6 P.low ja).toNat,by omega⟩
 rw[hf] at DL hlo ⊢;have hf12:f<12:=by omega
 obtain⟨vs,o1,o2⟩:=h.1.1;have hvl:vs.length=12:=by rw[o2.1,hm]
 obtain⟨am,cm,rfl,hc12,_,HM⟩:=A3.open EG (by decide) o1;obtain⟨u,hu⟩:∃u,vs[f]? =some u:=⟨_,List.getElem?_eq_getElem (by omega)⟩
 have hrow:=o2.2 f u (AL P.kern.mem f) hu (by unfold AL;exact A8 (by omega));obtain⟨gm,mof,rfl,hgm,DR'⟩:=HM f u hu;have DR:=DR' 0 _ rfl;obtain⟨ar,rc,rfl,_,_,HRr⟩:=hrow.open;obtain⟨rb,rof,rfl,DW⟩:=HRr.at (k:=jb) (by rw[hr f hf12];exact hb4);have hrb:=World.block_lt_of_cell? w _ DW;rw[Nat.mul_one,Nat.add_zero,hr f hf12] at DR;rw[hvl] at x0;rw[hll] at x5;rw[show((f:Int)).toNat=f from rfl];have hfi:(f:Int)<12:=by omega
 have hai:(ja:Int)<4:=by omega
 have hbi:(jb:Int)<4:=by omega
 unfold nth at DW;generalize(AL P.kern.mem f).getD jb 0=wd at DW ⊢;clear h hm hr hll hlo hf o1 o2 hrow hu hvl hc12 ha hb HL HM HRr DR' hB;go_in;go_wp2_with fail;refine AH 19 mixed (by kernel_rfl) 24 rfl (by kernel_rfl) (fun ix vv ww=>match ix with
  |0=>vv= .pointer (some ⟨g,0,none⟩)
  |1=>vv= .pointer (some ⟨g,0,none⟩)
  |2=>vv= .pointer (some ⟨g,0,none⟩)
  |3=>vv= .pointer (some ⟨g,0,none⟩)
  |4=>vv= .slice (some ⟨gm,mof,none⟩) 12 cm
  |5=>vv= .pointer (some ⟨g,0,none⟩)
  |6=>vv= .pointer (some ⟨g,0,none⟩)
  |7=>vv= .pointer (some ⟨g,5,none⟩)
  |8=>vv= .slice (some ⟨lb,lof,none⟩) 4 lc
  |9=>vv= .int .i64 n
  |10=>vv= .int .i64 ja
  |11=>vv= .pointer (some ⟨lb,lof+ja,none⟩)
  |12=>vv= .int .i64 f
  |13=>vv= .pointer (some ⟨gm,mof+f,none⟩)
  |14=>vv= .slice (some ⟨rb,rof,none⟩) 4 rc
  |15=>vv= .int .i64 n
  |16=>vv= .int .i64 jb
  |17=>vv= .pointer (some ⟨rb,rof+jb,none⟩)
  |18=>vv= .int .i64 wd
  |_=>True) ?_ ?_ ?_
 ·intro i hi vv wz ww' hbz hz
  match i,hi with
  |0,_|1,_|2,_|3,_|4,_|5,_|6,_|7,_|8,_|9,_|10,_|11,_|12,_|13,_|14,_|15,_|16,_|17,_|18,_=>exact hz
  |_+19,hq=>exact absurd hq (by omega)
 ·intro i hi o ho a wx Hb Hd hG K HK
  match i,hi with
  |0,_=>exact eM ho HK (eb (Aj Hb 0))
  |1,_=>exact eC ho HK (et (AD Hd 0))
  |2,_=>exact eF ho HK PJ (et (AD Hd 1))
  |3,_=>exact eF ho HK Ci (et (AD Hd 2))
  |4,_=>exact eL ho HK (et (AD Hd 3)) (Fd (bc hG hg x0))
  |5,_=>exact eM ho HK (eb (Aj Hb 0))
  |6,_=>exact eC ho HK (et (AD Hd 5))
  |7,_=>exact eF ho HK UY (et (AD Hd 6))
  |8,_=>exact eL ho HK (et (AD Hd 7)) (Qh (bc hG hg x5))
  |9,_=>exact eM ho HK (eb (Aj Hb 1))
  |10,_=>obtain rfl:=So_ ho;have d9:(a.tmps[14]?.getD undef)= .int .i64 n:=AD Hd 9;clear Hd Hb;refine AI.of rfl ?_;go_simp;exact HK.out _ _ (by show Value.int .i64 (IntKind.i64.wrap _)=_;rw[IntWalk.i64_in _ (by omega)]) (Below.refl _ _)
  |11,_=>obtain rfl:=So_ ho;have d8:(a.tmps[13]?.getD undef)= .slice (some ⟨lb,lof,none⟩) 4 lc:=AD Hd 8;have d10:(a.tmps[15]?.getD undef)= .int .i64 ja:=AD Hd 10;clear Hd Hb;refine AI.of rfl ?_;go_simp;exact HK.out _ _ rfl (Below.refl _ _)
  |12,_=>exact eL ho HK (et (AD Hd 11)) (DA (bc hG hlb DL))
  |13,_=>obtain rfl:=So_ ho;have d4:(a.tmps[9]?.getD undef)= .slice (some ⟨gm,mof,none⟩) 12 cm:=AD Hd 4;have d12:(a.tmps[17]?.getD undef)= .int .i64 f:=AD Hd 12;clear Hd Hb;refine AI.of rfl ?_;go_simp;exact HK.out _ _ rfl (Below.refl _ _)
  |14,_=>exact eL ho HK (et (AD Hd 13)) (Qh (bc hG hgm DR))
  |15,_=>exact eM ho HK (eb (Aj Hb 1))
  |16,_=>obtain rfl:=So_ ho;have d15:(a.tmps[20]?.getD undef)= .int .i64 n:=AD Hd 15;clear Hd Hb;refine AI.of rfl ?_;go_simp;exact HK.out _ _ rfl (Below.refl _ _)
  |17,_=>obtain rfl:=So_ ho;have d14:(a.tmps[19]?.getD undef)= .slice (some ⟨rb,rof,none⟩) 4 rc:=AD Hd 14;have d16:(a.tmps[21]?.getD undef)= .int .i64 jb:=AD Hd 16;clear Hd Hb;refine AI.of rfl ?_;go_simp;exact HK.out _ _ rfl (Below.refl _ _)
  |18,_=>exact eL ho HK (et (AD Hd 17)) (DA (bc hG hrb DW))
  |_+19,hq=>exact absurd hq (by omega)
 ·intro vs wx hR hG
  have q18:(vs 18)= .int .i64 wd:=BI hR 18;clear hR;simp only[Ai,AX,List.range,List.range.loop,List.foldl_cons,List.foldl_nil,q18];simp;clear q18;go_wp2_with fail;go_ret;exact⟨rfl,hG⟩
theorem LP {p:Nat→Bool} {n k:Nat} (hk:k<n) (h:p k=false):(List.range n).all p=false:=List.all_eq_false.2 ⟨k,List.mem_range.2 hk,by simp[h]⟩
theorem K4 {g:Nat} {w:World} {mv iv ev cv sv lv qv:Value} {P:BO} (hB:w.heap[g]? =some (.cells #[mv,iv,ev,cv,sv,lv,qv, .int .i64 P.hand, .int .i64 P.limit] 33 (0,0))) (h:Qz w mv iv ev cv sv lv qv P) (hK:De P.kern):
 Calls prog 55 #[.pointer (some ⟨g,0,none⟩)] w (fun r w'=>r= .returned (.bool (DG P))∧Below w.heap.size w w'):=by
 have T:DG P=(decide (0≤AY P.kern 0)&&decide (P.low.length=4)&&Ff P.kern.infos (AY P.kern 0).toNat&&(List.range 4).all (Ja P)):=rfl;have L:∀i,Ja P i=(Bk (D6 P.low i) 0 11&&decide (Am P.kern.mem (AY P.kern 0).toNat i=J5 (D6 P.low i))&&Ff P.kern.infos (D6 P.low i).toNat):=fun i=>rfl
 obtain⟨x0,x1,x2,_,_,x5,_⟩:=Ad hB;obtain⟨ps,he1,he2⟩:=h.1.2.2.1;have hpl:ps.length=3:=by rw[he2.1,hK.envl]
 obtain⟨ae,ce,rfl,_,_,HE⟩:=A3.open Fv (by decide) he1;obtain⟨p0,hp0⟩:∃p,ps[0]? =some p:=⟨_,List.getElem?_eq_getElem (by omega)⟩
 obtain⟨ge,eof,rfl,_,hce⟩:=HE 0 p0 hp0;have DE:=hce 1 _ rfl;rw[show p0.2=AY P.kern 0 from(he2.2 0 p0 (AC P.kern.envs 0) hp0 (by unfold AC;exact A8 (by rw[hK.envl];omega))).2,Nat.zero_mul,Nat.add_zero] at DE;rw[hpl] at x2;obtain⟨al,lc,rfl,hl1,hl2,HL⟩:=h.2.2.1.open;unfold maxLen at hl2;have hII:=h.1.2.1;have hlI:=hK.len;have hKG:=AA hK.inf
 rcases hK.roots 0 (by omega) with hr|⟨hr0,hr1,hr2⟩
 ·have S:=AA (show DG P=false by rw[T,hr];rfl)
  rw[hr] at DE;clear T L hr hII hKG hlI HL h hB hK;go_in;go_wp2_with fail;go_ret;exact⟨AK S.out.symm,Below.refl _ _⟩
 ·obtain⟨rn,hrn⟩:∃n:Nat,AY P.kern 0=(n:Int):=⟨(AY P.kern 0).toNat,by omega⟩
  have hrl:rn<12:=by omega
  simp only[hrn,Int.toNat_natCast] at T L;rw[hrn] at DE;have nr:¬(rn:Int)<0:=by omega
  by_cases hl4:P.low.length=4
  ·have CR:=AA (fun W (hW:Below w.heap.size w W)=>KW (w:=W) (f:=rn) ((hW.cell (World.block_lt_of_cell? w _ x1)).trans x1) (A3.below hII hW) hlI hrl (hKG.out rn hrl))
   obtain⟨vs,o1,o2⟩:=h.1.1;have hvl:vs.length=12:=by rw[o2.1];exact(Af.1 hK.mem).1
   obtain⟨am,cm,rfl,_,_,HM⟩:=A3.open EG (by decide) o1;obtain⟨u,hu⟩:∃u,vs[rn]? =some u:=⟨_,List.getElem?_eq_getElem (by omega)⟩
   have hrow:=o2.2 rn u (AL P.kern.mem rn) hu (by unfold AL;exact A8 (by rw[←o2.1];omega));have hr4:(AL P.kern.mem rn).length=4:=(BG.1 ((Af.1 hK.mem).2 rn hrl)).1;obtain⟨gm,mof,rfl,_,DR'⟩:=HM rn u hu;have DR:=DR' 0 _ rfl;obtain⟨ar,rc,rfl,_,_,HRr⟩:=hrow.open;rw[Nat.mul_one,Nat.add_zero,hr4] at DR;rw[hvl] at x0;rw[hl4] at x5;have HF:=AA (And.intro x0 (And.intro x1 (And.intro x5 DR)));have HRw:=AA (And.intro HRr (And.intro hr4 (And.intro HL hl4)));have hnn:(0:Int)≤(rn:Int):=by omega
   have T2:=AA (show DG P=(Ff P.kern.infos rn&&(List.range 4).all (Ja P)) by rw[T];simp[hl4]);have HL2:=AA L;have CI:=AA (fun(f:Nat) (hf:f<12) W (hW:Below w.heap.size w W)=>KW (w:=W) (f:=f) ((hW.cell (World.block_lt_of_cell? w _ HF.out.2.1)).trans HF.out.2.1) (A3.below hII hW) hlI hf (hKG.out f hf));clear T L hr0 hr1 hr2 hrn hII hKG hlI HL h hB hK o1 o2 hrow hu hvl HM DR' HRr hr4 hl1 DR hl4 x1;cases hm:Ff P.kern.infos rn
   ·rw[hm] at CR T2
    go_in;go_wp2_with fail;refine(CR.out _ (Below.refl _ _)).mono ?_;rintro r w1 ⟨rfl,b1⟩;go_wp2_with fail;go_ret;exact⟨AK T2.out.symm,b1⟩
   ·rw[hm] at CR T2
    go_in;go_wp2_with fail;refine(CR.out _ (Below.refl _ _)).mono ?_;rintro r w1 ⟨rfl,b1⟩;replace x5:=(b1.cell (World.block_lt_of_cell? w _ x5)).trans x5;have Hb1:=AA b1;clear x0 x2 DE b1;go_wp2_with fail;clear x5;go_loopw [4,5,6,7,37] (fun _ _ _ _ ix wr=>∃k:Nat,k≤4∧ix= .int .i64 k∧(∀j,j<k→Ja P j=true)∧Below w.heap.size w wr) (fun _ _ _ _ ix _=>4 - (intOf ix).toNat)
    case atStart=>exact⟨0,by omega,rfl,fun j hj=>by omega,Hb1.out⟩
    case round=>
     obtain⟨k,hk,rfl,hall,hb⟩:=hrel
     by_cases hlt:k<4
     ·have k4:(k:Int)<4:=by omega
      obtain⟨lb,lof,rfl,DL⟩:=HRw.out.2.2.1.at (k:=k) (by rw[HRw.out.2.2.2];exact hlt);obtain⟨rb,rof,rfl,DW⟩:=HRw.out.1.at (k:=k) (by rw[HRw.out.2.1];exact hlt);replace DL:=(hb.cell (World.block_lt_of_cell? w _ DL)).trans DL;replace DW:=(hb.cell (World.block_lt_of_cell? w _ DW)).trans DW;have x0:=(hb.cell (World.block_lt_of_cell? w _ HF.out.1)).trans HF.out.1;have DR:=(hb.cell (World.block_lt_of_cell? w _ HF.out.2.2.2)).trans HF.out.2.2.2;have Hall:=AA hall;have Hb:=AA hb;have LK:=HL2.out k;replace DL:wr.cell? ⟨lb,lof+k,none⟩=some (.int .i64 (D6 P.low k)):=DL;replace DW:wr.cell? ⟨rb,rof+k,none⟩=some (.int .i64 (Am P.kern.mem rn k)):=DW;generalize D6 P.low k=v at DL LK;generalize Am P.kern.mem rn k=wd at DW LK;clear hall hb;cases hin:Bk v 0 11
      ·have S:=AA (show DG P=false by rw[T2.out,LP hlt (by rw[LK,hin];rfl)];rfl)
       clear LK;go_wp2_with fail;refine(Lj v true _ hin).mono ?_;rintro r w3 ⟨rfl,rfl⟩;go_wp2_with fail;go_ret;exact⟨AK S.out.symm,Hb.out⟩
      ·have hv:=AZ.1 hin
       obtain⟨f,rfl⟩:∃f:Nat,v=(f:Int):=⟨v.toNat,by omega⟩
       have hf:f<12:=by omega
       have CF:=AA (CI.out f hf wr Hb.out);rw[hin,Int.toNat_natCast] at LK;go_wp2_with fail;refine(Iq (f:Int) _ hv.1 hv.2).mono ?_;rintro r w3 ⟨rfl,rfl⟩
       by_cases he:wd=J5 (f:Int)
       ·have t1:(wd !=J5 (f:Int))=false:=by simp[he]
        have LK2:Ja P k=Ff P.kern.infos f:=by rw[LK];simp[he]
        generalize J5 (f:Int)=en at t1;clear LK he hin;go_wp2_with fail;refine CF.out.mono ?_;rintro r w4 ⟨rfl,b4⟩;have Hb4:=AA (Hb.out.trans (b4.mono Hb.out.size));cases hmf:Ff P.kern.infos f
        ·have S:=AA (show DG P=false by rw[T2.out,LP hlt (by rw[LK2,hmf])];rfl)
         clear LK2 b4;go_wp2_with fail;go_ret;exact⟨AK S.out.symm,Hb4.out⟩
        ·have LK3:=AA (LK2.trans hmf)
         clear LK2 b4;go_wp2_with fail;go_roundw
         case rel=>exact⟨k+1,by omega,by go_num,fun j hj=>by
          rcases Nat.lt_succ_iff_lt_or_eq.1 hj with x|x
          ·exact Hall.out j x
          ·subst x;exact LK3.out,Hb4.out⟩
         case measure=>simp[intOf];omega
       ·have t1:(wd !=J5 (f:Int))=true:=by simp[he]
        have S:=AA (show DG P=false by rw[T2.out,LP hlt (by rw[LK];simp[he])];rfl);generalize J5 (f:Int)=en at t1;clear LK he hin;go_wp2_with fail;go_ret;exact⟨AK S.out.symm,Hb.out⟩
     ·obtain rfl:k=4:=by omega
      have S:=AA (show DG P=true by rw[T2.out,Bool.true_and];exact List.all_eq_true.2 fun j hj=>hall j (List.mem_range.1 hj));clear hall;rw[show((4:Nat):Int)=4 from rfl];go_wp2_with fail;go_ret;exact⟨AK S.out.symm,hb⟩
  ·have S:=AA (show DG P=false by rw[T];simp[hl4])
   have t4:((P.low.length:Int) !=4)=true:=by simp;omega
   clear T L hr0 hr1 hr2 hrn hII hKG hlI HL h hB hK hl4;go_in;go_wp2_with fail;go_ret;exact⟨AK S.out.symm,Below.refl _ _⟩
def D8 (P:BO) (n:Nat):Bool:=
 if(AO P.pages n).w=0 then decide ((AO P.pages n).a=0)&&!(AO P.pages n).u&&decide (DC P n=0)
 else if(AO P.pages n).w=1 then Bk (AO P.pages n).a 0 11&&decide (DC P n=J5 (AO P.pages n).a)&&Ff P.kern.infos (AO P.pages n).a.toNat
 else if(AO P.pages n).w=2 then Bk (AO P.pages n).a 0 15&&!(AO P.pages n).u&&decide (DC P n=0)
 else false
def FI (ks:List Int) (x:DI):List Int:=if x.w=2 then ks.set x.a.toNat (nth ks x.a.toNat+1) else ks
def G3 (lo:Nat) (v:Value) (w:World):Prop:=∃q,v= .pointer (some ⟨q,0,none⟩)∧lo≤q∧w.heap[q]? =some (.cells #[.int .i64 0, .int .i64 0, .bool false] 127 (0,0))
theorem G3.below {lo:Nat} {v:Value} {w w':World} (h:G3 lo v w) (hb:Below w.heap.size w w'):G3 lo v w':=by obtain⟨q,h1,h2,h3⟩:=h;exact⟨q,h1,h2,AF h3 hb⟩
def Ov (lo:Nat) (w:World) (kv:Value) (ks:List Int) (b:Bool) (r:Ending) (w':World):Prop:=r= .returned (.bool b)∧AE lo w' kv ks∧w.grownBy w' kv.ownBlock∧Below lo w w'
theorem Rt {lo g:Nat} {w:World} {mv iv ev cv sv lv qv kv:Value} {P:BO} {ks:List Int} (hB:w.heap[g]? =some (.cells #[mv,iv,ev,cv,sv,lv,qv, .int .i64 P.hand, .int .i64 P.limit] 33 (0,0))) (h:Qz w mv iv ev cv sv lv qv P) (hK:De P.kern) (hll:P.low.length=4) (hlo:∀i,i<4→0≤D6 P.low i∧D6 P.low i≤11) (hpl:P.pages.length=16)
 (hk:AE lo w kv ks) (hkl:ks.length=16) (hks:∀j,j<16→0≤nth ks j∧nth ks j≤1000) (hlw:lo≤w.heap.size) {n:Nat} (hn:n<16):
 Calls prog 57 #[.pointer (some ⟨g,0,none⟩), .int .i64 n,kv] w (fun r w'=>∃ks',Ov lo w kv ks' (D8 P n) r w'∧(D8 P n=true→ks'=FI ks (AO P.pages n))):=by
 have CW:=AA (fun W (hW:Below w.heap.size w W)=>To (w:=W) (AF hB hW) (h.below hW) (Af.1 hK.mem).1 (fun f hf=>(BG.1 ((Af.1 hK.mem).2 f hf)).1) hll hn (hlo (n/4) (by omega)));have x6:=(Ad hB).2.2.2.2.2.2.1;have x1:=(Ad hB).2.1;have CM:=AA (fun(f:Nat) (hf:f<12) W (hW:Below w.heap.size w W)=>KW (w:=W) (f:=f) ((hW.cell (World.block_lt_of_cell? w _ x1)).trans x1) (A3.below h.1.2.1 hW) hK.len hf (hK.inf f hf));obtain⟨aq,qc,rfl,hq1,hq2,HQ⟩:=A3.open H6 (by decide) h.2.2.2;rw[hpl] at x6 hq1;obtain⟨qb,qof,rfl,hqb,hc⟩:=HQ n _ (show P.pages[n]? =some (AO P.pages n) from A8 (by omega));have D0:=hc 0 _ rfl;have D1:=hc 1 _ rfl;have D2:=hc 2 _ rfl;rw[Nat.add_zero] at D0;have hg:=Ao hB;have PH:D8 P n=(if(AO P.pages n).w=0 then decide ((AO P.pages n).a=0)&&!(AO P.pages n).u&&decide (DC P n=0) else if(AO P.pages n).w=1 then Bk (AO P.pages n).a 0 11&&decide (DC P n=J5 (AO P.pages n).a)&&Ff P.kern.infos (AO P.pages n).a.toNat else if(AO P.pages n).w=2 then Bk (AO P.pages n).a 0 15&&!(AO P.pages n).u&&decide (DC P n=0) else false):=rfl;generalize D8 P n=res at PH ⊢;generalize DC P n=tw at PH CW;generalize AO P.pages n=x at PH D0 D1 D2 ⊢;obtain⟨xw,xa,xu⟩:=x;dsimp only at PH D0 D1 D2;have hni:(n:Int)<16:=by omega
 have HPH:=AA PH;have HKK:=AA hk;clear PH hc HQ h hB hK hll hlo hpl x1 hq1 hq2 hk;obtain⟨ka,kn,kc,rfl⟩:=Ld HKK.out;go_in;go_wp2_with fail;refine AH 11 mixed (by kernel_rfl) 78 rfl (by kernel_rfl) (fun ix vv ww=>match ix with
  |0=>vv= .pointer (some ⟨g,0,none⟩)
  |1=>vv= .pointer (some ⟨g,0,none⟩)
  |2=>vv= .pointer (some ⟨g,6,none⟩)
  |3=>vv= .slice (some ⟨qb,qof,none⟩) 16 qc
  |4=>vv= .int .i64 n
  |5=>vv= .pointer (some ⟨qb,qof+n*3,none⟩)
  |6=>vv= .agg #[.int .i64 xw, .int .i64 xa, .bool xu]
  |7=>vv= .pointer (some ⟨g,0,none⟩)
  |8=>vv= .int .i64 n
  |9=>vv= .int .i64 tw
  |10=>G3 w.heap.size vv ww
  |_=>True) ?_ ?_ ?_
 ·intro i hi vv wz ww' hbz hz
  match i,hi with
  |0,_|1,_|2,_|3,_|4,_|5,_|6,_|7,_|8,_|9,_=>exact hz
  |10,_=>exact(G3.below hz hbz)
 ·intro i hi o ho a wx Hb Hd hG K HK
  match i,hi with
  |0,_=>exact eM ho HK (eb (Aj Hb 0))
  |1,_=>exact eC ho HK (et (AD Hd 0))
  |2,_=>exact eF ho HK UZ (et (AD Hd 1))
  |3,_=>exact eL ho HK (et (AD Hd 2)) (Vw (bc hG hg x6))
  |4,_=>exact eM ho HK (eb (Aj Hb 1))
  |5,_=>obtain rfl:=So_ ho;have d3:(a.tmps[14]?.getD undef)= .slice (some ⟨qb,qof,none⟩) 16 qc:=AD Hd 3;have d4:(a.tmps[15]?.getD undef)= .int .i64 n:=AD Hd 4;clear Hd Hb;refine AI.of rfl ?_;go_simp;exact HK.out _ _ rfl (Below.refl _ _)
  |6,_=>exact eL ho HK (et (AD Hd 5)) (Vv (bc hG hqb D0) (bc hG hqb D1) (bc hG hqb D2))
  |7,_=>exact eM ho HK (eb (Aj Hb 0))
  |8,_=>exact eM ho HK (eb (Aj Hb 1))
  |9,_=>obtain rfl:=So_ ho;have d7:(a.tmps[18]?.getD undef)= .pointer (some ⟨g,0,none⟩):=AD Hd 7;have d8:(a.tmps[19]?.getD undef)= .int .i64 n:=AD Hd 8;clear Hd Hb;refine AI.of rfl ?_;go_simp;refine(CW.out _ hG).mono ?_;rintro r w_ ⟨rfl,hb2⟩;exact HK.out _ _ rfl hb2
  |10,_=>obtain rfl:=So_ ho;clear Hd Hb;refine AI.of rfl ?_;go_simp;exact HK.out _ _ ⟨_,rfl,hG.size,heap_alloc_new _ _⟩ (AG _ _)
 ·intro vs wx hR hG
  have q6:(vs 6)= .agg #[.int .i64 xw, .int .i64 xa, .bool xu]:=BI hR 6;have q9:(vs 9)= .int .i64 tw:=BI hR 9;have q10:G3 w.heap.size (vs 10) wx:=BI hR 10;clear hR;simp only[Ai,AX,List.range,List.range.loop,List.foldl_cons,List.foldl_nil,q6,q9];simp;generalize vs 10=z10 at q10 ⊢;clear q6 q9;obtain⟨q,rfl,hqw,hqB⟩:=q10;have c0:=cell_of_row _ _ 0 _ _ _ hqB;have c1_:=cell_of_row _ _ 1 _ _ _ hqB;have c2:=cell_of_row _ _ 2 _ _ _ hqB;have fq:=AM hqB;have Pl:=Il (W:=w) (a:= .int .i64 xw) (b:= .int .i64 xa) (c:= .bool xu) hqB hG hqw;go_step;go_simp;clear c0 c1_ c2 fq hqB hG D0 D1 D2 x6;generalize((wx.setCell _ _).setCell _ _).setCell _ _=W1 at*;have y0:=cell_of_row _ _ 0 _ _ _ Pl.1;have y1:=cell_of_row _ _ 1 _ _ _ Pl.1;have y2:=cell_of_row _ _ 2 _ _ _ Pl.1;have HP2:=AA Pl.2;have HK1:=AA (show AE lo W1 (.slice ka kn kc) ks from HKK.out.below Pl.2);have NO:=AA (fun(W:World) (hW:Below W1.heap.size W1 W) (b:Bool) (hb:res=b) (hw2:xw≠2∨b=false)=>(⟨ks,⟨by rw[hb],HK1.out.below hW,⟨(HP2.out.trans (hW.mono HP2.out.size)).os,(HP2.out.trans (hW.mono HP2.out.size)).tape,(HP2.out.trans (hW.mono HP2.out.size)).output,(HP2.out.trans (hW.mono HP2.out.size)).size,fun k hk _=>(HP2.out.trans (hW.mono HP2.out.size)).block k hk⟩,(HP2.out.trans (hW.mono HP2.out.size)).mono hlw⟩,fun ht=>by
   rcases hw2 with x|x
   ·unfold FI;rw[if_neg x]
   ·rw[hb,x] at ht;cases ht⟩:∃ks',Ov lo w (.slice ka kn kc) ks' res (.returned (.bool b)) W∧(res=true→ks'=FI ks ⟨xw,xa,xu⟩)))
  clear Pl
  by_cases h0:xw=0
  ·subst h0
   by_cases ha:xa=0
   ·have t1:(xa==0)=true:=by simp[ha]
    cases xu
    ·have R:=AA (show res=(tw==0) by rw[HPH.out];simp[ha];by_cases h:tw=0<;>simp[h])
     clear ha;go_wp2_with fail;go_ret;exact NO.out _ (Below.refl _ _) _ R.out (.inl (by decide))
    ·have R:=AA (show res=false by rw[HPH.out];simp)
     clear ha;go_wp2_with fail;go_ret;exact NO.out _ (Below.refl _ _) _ R.out (.inl (by decide))
   ·have t1:(xa==0)=false:=by simp[ha]
    have R:=AA (show res=false by rw[HPH.out];simp[ha]);clear ha;go_wp2_with fail;go_ret;exact NO.out _ (Below.refl _ _) _ R.out (.inl (by decide))
  ·have n0:(xw==0)=false:=by simp[h0]
   by_cases h1:xw=1
   ·subst h1
    cases hin:Bk xa 0 11
    ·have R:=AA (show res=false by rw[HPH.out,hin];rfl)
     go_wp2_with fail;refine(Lj xa true _ hin).mono ?_;rintro r w3 ⟨rfl,rfl⟩;go_wp2_with fail;go_ret;exact NO.out _ (Below.refl _ _) _ R.out (.inl (by decide))
    ·have hv:=AZ.1 hin
     obtain⟨f,rfl⟩:∃f:Nat,xa=(f:Int):=⟨xa.toNat,by omega⟩
     have hf:f<12:=by omega
     have CF:=AA (CM.out f hf W1 HP2.out);have R0:res=(decide (tw=J5 (f:Int))&&Ff P.kern.infos f):=by rw[HPH.out,hin];simp
     go_wp2_with fail;refine(Iq (f:Int) _ hv.1 hv.2).mono ?_;rintro r w3 ⟨rfl,rfl⟩
     by_cases he:tw=J5 (f:Int)
     ·have R:=AA (show res=Ff P.kern.infos f by rw[R0];simp[he])
      have t1:(tw==J5 (f:Int))=true:=by simp[he]
      generalize J5 (f:Int)=en at t1;clear R0 he hin;go_wp2_with fail;refine CF.out.mono ?_;rintro r w4 ⟨rfl,b4⟩;have HB4:=AA b4;clear b4;go_wp2_with fail;go_ret;exact NO.out _ HB4.out _ R.out (.inl (by decide))
     ·have R:=AA (show res=false by rw[R0];simp[he])
      have t1:(tw==J5 (f:Int))=false:=by simp[he]
      generalize J5 (f:Int)=en at t1;clear R0 he hin;go_wp2_with fail;go_ret;exact NO.out _ (Below.refl _ _) _ R.out (.inl (by decide))
   ·have n1:(xw==1)=false:=by simp[h1]
    by_cases h2:xw=2
    ·subst h2
     cases hin:Bk xa 0 15
     ·have R:=AA (show res=false by rw[HPH.out,hin];rfl)
      go_wp2_with fail;refine(Cs _ _ _ _).mono ?_;rintro r w3 ⟨rfl,rfl⟩;rw[hin];go_wp2_with fail;go_ret;exact NO.out _ (Below.refl _ _) _ R.out (.inr rfl)
     ·have hv:=AZ.1 hin
      obtain⟨sl,rfl⟩:∃sl:Nat,xa=(sl:Int):=⟨xa.toNat,by omega⟩
      have hsl:sl<16:=by omega
      have hsli:(sl:Int)<16:=by omega
      cases xu
      ·by_cases ht:tw=0
       ·have t1:(tw !=0)=false:=by simp[ht]
        have R:=AA (show res=true by rw[HPH.out,hin];simp[ht]);have hb:=hks sl hsl;obtain⟨kb,kcap,ek,hkb,KC⟩:=Up HK1.out (j:=sl) (by omega);cases ek;rw[hkl] at HK1 ⊢;replace KC:W1.cell? ⟨kb,sl,none⟩=some (.int .i64 (nth ks sl)):=KC;have own1:W1.ownsRow lo 3 1 (.slice (some ⟨kb,0,none⟩) 16 kc) 16 (ks.map (Value.int .i64)):=by have:=HK1.out;unfold AE at this;rwa [hkl] at this
        have FK:=World.ownsRow.frozenAt own1 sl;obtain⟨s1,s2⟩:=World.ownsRow.stored own1 sl (.int .i64 (nth ks sl+1));have hlk:=(World.ownsRow.lt own1 kb rfl).1;have OUT:=AA (show Ov lo w (.slice (some ⟨kb,0,none⟩) 16 kc) (FI ks ⟨2,(sl:Int),false⟩) true (.returned (.bool true)) (W1.setCell ⟨kb,sl,none⟩ (.int .i64 (nth ks sl+1))) from
         ⟨rfl,by
          show AE _ _ _ (ks.set sl (nth ks sl+1))
          unfold AE;rw[List.length_set,List.map_set,hkl];exact s1,EP ⟨HP2.out.os,HP2.out.tape,HP2.out.output,HP2.out.size,fun k hk _=>HP2.out.block k hk⟩ s2,AT (HP2.out.mono hlw) s2 hlk (Nat.le_trans hlw HP2.out.size)⟩)
        generalize nth ks sl=old at KC hb OUT;clear ht hin s1 s2 own1;go_wp2_with fail;refine(Cs _ _ _ _).mono ?_;rintro r w3 ⟨rfl,rfl⟩;rw[show Bk (sl:Int) 0 15=true from AZ.2 hv];go_wp2_with fail;go_ret;exact⟨_,by rw[R.out,hkl];exact OUT.out,fun _=>rfl⟩
       ·have t1:(tw !=0)=true:=by simp[ht]
        have R:=AA (show res=false by rw[HPH.out,hin];simp[ht]);clear ht;go_wp2_with fail;refine(Cs _ _ _ _).mono ?_;rintro r w3 ⟨rfl,rfl⟩;rw[hin];go_wp2_with fail;go_ret;exact NO.out _ (Below.refl _ _) _ R.out (.inr rfl)
      ·have R:=AA (show res=false by rw[HPH.out,hin];simp)
       go_wp2_with fail;refine(Cs _ _ _ _).mono ?_;rintro r w3 ⟨rfl,rfl⟩;rw[hin];go_wp2_with fail;go_ret;exact NO.out _ (Below.refl _ _) _ R.out (.inr rfl)
    ·have n2:(xw==2)=false:=by simp[h2]
     have R:=AA (show res=false by rw[HPH.out];simp[h0,h1,h2]);clear h0 h1 h2;go_wp2_with fail;go_ret;exact NO.out _ (Below.refl _ _) _ R.out (.inr rfl)
theorem Uh (ks:List Int) (x:DI):(FI ks x).length=ks.length:=by
 unfold FI
 split
 ·simp
 ·rfl
theorem Ui {ks:List Int} {x:DI} (hl:ks.length=16) (hx:x.w=2→0≤x.a∧x.a≤15) (s:Nat):nth (FI ks x) s=nth ks s+(GG (Mi s x):Int):=by
 unfold FI Mi
 by_cases h:x.w=2
 ·rw[if_pos h]
  have:=hx h;unfold nth;rw[List.getD_eq_getElem?_getD,List.getElem?_set]
  by_cases e:x.a.toNat=s
  ·subst e
   have e2:x.a=((x.a.toNat:Nat):Int):=by omega
   have hb:GG (decide (x.w=2)&&decide (x.a=((x.a.toNat:Nat):Int)))=1:=by rw[←e2];simp[h,GG]
   rw[if_pos rfl,if_pos (by omega),hb];simp
  ·have hb:GG (decide (x.w=2)&&decide (x.a=(s:Int)))=0:=by
    have:x.a≠(s:Int):=by omega
    simp[this,GG]
   rw[if_neg e,hb];simp[List.getD_eq_getElem?_getD]
 ·rw[if_neg h]
  have hb:GG (decide (x.w=2)&&decide (x.a=(s:Int)))=0:=by simp[h,GG]
  rw[hb];simp
theorem Ug {l:List DI} (hx:∀x∈l,x.w=2→0≤x.a∧x.a≤15) {ks:List Int} (hl:ks.length=16) (s:Nat):(l.foldl FI ks).length=16∧nth (l.foldl FI ks) s=nth ks s+(FD l s:Int):=by
 induction l generalizing ks with
 |nil=>exact⟨hl,by simp[FD]⟩
 |cons x l ih=>
  have I:=ih (fun y hy=>hx y (List.mem_cons_of_mem _ hy)) (ks:=FI ks x) (by rw[Uh,hl]);refine⟨I.1,?_⟩;rw[List.foldl_cons,I.2,Ui hl (hx x (List.mem_cons_self ..))];unfold FD;rw[List.countP_cons];unfold GG
  split<;>simp_all<;>omega
theorem Sc {P:BO} (hl:P.pages.length=16) (hs:(List.range 16).all (FV P)=true) {n:Nat} (hn:n<16):Jy P n=D8 P n:=by
 unfold Jy D8
 by_cases h0:(AO P.pages n).w=0
 ·rw[if_pos h0,if_pos h0]
 rw[if_neg h0,if_neg h0]
 by_cases h1:(AO P.pages n).w=1
 ·rw[if_pos h1,if_pos h1]
 rw[if_neg h1,if_neg h1]
 by_cases h2:(AO P.pages n).w=2
 ·rw[if_pos h2,if_pos h2]
  cases hin:Bk (AO P.pages n).a 0 15
  ·simp
  ·have hv:=AZ.1 hin
   have ho:=List.all_eq_true.1 hs (AO P.pages n).a.toNat (List.mem_range.2 (by omega));unfold FV at ho;rw[decide_eq_true_eq] at ho;have hm:AO P.pages n∈P.pages:=by have:P.pages[n]? =some (AO P.pages n):=A8 (by omega);exact List.mem_of_getElem? this
   have hpos:0<FD P.pages (AO P.pages n).a.toNat:=by
    unfold FD;rw[List.countP_pos_iff];refine⟨_,hm,?_⟩;unfold Mi;have:(AO P.pages n).a=(((AO P.pages n).a.toNat:Nat):Int):=by omega
    rw[←this];simp[h2]
   cases he:(AL P.swap (AO P.pages n).a.toNat).isEmpty
   ·simp
   ·rw[he,if_pos rfl] at ho;omega
 ·rw[if_neg h2,if_neg h2]
theorem Nq (P:BO):DP P=(DU P.kern&&IE P.swap&&decide (P.pages.length=16)&&DG P&&It P.kern&&(List.range 16).all (D8 P)&&(List.range 16).all (FV P)&&(Bk P.hand 0 15&&Bk P.limit 1 6&&decide ((DT P.pages 1:Int)≤P.limit))):=by
 unfold DP
 by_cases hl:P.pages.length=16
 ·cases hs:(List.range 16).all (FV P)
  ·simp
  ·have:(List.range 16).all (Jy P)=(List.range 16).all (D8 P):=by
    rw[Bool.eq_iff_iff,List.all_eq_true,List.all_eq_true];exact⟨fun h n hn=>by rw[←Sc hl hs (List.mem_range.1 hn)];exact h n hn,fun h n hn=>by rw[Sc hl hs (List.mem_range.1 hn)];exact h n hn⟩
   rw[this];cases DU P.kern<;>cases IE P.swap<;>cases It P.kern<;>cases DG P<;>cases(List.range 16).all (D8 P)<;>simp[hl,Bool.and_assoc]
 ·simp[hl]
theorem P7 {K:AN} {k:Nat} (hk:k<3) (h:Ca (CQ K k) gA≠decide (k=0)):It K=false:=by
 unfold It
 match k,hk,h with
 |0,_,h=>simp at h;simp[h]
 |1,_,h=>simp at h;simp[h]
 |2,_,h=>simp at h;simp[h]
theorem Sy {K:AN} (h:∀j,j<3→Ca (CQ K j) gA=decide (j=0)):It K=true:=by unfold It;rw[h 0 (by omega),h 1 (by omega),h 2 (by omega)];rfl
theorem Rb {P:BO} (hl:P.pages.length=16) {k:Nat} (h:∀j,j<k→D8 P j=true):∀x∈P.pages.take k,x.w=2→0≤x.a∧x.a≤15:=by
 intro x hx hw;obtain⟨j,hj⟩:=List.getElem?_of_mem hx;have hjk:j<k:=by have:=(List.getElem?_eq_some_iff.1 hj).1;rw[List.length_take] at this;omega
 rw[List.getElem?_take,if_pos hjk] at hj;have e:AO P.pages j=x:=by unfold AO;rw[List.getD_eq_getElem?_getD,hj];rfl
 have:=h j hjk;unfold D8 at this;rw[e,if_neg (by omega),if_neg (by omega),if_pos hw] at this;simp only[Bool.and_eq_true] at this;exact AZ.1 this.1.1
theorem SQ {P:BO} (h:DG P=true):P.low.length=4∧∀i,i<4→0≤D6 P.low i∧D6 P.low i≤11:=by
 unfold DG at h;simp only[Bool.and_eq_true,decide_eq_true_eq,List.all_eq_true,List.mem_range] at h;refine⟨h.1.1.2,fun i hi=>?_⟩;have:=h.2 i hi;unfold Ja at this;simp only[Bool.and_eq_true] at this;exact AZ.1 this.1.1
theorem JR (mv iv ev cv sv lv qv:Value) (P:BO) (w:World) (h:Qz w mv iv ev cv sv lv qv P) (hs:Q6 P.kern):
 Calls prog 20 #[Bq mv iv ev cv sv lv qv P.hand P.limit] w (fun r w'=>r= .returned (.bool (DP P))∧Below w.heap.size w w'):=by
 have Pt:=Nq P;unfold Bq;have N0:=heap_alloc_new w (.cells #[mv,iv,ev,cv,sv,lv,qv, .int .i64 P.hand, .int .i64 P.limit] 33);have b0:=AG w (.cells #[mv,iv,ev,cv,sv,lv,qv, .int .i64 P.hand, .int .i64 P.limit] 33);have h0:=h.below b0;go_in;go_wp2_with fail;generalize w.alloc _=W0 at*;have C1:=AA (fun W (hW:Below W0.heap.size W0 W)=>LL mv iv ev cv P.kern W (h0.1.below hW) hs);have C2:=AA (fun W (hW:Below W0.heap.size W0 W)=>Me sv P.swap W (h0.2.1.below hW));have Hb0:=AA b0;obtain⟨aq,qc,rfl,hq1,hq2⟩:=h0.2.2.2.shape;unfold maxLen at hq2;have hlt:w.heap.size<W0.heap.size:=Ao N0;cases hk:DU P.kern
 ·have S:=AA (show DP P=false by rw[Pt,hk];rfl)
  rw[hk] at C1;clear Pt;refine(C1.out W0 (Below.refl _ _)).mono ?_;rintro r w1 ⟨rfl,b1⟩;have HB:=AA (Hb0.out.trans (b1.mono Hb0.out.size));clear N0 b0 h h0 b1;go_wp2_with fail;go_ret;exact⟨AK S.out.symm,HB.out⟩
 rw[hk] at C1;refine(C1.out W0 (Below.refl _ _)).mono ?_;rintro r w1 ⟨rfl,b1⟩;have x4:=(Ad (AF N0 b1)).2.2.2.2.1;have B1:=AA b1;cases hsw:IE P.swap
 ·have S:=AA (show DP P=false by rw[Pt,hk,hsw];rfl)
  have C:=C2.out w1 b1;rw[hsw] at C;clear Pt N0 b0 h h0 b1;go_wp2_with fail;refine C.mono ?_;rintro r w2 ⟨rfl,b2⟩;have HB:=AA (Hb0.out.trans ((B1.out.trans (b2.mono B1.out.size)).mono Hb0.out.size));clear b2;go_wp2_with fail;go_ret;exact⟨AK S.out.symm,HB.out⟩
 have C:=C2.out w1 b1;rw[hsw] at C;clear b1;go_wp2_with fail;refine C.mono ?_;rintro r w2 ⟨rfl,b2⟩;have B2:=AA (B1.out.trans (b2.mono B1.out.size));have x6:=(Ad (AF N0 B2.out)).2.2.2.2.2.2.1;clear b2 C x4
 by_cases hl:P.pages.length=16
 ·rw[hl] at x6
  cases ht:DG P
  ·have S:=AA (show DP P=false by rw[Pt,hk,hsw,ht];simp)
   have C:=K4 (AF N0 B2.out) (h0.below B2.out) (GP.1 hk);rw[ht] at C;clear Pt N0 b0 h h0;go_wp2_with fail;refine C.mono ?_;rintro r w3 ⟨rfl,b3⟩;have HB:=AA (Hb0.out.trans ((B2.out.trans (b3.mono B2.out.size)).mono Hb0.out.size));clear b3;go_wp2_with fail;go_ret;exact⟨AK S.out.symm,HB.out⟩
  ·have C:=K4 (AF N0 B2.out) (h0.below B2.out) (GP.1 hk)
   rw[ht] at C;go_wp2_with fail;refine C.mono ?_;rintro r w3 ⟨rfl,b3⟩;have B3:=AA (B2.out.trans (b3.mono B2.out.size));have HW3:=AA (Hb0.out.trans (B3.out.mono Hb0.out.size));have hK:=GP.1 hk;have h3:=h0.below B3.out;have N3:=AF N0 B3.out;obtain⟨ps,he1,he2⟩:=h3.1.2.2.1;have hpl:ps.length=3:=by rw[he2.1,hK.envl]
   obtain⟨ae,ce,rfl,hce1,_,HE⟩:=A3.open Fv (by decide) he1;have x2:=(Ad N3).2.2.1;rw[hpl] at x2;have Pt2:=AA (show DP P=(It P.kern&&(List.range 16).all (D8 P)&&(List.range 16).all (FV P)&&(Bk P.hand 0 15&&Bk P.limit 1 6&&decide ((DT P.pages 1:Int)≤P.limit))) by rw[Pt,hk,hsw,ht];simp[hl]);have HK:=AA hK;have HL:=AA (And.intro hl (And.intro hsw ht));have H3:=AA (And.intro N3 h3);have HEE:=AA (And.intro HE he2);have HEL:=AA hpl;clear Pt hk hK hsw ht hl N0 b0 h h0 C1 C2 C b3 x6 HE he1 he2 hpl hs N3 h3 B1 B2;go_wp2_with fail;clear x2;go_loopw [3,4,33] (fun _ _ ix wr=>∃k:Nat,k≤3∧ix= .int .i64 k∧(∀j,j<k→Ca (CQ P.kern j) gA=decide (j=0))∧Below w3.heap.size w3 wr) (fun _ _ ix _=>3 - (intOf ix).toNat)
   case atStart=>exact⟨0,by omega,rfl,fun j hj=>by omega,Below.refl _ _⟩
   case round=>
    obtain⟨k,hkk,rfl,hall,hb⟩:=hrel
    by_cases hlt3:k<3
    ·have k3:(k:Int)<3:=by omega
     obtain⟨p,hp⟩:∃p,ps[k]? =some p:=⟨_,List.getElem?_eq_getElem (by have:=HEL.out;omega)⟩
     obtain⟨ge,eof,rfl,hgl,hce⟩:=HEE.out.1 k p hp;have hrd:=HEE.out.2.2 k p (AC P.kern.envs k) hp (by unfold AC;exact A8 (by rw[HK.out.envl];omega));have D0:=(hb.cell (World.block_lt_of_cell? w3 _ (hce 0 _ rfl))).trans (hce 0 _ rfl);have D1:=(hb.cell (World.block_lt_of_cell? w3 _ (hce 1 _ rfl))).trans (hce 1 _ rfl);rw[Nat.add_zero] at D0;obtain⟨pv,pr⟩:=p;dsimp only at D0 D1 hrd;obtain⟨pa,pn,rfl,_,_⟩:=A3.shape hrd.1;have bn:=hb.trans ((AG wr (.cells #[.slice pa (AC P.kern.envs k).rights.length pn, .int .i64 pr] 85)).mono hb.size);have CM:=MN _ (AC P.kern.envs k).rights gA _ (A3.below hrd.1 bn);have Hall:=AA hall;have Hbn:=AA bn;have HM:=AA (show Ca (CQ P.kern k) gA=Ca (AC P.kern.envs k).rights gA from rfl);generalize Ca (AC P.kern.envs k).rights gA=b at CM HM;generalize(AC P.kern.envs k).rights.length=rl at*;clear hce hrd hall bn hp;go_wp2_with fail;refine CM.mono ?_;rintro r w5 ⟨rfl,b5⟩;have Hb5:=AA (Hbn.out.trans (b5.mono Hbn.out.size));clear b5 CM
     by_cases k0:k=0
     ·have t0:((k:Int)==0)=true:=by simp[k0]
      cases b
      ·have S:=AA (show DP P=false by rw[Pt2.out,P7 hlt3 (by rw[HM.out];simp[k0])];rfl)
       clear k0;go_wp2_with fail;go_ret;exact⟨AK S.out.symm,HW3.out.trans (Hb5.out.mono HW3.out.size)⟩
      ·have K0:=AA k0
       clear k0;go_wp2_with fail;go_roundw
       case rel=>exact⟨k+1,by omega,by go_num,fun j hj=>by
        rcases Nat.lt_succ_iff_lt_or_eq.1 hj with x|x
        ·exact Hall.out j x
        ·subst x;rw[HM.out];simp[K0.out],Hb5.out⟩
       case measure=>simp[intOf];omega
     ·have t0:((k:Int)==0)=false:=by simp[k0]
      cases b
      ·have K0:=AA k0
       clear k0;go_wp2_with fail;go_roundw
       case rel=>exact⟨k+1,by omega,by go_num,fun j hj=>by
        rcases Nat.lt_succ_iff_lt_or_eq.1 hj with x|x
        ·exact Hall.out j x
        ·subst x;rw[HM.out];simp[K0.out],Hb5.out⟩
       case measure=>simp[intOf];omega
      ·have S:=AA (show DP P=false by rw[Pt2.out,P7 hlt3 (by rw[HM.out];simp[k0])];rfl)
       clear k0;go_wp2_with fail;go_ret;exact⟨AK S.out.symm,HW3.out.trans (Hb5.out.mono HW3.out.size)⟩
    ·obtain rfl:k=3:=by omega
     have Pt3:=AA (show DP P=((List.range 16).all (D8 P)&&(List.range 16).all (FV P)&&(Bk P.hand 0 15&&Bk P.limit 1 6&&decide ((DT P.pages 1:Int)≤P.limit))) by rw[Pt2.out,Sy hall];simp);have Hb3:=AA hb;have TL:=AA (SQ HL.out.2.2);clear hall Pt2;rw[show((3:Nat):Int)=3 from rfl];have x6:=(Ad (AF H3.out.1 hb)).2.2.2.2.2.2.1;rw[HL.out.1] at x6;go_wp2_with (refine Pw (n:=16) rfl rfl 3 (.int .i64 0) 8 underlying30 Tryz.infoInt rfl rfl (by omega) (by unfold maxLen;omega) ?_;intro w6 hown hbel hsz;replace x6:=(hbel.cell (World.block_lt_of_cell? wr _ x6)).trans x6);have St:AE w3.heap.size w6 (.slice (some ⟨wr.heap.size,0,none⟩) 16 16) (List.replicate 16 0):=BQ (by simpa[AE] using hown) Hb3.out.size;have Hb6:=AA (Hb3.out.trans (hbel.mono Hb3.out.size));generalize wr.heap.size=gk at*;clear hown hbel hsz hb;go_wp2_with fail;clear x6;go_loopw [6,49] (fun _ ix wx=>∃k:Nat,k≤16∧ix= .int .i64 k∧(∀j,j<k→D8 P j=true)∧AE w3.heap.size wx (.slice (some ⟨gk,0,none⟩) 16 16) ((P.pages.take k).foldl FI (List.replicate 16 0))∧Below w3.heap.size w3 wx) (fun _ ix _=>16 - (intOf ix).toNat)
     case atStart=>exact⟨0,by omega,rfl,fun j hj=>by omega,St,Hb6.out⟩
     case round=>
      clear St;obtain⟨k,hkk,rfl,hall,St,hb⟩:=hrel;have KA:=AA (fun s=>Ug (l:=P.pages.take k) (Rb HL.out.1 hall) (ks:=List.replicate 16 0) (by simp) s)
      by_cases hlt16:k<16
      ·have k16:(k:Int)<16:=by omega
       have C:=Rt (AF H3.out.1 hb) (H3.out.2.below hb) HK.out TL.out.1 TL.out.2 HL.out.1 St (KA.out 0).1 (fun j hj=>by
        rw[(KA.out j).2];have h0:nth (List.replicate 16 (0:Int)) j=0:=by unfold nth;rw[List.getD_eq_getElem?_getD,List.getElem?_replicate];split<;>rfl
        have h1:FD (P.pages.take k) j≤(P.pages.take k).length:=by unfold FD;exact List.countP_le_length
        have h2:(P.pages.take k).length≤16:=by rw[List.length_take];omega
        omega) hb.size hlt16
       have Nx:=AA (show(P.pages.take (k+1)).foldl FI (List.replicate 16 0)=FI ((P.pages.take k).foldl FI (List.replicate 16 0)) (AO P.pages k) by rw[Cv (show P.pages[k]? =some (AO P.pages k) from A8 (by have:=HL.out.1;omega)),List.foldl_append];rfl)
       have Hall:=AA hall;have Hb:=AA hb;generalize(P.pages.take k).foldl FI (List.replicate 16 0)=ks at*;clear hall hb St KA;go_wp2_with fail;refine C.mono ?_;rintro r w7 ⟨ks',⟨rfl,o7,g7,b7⟩,e7⟩;have Hb7:=AA (Hb.out.trans b7);have O7:=AA o7;cases hph:D8 P k
       ·have S:=AA (show DP P=false by rw[Pt3.out,LP hlt16 hph];rfl)
        clear o7 g7 b7 e7 C;go_wp2_with fail;go_ret;exact⟨AK S.out.symm,HW3.out.trans (Hb7.out.mono HW3.out.size)⟩
       ·have E7:=AA (e7 hph)
        have PH:=AA hph;clear o7 g7 b7 e7 C;go_wp2_with fail;go_roundw
        case rel=>exact⟨k+1,by omega,by go_num,fun j hj=>by
         rcases Nat.lt_succ_iff_lt_or_eq.1 hj with x|x
         ·exact Hall.out j x
         ·subst x;exact PH.out,by rw[Nx.out,←E7.out];exact O7.out,Hb7.out⟩
        case measure=>simp[intOf];omega
      ·obtain rfl:k=16:=by omega
       have Pt4:=AA (show DP P=((List.range 16).all (FV P)&&(Bk P.hand 0 15&&Bk P.limit 1 6&&decide ((DT P.pages 1:Int)≤P.limit))) by rw[Pt3.out,List.all_eq_true.2 (fun j hj=>hall j (List.mem_range.1 hj))];simp);rw[List.take_of_length_le (by have:=HL.out.1;omega)] at St KA;generalize P.pages.foldl FI (List.replicate 16 0)=ks at St KA;have hkl:=(KA.out 0).1;have own1:wr.ownsRow w3.heap.size 3 1 (.slice (some ⟨gk,0,none⟩) 16 16) 16 (ks.map (Value.int .i64)):=by have:=St;unfold AE at this;rwa [hkl] at this
       have KC:=AA (fun(j:Nat) (hj:j<16)=>show wr.cell? ⟨gk,j,none⟩=some (.int .i64 (FD P.pages j:Int)) from by
        rw[World.ownsRow.cellAt own1 j (by omega),List.getElem?_map,List.getElem?_eq_getElem (by omega)];have e:=(KA.out j).2;have h0:nth (List.replicate 16 (0:Int)) j=0:=by unfold nth;rw[List.getD_eq_getElem?_getD,List.getElem?_replicate];split<;>rfl
        rw[h0,Int.zero_add] at e;unfold nth at e;rw[List.getD_eq_getElem?_getD,List.getElem?_eq_getElem (by omega)] at e;simp at e;rw[←e];rfl)
       obtain⟨vs,s1,s2⟩:=(H3.out.2.below hb).2.1;have hsl:P.swap.length=16:=(NS.1 HL.out.2.1).1;have hvl:vs.length=16:=by rw[s2.1,hsl]
       obtain⟨as_,cs_,rfl,_,_,HS⟩:=A3.open EG (by decide) s1;have x4:=(Ad (AF H3.out.1 hb)).2.2.2.2.1;rw[hvl] at x4;have Hx4:=AA x4;have Hb:=AA hb;have HSS:=AA (And.intro HS (And.intro s2 (And.intro hsl hvl)));clear hall hb St KA own1 hkl HS s1 s2 hsl hvl x4;generalize hW4:wr=w4 at*;go_wp2_with fail;go_loopw [7,8,59] (fun _ _ ix wx=>∃k:Nat,k≤16∧ix= .int .i64 k∧(∀j,j<k→FV P j=true)∧w4=wx) (fun _ _ ix _=>16 - (intOf ix).toNat)
       case atStart=>exact⟨0,by omega,rfl,fun j hj=>by omega,rfl⟩
       case round=>
        obtain⟨k,hkk,rfl,hall,rfl⟩:=hrel
        by_cases hlt17:k<16
        ·have k17:(k:Int)<16:=by omega
         have KCk:=KC.out k hlt17;obtain⟨u,hu⟩:∃u,vs[k]? =some u:=⟨_,List.getElem?_eq_getElem (by have:=HSS.out.2.2.2;omega)⟩
         obtain⟨sb,sof,rfl,hsb,hcs⟩:=HSS.out.1 k u hu;have DS:=hcs 0 _ rfl;have hru:=HSS.out.2.1.2 k u (AL P.swap k) hu (by unfold AL;exact A8 (by have:=HSS.out.2.2.1;omega));obtain⟨ua,uc,rfl,_,_,_⟩:=hru.open;rw[Nat.mul_one,Nat.add_zero] at DS;have x4:=Hx4.out;have Hall:=AA hall;have SO:FV P k=decide (FD P.pages k=if(AL P.swap k).isEmpty then 0 else 1):=rfl;generalize FD P.pages k=n at KCk SO;generalize AL P.swap k=row at DS SO hru;clear hcs hall hu hru
         by_cases hr:row=[]
         ·subst hr
          simp only[List.length_nil] at DS
          by_cases hn0:n=0
          ·have PS:=AA (show FV P k=true by rw[SO,hn0];rfl)
           subst hn0;clear SO;go_wp2_with fail;go_roundw
           case rel=>exact⟨k+1,by omega,by go_num,fun j hj=>by
            rcases Nat.lt_succ_iff_lt_or_eq.1 hj with x|x
            ·exact Hall.out j x
            ·subst x;exact PS.out,trivial⟩
           case measure=>simp[intOf];omega
          ·have S:=AA (show DP P=false by rw[Pt4.out,LP hlt17 (by rw[SO];simp[hn0])];rfl)
           have t1:((n:Int) !=0)=true:=by simp;omega
           clear SO hn0;go_wp2_with fail;go_ret;exact⟨AK S.out.symm,HW3.out.trans (Hb.out.mono HW3.out.size)⟩
         ·have hpos:0<row.length:=List.length_pos_iff.2 hr
          have he:row.isEmpty=false:=by cases row with|nil=>exact absurd rfl hr|cons a l=>rfl
          generalize row.length=rl at DS hpos;have p1:(0:Int)<(rl:Int):=by omega
          have t2:((rl:Int)==0)=false:=by simp;omega
          rw[he] at SO;clear hr he
          by_cases hn1:n=1
          ·have PS:=AA (show FV P k=true by rw[SO,hn1];rfl)
           subst hn1;clear SO;go_wp2_with fail;go_roundw
           case rel=>exact⟨k+1,by omega,by go_num,fun j hj=>by
            rcases Nat.lt_succ_iff_lt_or_eq.1 hj with x|x
            ·exact Hall.out j x
            ·subst x;exact PS.out,trivial⟩
           case measure=>simp[intOf];omega
          ·have S:=AA (show DP P=false by rw[Pt4.out,LP hlt17 (by rw[SO];simp[hn1])];rfl)
           have t1:((n:Int) !=1)=true:=by simp;omega
           clear SO hn1;go_wp2_with fail;go_ret;exact⟨AK S.out.symm,HW3.out.trans (Hb.out.mono HW3.out.size)⟩
        ·obtain rfl:k=16:=by omega
         have Pt5:=AA (show DP P=(Bk P.hand 0 15&&Bk P.limit 1 6&&decide ((DT P.pages 1:Int)≤P.limit)) by rw[Pt4.out,List.all_eq_true.2 (fun j hj=>hall j (List.mem_range.1 hj))];simp);have N4:=AF H3.out.1 Hb.out;have hq4:=H3.out.2.below Hb.out;have x7:=(Ad N4).2.2.2.2.2.2.2.1;have x8:=(Ad N4).2.2.2.2.2.2.2.2;have hbk:=Ao N4;have CN:=AA (fun W (hW:Below w4.heap.size w4 W)=>Rw (Ad (AF N4 hW)).2.2.2.2.2.2.1 (A3.below hq4.2.2.2 hW) HL.out.1 1);have CH:=AA (fun W=>Cs P.hand 0 15 W);have CL:=AA (fun W=>Cs P.limit 1 6 W);clear hall N4 hq4;cases hih:Bk P.hand 0 15
         ·have S:=AA (show DP P=false by rw[Pt5.out,hih];rfl)
          rw[hih] at CH;go_wp2_with fail;refine AH 14 mixed (by kernel_rfl) 103 rfl (by kernel_rfl) (fun ix vv ww=>match ix with
           |0=>vv= .pointer (some ⟨w.heap.size,7,none⟩)
           |1=>vv= .int .i64 (P.hand)
           |2=>vv= .bool false
           |3=>vv= .bool false
           |4|5|6=>vv=undef
           |7=>vv= .bool false
           |8=>vv= .bool false
           |9|10|11|12=>vv=undef
           |13=>vv= .bool false
           |_=>True) ?_ ?_ ?_
          ·intro i hi vv wz ww' hbz hz
           match i,hi with
           |0,_|1,_|2,_|3,_|4,_|5,_|6,_|7,_|8,_|9,_|10,_|11,_|12,_|13,_=>exact hz
          ·intro i hi o ho a wx Hb Hd hG K HK
           match i,hi with
           |0,_=>exact eF ho HK RU (eb (Aj Hb 1))
           |1,_=>exact eL ho HK (et (AD Hd 0)) (DA (bc hG hbk x7))
           |2,_=>obtain rfl:=So_ ho;have d1:(a.tmps[90]?.getD undef)= .int .i64 (P.hand):=AD Hd 1;clear Hd Hb;refine AI.of rfl ?_;go_simp;refine(CH.out _).mono ?_;rintro r w_ ⟨rfl,rfl⟩;exact HK.out _ _ rfl (Below.refl _ _)
           |3,_=>exact eM ho HK (et (AD Hd 2))
           |4,_|5,_|6,_=>exact eB ho HK (AD Hd 3)
           |7,_=>exact eE ho HK (et (AD Hd 3)) rfl
           |8,_=>exact eM ho HK (et (AD Hd 7))
           |9,_|10,_|11,_|12,_=>exact eB ho HK (AD Hd 8)
           |13,_=>exact eE ho HK (et (AD Hd 8)) rfl
          ·intro vs wx hR hG
           have q13:(vs 13)= .bool false:=BI hR 13;clear hR;simp only[Ai,AX,List.range,List.range.loop,List.foldl_cons,List.foldl_nil,q13];simp;clear q13;go_wp2_with fail;go_ret;exact⟨AK S.out.symm,HW3.out.trans ((Hb.out.trans (hG.mono Hb.out.size)).mono HW3.out.size)⟩
         ·rw[hih] at CH Pt5
          cases hil:Bk P.limit 1 6
          ·have S:=AA (show DP P=false by rw[Pt5.out,hil];rfl)
           rw[hil] at CL;go_wp2_with fail;refine AH 14 mixed (by kernel_rfl) 103 rfl (by kernel_rfl) (fun ix vv ww=>match ix with
            |0=>vv= .pointer (some ⟨w.heap.size,7,none⟩)
            |1=>vv= .int .i64 (P.hand)
            |2=>vv= .bool true
            |3=>vv= .bool true
            |4=>vv= .pointer (some ⟨w.heap.size,8,none⟩)
            |5=>vv= .int .i64 (P.limit)
            |6=>vv= .bool false
            |7=>vv= .bool false
            |8=>vv= .bool false
            |9|10|11|12=>vv=undef
            |13=>vv= .bool false
            |_=>True) ?_ ?_ ?_
           ·intro i hi vv wz ww' hbz hz
            match i,hi with
            |0,_|1,_|2,_|3,_|4,_|5,_|6,_|7,_|8,_|9,_|10,_|11,_|12,_|13,_=>exact hz
           ·intro i hi o ho a wx Hb Hd hG K HK
            match i,hi with
            |0,_=>exact eF ho HK RU (eb (Aj Hb 1))
            |1,_=>exact eL ho HK (et (AD Hd 0)) (DA (bc hG hbk x7))
            |2,_=>obtain rfl:=So_ ho;have d1:(a.tmps[90]?.getD undef)= .int .i64 (P.hand):=AD Hd 1;clear Hd Hb;refine AI.of rfl ?_;go_simp;refine(CH.out _).mono ?_;rintro r w_ ⟨rfl,rfl⟩;exact HK.out _ _ rfl (Below.refl _ _)
            |3,_=>exact eM ho HK (et (AD Hd 2))
            |4,_=>exact eF ho HK RV (eb (Aj Hb 1)) (hw:=gy rfl rfl (AD Hd 3))
            |5,_=>exact eL ho HK (et (AD Hd 4)) (DA (bc hG hbk x8)) (hw:=gy rfl rfl (AD Hd 3))
            |6,_=>obtain rfl:=So_ ho;have d5:(a.tmps[94]?.getD undef)= .int .i64 (P.limit):=AD Hd 5;have d3:(a.tmps[92]?.getD undef)= .bool true:=AD Hd 3;clear Hd Hb;refine AI.yes rfl rfl d3 ?_;go_simp;refine(CL.out _).mono ?_;rintro r w_ ⟨rfl,rfl⟩;exact HK.out _ _ rfl (Below.refl _ _)
            |7,_=>exact eT ho HK (et (AD Hd 3)) (et (AD Hd 6))
            |8,_=>exact eM ho HK (et (AD Hd 7))
            |9,_|10,_|11,_|12,_=>exact eB ho HK (AD Hd 8)
            |13,_=>exact eE ho HK (et (AD Hd 8)) rfl
           ·intro vs wx hR hG
            have q13:(vs 13)= .bool false:=BI hR 13;clear hR;simp only[Ai,AX,List.range,List.range.loop,List.foldl_cons,List.foldl_nil,q13];simp;clear q13;go_wp2_with fail;go_ret;exact⟨AK S.out.symm,HW3.out.trans ((Hb.out.trans (hG.mono Hb.out.size)).mono HW3.out.size)⟩
          ·rw[hil] at CL Pt5
           have S:=AA (show DP P=decide ((DT P.pages 1:Int)≤P.limit) by rw[Pt5.out];simp);generalize DT P.pages 1=cn at CN S;go_wp2_with fail;refine AH 14 mixed (by kernel_rfl) 103 rfl (by kernel_rfl) (fun ix vv ww=>match ix with
            |0=>vv= .pointer (some ⟨w.heap.size,7,none⟩)
            |1=>vv= .int .i64 (P.hand)
            |2=>vv= .bool true
            |3=>vv= .bool true
            |4=>vv= .pointer (some ⟨w.heap.size,8,none⟩)
            |5=>vv= .int .i64 (P.limit)
            |6=>vv= .bool true
            |7=>vv= .bool true
            |8=>vv= .bool true
            |9=>vv= .int .i64 cn
            |10=>vv= .pointer (some ⟨w.heap.size,8,none⟩)
            |11=>vv= .int .i64 (P.limit)
            |12=>vv= .bool (decide ((cn:Int)≤P.limit))
            |13=>vv= .bool (decide ((cn:Int)≤P.limit))
            |_=>True) ?_ ?_ ?_
           ·intro i hi vv wz ww' hbz hz
            match i,hi with
            |0,_|1,_|2,_|3,_|4,_|5,_|6,_|7,_|8,_|9,_|10,_|11,_|12,_|13,_=>exact hz
           ·intro i hi o ho a wx Hb Hd hG K HK
            match i,hi with
            |0,_=>exact eF ho HK RU (eb (Aj Hb 1))
            |1,_=>exact eL ho HK (et (AD Hd 0)) (DA (bc hG hbk x7))
            |2,_=>obtain rfl:=So_ ho;have d1:(a.tmps[90]?.getD undef)= .int .i64 (P.hand):=AD Hd 1;clear Hd Hb;refine AI.of rfl ?_;go_simp;refine(CH.out _).mono ?_;rintro r w_ ⟨rfl,rfl⟩;exact HK.out _ _ rfl (Below.refl _ _)
            |3,_=>exact eM ho HK (et (AD Hd 2))
            |4,_=>exact eF ho HK RV (eb (Aj Hb 1)) (hw:=gy rfl rfl (AD Hd 3))
            |5,_=>exact eL ho HK (et (AD Hd 4)) (DA (bc hG hbk x8)) (hw:=gy rfl rfl (AD Hd 3))
            |6,_=>obtain rfl:=So_ ho;have d5:(a.tmps[94]?.getD undef)= .int .i64 (P.limit):=AD Hd 5;have d3:(a.tmps[92]?.getD undef)= .bool true:=AD Hd 3;clear Hd Hb;refine AI.yes rfl rfl d3 ?_;go_simp;refine(CL.out _).mono ?_;rintro r w_ ⟨rfl,rfl⟩;exact HK.out _ _ rfl (Below.refl _ _)
            |7,_=>exact eT ho HK (et (AD Hd 3)) (et (AD Hd 6))
            |8,_=>exact eM ho HK (et (AD Hd 7))
            |9,_=>obtain rfl:=So_ ho;have e1:a.tmps[1]?.getD undef= .pointer (some ⟨w.heap.size,0,none⟩):=eg (Aj Hb 1);have d8:(a.tmps[97]?.getD undef)= .bool true:=AD Hd 8;clear Hd Hb;refine AI.yes rfl rfl d8 ?_;go_simp;refine(CN.out _ hG).mono ?_;rintro r w_ ⟨rfl,hb2⟩;exact HK.out _ _ rfl hb2
            |10,_=>exact eF ho HK RV (eb (Aj Hb 1)) (hw:=gy rfl rfl (AD Hd 8))
            |11,_=>exact eL ho HK (et (AD Hd 10)) (DA (bc hG hbk x8)) (hw:=gy rfl rfl (AD Hd 8))
            |12,_=>obtain rfl:=So_ ho;have d9:(a.tmps[98]?.getD undef)= .int .i64 cn:=AD Hd 9;have d11:(a.tmps[100]?.getD undef)= .int .i64 (P.limit):=AD Hd 11;have d8:(a.tmps[97]?.getD undef)= .bool true:=AD Hd 8;clear Hd Hb;refine AI.yes rfl rfl d8 ?_;go_simp;exact HK.out _ _ rfl (Below.refl _ _)
            |13,_=>exact eT ho HK (et (AD Hd 8)) (et (AD Hd 12))
           ·intro vs wx hR hG
            have q13:(vs 13)= .bool (decide ((cn:Int)≤P.limit)):=BI hR 13;clear hR;simp only[Ai,AX,List.range,List.range.loop,List.foldl_cons,List.foldl_nil,q13];simp;clear q13;go_wp2_with fail;go_ret;exact⟨AK S.out.symm,HW3.out.trans ((Hb.out.trans (hG.mono Hb.out.size)).mono HW3.out.size)⟩
 ·have S:=AA (show DP P=false by rw[Pt];simp[hl])
  have t1:((P.pages.length:Int) !=16)=true:=by simp;omega
  have HB:=AA (Hb0.out.trans (B2.out.mono Hb0.out.size));clear Pt N0 b0 h h0 hl;go_wp2_with fail;go_ret;exact⟨AK S.out.symm,HB.out⟩
theorem LI (v:Value) (bs:List Int) (w:World) (h:FR w v bs):Calls prog 15 #[v] w fun e w'=>(∃n:Int,e= .returned (.int .i64 n))∧Below w.heap.size w w':=by go_in;go_wp2_with fail;refine(Rm v bs w h).mono ?_;rintro e w1 ⟨R,rfl,hR,hb⟩;go_wp2_with fail;refine(Uu w R 0 10 w1 hR hb (by omega) (by omega)).mono ?_;rintro e w2 ⟨x,rfl,hx,_,hb2,_⟩;go_wp2_with fail;go_ret;exact⟨⟨_,rfl⟩,hb2⟩
theorem Ni (mv iv ev cv sv lv qv:Value) (P:BO) (w:World) (h:Qz w mv iv ev cv sv lv qv P) (hP:KO P) {ad:Nat} (ha:ad<64):
 Calls prog 52 #[Bq mv iv ev cv sv lv qv P.hand P.limit, .int .i64 ad] w fun r w'=>r= .returned (.int .i64 (F1 P ad))∧Below w.heap.size w w':=by
 unfold Bq;have N0:=heap_alloc_new w (.cells #[mv,iv,ev,cv,sv,lv,qv, .int .i64 P.hand, .int .i64 P.limit] 33);have b0:=AG w (.cells #[mv,iv,ev,cv,sv,lv,qv, .int .i64 P.hand, .int .i64 P.limit] 33);have h0:=h.below b0;obtain⟨j,hj⟩:∃j,j=ad/4:=⟨_,rfl⟩
 obtain⟨t,ht⟩:∃t,t=ad%4:=⟨_,rfl⟩
 have q1:(ad:Int)/4=(j:Int):=by omega
 have q2:(ad:Int)%4=(t:Int):=by omega
 have hj16:j<16:=by omega
 have ht4:t<4:=by omega
 have hA:Bk (ad:Int) 0 63=true:=AZ.2 (by omega);have hW:F1 P ad=(if(AO P.pages j).w=1 then Am P.kern.mem (AO P.pages j).a.toNat t else if(AO P.pages j).w=2 then Am P.swap (AO P.pages j).a.toNat t else 0):=by unfold F1;rw[←hj,←ht]
 have C:=JR mv iv ev cv sv lv qv P _ h0 (OL hP.k);rw[Je.2 hP] at C;unfold Bq at C;have C:=AA C;have HW:=AA hW;clear hW hj ht;obtain⟨x0,x1,x2,x3,x4,x5,x6,x7,x8⟩:=Ad N0;go_in;go_wp2_with fail;generalize w.alloc _=W0 at*;refine C.out.mono ?_;rintro r w1 ⟨rfl,b1⟩;go_wp2_with fail;refine(IW _ _).mono ?_;rintro r w2 ⟨rfl,rfl⟩;rw[hA];have h1:=h0.below b1;have HB:=AA (b0.trans (b1.mono b0.size));have N1:=AF N0 b1;obtain⟨aq,cq,rfl,_,_,HQ⟩:=A3.open H6 (by decide) h1.2.2.2;obtain⟨bq,oq,rfl,hbq,D0,D1,D2⟩:=HQ.pageCells (k:=j) (by rw[hP.pagel];exact hj16);have hjl:(j:Int)<P.pages.length:=by rw[hP.pagel];omega
 have hpg:=hP.pages j hj16;obtain⟨am,cm,rfl,_,_,HM⟩:=h1.1.1.open;obtain⟨as_,cs_,rfl,_,_,HS⟩:=h1.2.1.open;clear x0 x1 x2 x3 x4 x5 x6 x7 x8 C N0 h h0 b0 b1 HQ;obtain⟨x0,x1,x2,x3,x4,x5,x6,x7,x8⟩:=Ad N1;have bN:=AG w1 (.cells #[.int .i64 (AO P.pages j).w, .int .i64 (AO P.pages j).a, .bool (AO P.pages j).u] 127);have hlt0:=Ao N1;have y0:=(bN.cell (p:=⟨w.heap.size,0,none⟩) hlt0).trans x0;have y4:=(bN.cell (p:=⟨w.heap.size,4,none⟩) hlt0).trans x4;have HF:=AA (HB.out.trans (bN.mono HB.out.size))
 rcases hpg with⟨hw,_⟩|⟨hw,⟨ha0,ha1⟩,_⟩|⟨hw,⟨ha0,ha1⟩,hne,hxu⟩
 ·have E:=AA (show F1 P ad=0 by rw[HW.out,if_neg (by omega),if_neg (by omega)])
  rw[hw] at D0;clear HM HS hP HW hw;go_wp2_with fail;go_ret;exact⟨Bd E.out.symm,HB.out.trans ((AG w1 _).mono HB.out.size)⟩
 ·obtain⟨fr,hfr⟩:∃n:Nat,(AO P.pages j).a=(n:Int):=⟨(AO P.pages j).a.toNat,by omega⟩
  have hf12:fr<12:=by omega
  have E:=AA (show F1 P ad=Am P.kern.mem fr t by rw[HW.out,if_pos hw,hfr,Int.toNat_natCast]);obtain⟨b,off,b2,off2,c2,rfl,hb,D,hb2,DD⟩:=HM.word (AW hP.k).1 hf12 ht4;have z1:=(bN.cell (p:=⟨b,off+fr,none⟩) hb).trans D;have z2:=(bN.cell (p:=⟨b2,off2+t,none⟩) hb2).trans DD;have hml:(fr:Int)<P.kern.mem.length:=by have:=(Af.1 (AW hP.k).1).1;omega
  have ht4i:(t:Int)<4:=by omega
  rw[hw] at D0;rw[hfr] at D1;rw[hw,hfr] at y0 y4 z1 z2;clear HM HS hP HW hw hfr D DD;go_wp2_with fail;go_ret;exact⟨Bd E.out.symm,HB.out.trans ((AG w1 _).mono HB.out.size)⟩
 ·obtain⟨sl,hsl⟩:∃n:Nat,(AO P.pages j).a=(n:Int):=⟨(AO P.pages j).a.toNat,by omega⟩
  have hs16:sl<16:=by omega
  have E:=AA (show F1 P ad=Am P.swap sl t by rw[HW.out,if_neg (by omega),if_pos hw,hsl,Int.toNat_natCast]);rw[hsl,Int.toNat_natCast] at hne;have hrok:Ed (AL P.swap sl)=true:=(hP.swapr sl hs16).resolve_left hne;have hrl:=(BG.1 hrok).1;obtain⟨b,off,u,rfl,hb,D,hr⟩:=HS sl (by rw[hP.swapl];exact hs16);obtain⟨au,cu,rfl,hcu,_,HU⟩:=hr.open;obtain⟨b2,off2,rfl,DD⟩:=HU.at (k:=t) (by omega);have z1:=(bN.cell (p:=⟨b,off+sl,none⟩) hb).trans D;have z2:=(bN.cell (World.block_lt_of_cell? _ _ DD)).trans DD;have hml:(sl:Int)<P.swap.length:=by rw[hP.swapl];omega
  have ht4i:(t:Int)<(AL P.swap sl).length:=by rw[hrl];omega
  have e2:nth (AL P.swap sl) t=Am P.swap sl t:=rfl;rw[e2] at z2;rw[hw] at D0;rw[hsl] at D1;rw[hw,hsl] at y0 y4 z1 z2;clear HM HS hP HW hw hsl D DD hr HU hrok hne e2 hxu;go_wp2_with fail;go_ret;exact⟨Bd E.out.symm,HB.out.trans ((AG w1 _).mono HB.out.size)⟩
def Fn (P:BO) (k:Nat):List Int:=(List.range k).map (F1 P)
theorem IT {P:BO} {k:Nat}:(Fn P k).length=k:=by simp[Fn]
theorem Pv {P:BO} {k:Nat}:Fn P (k+1)=Fn P k++[F1 P k]:=by simp[Fn,List.range_succ]
theorem UB (mv iv ev cv sv lv qv:Value) (P:BO) (w:World) (h:Qz w mv iv ev cv sv lv qv P) (hP:KO P):
 Calls prog 19 #[Bq mv iv ev cv sv lv qv P.hand P.limit] w fun r w'=>∃v',r= .returned v'∧AE w.heap.size w' v' (Fn P 64)∧Below w.heap.size w w':=by
 unfold Bq;have N0:=heap_alloc_new w (.cells #[mv,iv,ev,cv,sv,lv,qv, .int .i64 P.hand, .int .i64 P.limit] 33);have b0:=AG w (.cells #[mv,iv,ev,cv,sv,lv,qv, .int .i64 P.hand, .int .i64 P.limit] 33);have h0:=h.below b0;have hs0:(w.alloc (.cells #[mv,iv,ev,cv,sv,lv,qv, .int .i64 P.hand, .int .i64 P.limit] 33)).heap.size=w.heap.size+1:=by simp
 go_in;go_wp2_with fail;generalize w.alloc _=W0 at*;rw[←hs0];have bA:=AG W0 (.cells #[] 3);have o1:=Fh W0;have HN:=AA N0;have HB:=AA b0;have CW:=AA (fun W (hW:Below W0.heap.size W0 W) (k:Nat) (hk:k<64)=>Ni mv iv ev cv sv lv qv P W (h0.below hW) hP hk);generalize W0.alloc (.cells #[] 3)=wa at o1 bA ⊢;generalize(Value.slice (some ⟨W0.heap.size,0,none⟩) 0 0)=o at o1 ⊢;unfold Bq at CW;clear h h0 N0 hP b0;go_loopw [3,4] (fun o i wr=>∃k:Nat,k≤64∧i= .int .i64 k∧AE W0.heap.size wr o (Fn P k)∧Below W0.heap.size W0 wr) (fun _ i _=>64 - (intOf i).toNat)
 case atStart=>exact⟨0,Nat.zero_le _,rfl,o1,bA⟩
 case round=>
  clear o1 bA;obtain⟨k,hk,rfl,hO,hb⟩:=hrel;have HO:=AA hO;obtain⟨oa,oc,rfl,_,_,_⟩:=hO.rd.open;rw[IT] at HO ⊢;clear hO
  by_cases hlt:k<64
  ·obtain⟨x0,x1,x2,x3,x4,x5,x6,x7,x8⟩:=Ad (AF HN.out hb)
   have hki:(k:Int)<64:=by omega
   go_wp2_with fail;refine(CW.out _ hb k hlt).mono ?_;rintro r w1 ⟨rfl,b1⟩;have hb1:=hb.trans (b1.mono hb.size);have b2:=AG w1 (.cells #[.int .i64 (F1 P k)] 3);have O2:=AE.below (AE.below HO.out b1) b2;have O2':(w1.alloc (.cells #[.int .i64 (F1 P k)] 3)).ownsRow W0.heap.size 3 1 (.slice oa k oc) k ((Fn P k).map (Value.int .i64)):=by have:=O2;unfold AE at this;rwa [IT] at this
   have L2:W0.heap.size≤(w1.alloc (.cells #[.int .i64 (F1 P k)] 3)).heap.size:=Nat.le_trans hb1.size b2.size;have HB2:=AA (hb1.trans (b2.mono hb1.size));clear x0 x1 x2 x3 x4 x5 x6 x7 x8 O2 b1 b2;go_wp2_with (at_builtin;go_must (refine BW (lo:=W0.heap.size) (n:=k) (xs:=(Fn P k).map (Value.int .i64)) (m:=1) (news:=[.int .i64 (F1 P k)]) rfl rfl 3 (.int .i64 0) 1 8 underlying30 Tryz.infoInt rfl (by decide) rfl O2' rfl (Rd.newsAt _ #[_] _ 1 1 _ (by simp) rfl (by simp[maxLen])) (by simp[Value.oneCell']) (by unfold maxLen;omega) (by omega) L2 ?_;intro o' w5 k1_ k2_ k3_ k4_));go_roundw
   case rel=>exact⟨k+1,by omega,by go_num,by rw[Pv];unfold AE;rw[List.map_append,List.length_append,IT];exact k1_,HB2.out.trans k4_⟩
   case measure=>simp[intOf];omega
  ·obtain rfl:k=64:=by omega
   go_wp2_with fail;go_ret;exact⟨_,rfl,BQ HO.out HB.out.size,HB.out.trans (hb.mono HB.out.size)⟩
def Vj:BO:=⟨⟨[],[],[],[]⟩,[],[],[],0,0⟩
theorem Qx (w:World):Qz w (.slice none 0 0) (.slice none 0 0) (.slice none 0 0) (.slice none 0 0) (.slice none 0 0) (.slice none 0 0) (.slice none 0 0) Vj:=
 ⟨⟨⟨[],AJ.rd (IP Fg 0 30 1 w),FP.nil⟩,AJ.rd (IP Ag 0 135 3 w),(QJ 0 w).rd,AJ.rd (IP AP 0 140 4 w)⟩,⟨[],AJ.rd (IP Fg 0 30 1 w),FP.nil⟩,AE.rd (lo:=0) (World.ownsRow_nil _ _ _ _),AJ.rd (IP Dg 0 127 3 w)⟩
theorem fnPagerNew.walkR (v:Value) (bs:List Int) (w:World) (h:FR w v bs):
 Calls prog 3 #[v] w fun e w'=>e= .returned (.bool true)∧Below w.heap.size w w':=by
 obtain⟨ao,c,hv,hc,hcm,hA⟩:=h.open;subst hv;unfold maxLen at hcm
 by_cases hl:1048576<bs.length
 ·have t0:(1048576:Int)<bs.length:=by omega
  go_in;go_wp2_with fail;go_ret;exact⟨rfl,Below.refl _ _⟩
 have t0:¬(1048576:Int)<bs.length:=by omega
 go_in;go_wp2_with fail;refine(LI _ bs _ h).mono ?_;rintro e w1 ⟨⟨n,rfl⟩,b1⟩;clear hA h;go_wp2_with fail;cases hin:Bk n 1 6
 ·refine(Pz n w1 hin).mono ?_;rintro e w2 ⟨rfl,b2⟩
  unfold Bq;have hb2:=b1.trans (b2.mono b1.size);have Hin:=AA hin;clear hin b2 b1;have N2:=heap_alloc_new w2 (.cells #[.slice none 0 0, .slice none 0 0, .slice none 0 0, .slice none 0 0, .slice none 0 0, .slice none 0 0, .slice none 0 0, .int .i64 0, .int .i64 0] 33);have bA:=AG w2 (.cells #[.slice none 0 0, .slice none 0 0, .slice none 0 0, .slice none 0 0, .slice none 0 0, .slice none 0 0, .slice none 0 0, .int .i64 0, .int .i64 0] 33);go_wp2_with fail;obtain⟨g1,hg1⟩:∃g,g=w2.heap.size:=⟨_,rfl⟩
  rw[←hg1] at N2 ⊢;clear hg1;have hb3:=hb2.trans (bA.mono hb2.size);generalize w2.alloc _=w3 at*;refine(Pg n w3 Hin.out).mono ?_;rintro e w4 ⟨rfl,b4⟩;unfold Bq;have hb4:=hb3.trans (b4.mono hb3.size);have N4:=AF N2 b4;have N5:=heap_alloc_new w4 (.cells #[.slice none 0 0, .slice none 0 0, .slice none 0 0, .slice none 0 0, .slice none 0 0, .slice none 0 0, .slice none 0 0, .int .i64 0, .int .i64 0] 33);have bB:=AG w4 (.cells #[.slice none 0 0, .slice none 0 0, .slice none 0 0, .slice none 0 0, .slice none 0 0, .slice none 0 0, .slice none 0 0, .int .i64 0, .int .i64 0] 33);have hb5:=hb4.trans (bB.mono hb4.size);obtain⟨x0,x1,x2,x3,x4,x5,x6,x7,x8⟩:=Ad (AF N4 bB);obtain⟨y0,y1,y2,y3,y4,y5,y6,y7,y8⟩:=Ad N5;clear N2 N4 N5 bA bB b4;go_wp2_with fail;have C:=KI _ _ _ _ _ _ _ _ _ _ _ _ _ _ Vj _ (Qx (w4.alloc (.cells #[.slice none 0 0, .slice none 0 0, .slice none 0 0, .slice none 0 0, .slice none 0 0, .slice none 0 0, .slice none 0 0, .int .i64 0, .int .i64 0] 33))) (Qx _);refine C.mono ?_;rintro e w6 ⟨rfl,b6⟩;have hb6:=hb5.trans (b6.mono hb5.size);have hn:n<1∨6<n:=by
   rcases Int.lt_or_le n 1 with h|h
   ·exact .inl h
   ·refine .inr ?_
    rcases Int.lt_or_le 6 n with h'|h'
    ·exact h'
    ·have:=Hin.out;rw[AZ.2 ⟨h,h'⟩] at this;cases this
  clear x0 x1 x2 x3 x4 x5 x6 x7 x8 y0 y1 y2 y3 y4 y5 y6 y7 y8 C
  by_cases h1:n<1
  ·go_wp2_with fail
   go_ret;exact⟨rfl,hb6⟩
  ·have h6:6<n:=hn.resolve_left h1
   go_wp2_with fail;go_ret;exact⟨rfl,hb6⟩
 ·have hn:=AZ.1 hin
  have Hn:=AA hn;refine(Ow n w1 hn.1 hn.2).mono ?_;rintro e w2 ⟨m1,i1,e1,c1,s1,l1,q1,rfl,O1,b2⟩;have hb2:=b1.trans (b2.mono b1.size);have R1:=O1.rd;obtain⟨⟨⟨ma,mn,mc,rfl⟩,⟨ia,iN,ic,rfl⟩,⟨ea,en,ec,rfl⟩,⟨ca,cn,cc,rfl⟩⟩,⟨sa,sn,sc,rfl⟩,⟨la,ln,lc,rfl⟩,⟨qa,qn,qc,rfl⟩⟩:=O1.shapes;clear hin b2 b1 hn O1;unfold Bq;have N2:=heap_alloc_new w2 (.cells #[.slice ma mn mc, .slice ia iN ic, .slice ea en ec, .slice ca cn cc, .slice sa sn sc, .slice la ln lc, .slice qa qn qc, .int .i64 0, .int .i64 n] 33);have bA:=AG w2 (.cells #[.slice ma mn mc, .slice ia iN ic, .slice ea en ec, .slice ca cn cc, .slice sa sn sc, .slice la ln lc, .slice qa qn qc, .int .i64 0, .int .i64 n] 33);go_wp2_with fail;obtain⟨g1,hg1⟩:∃g,g=w2.heap.size:=⟨_,rfl⟩
  rw[←hg1] at N2 ⊢;clear hg1;have hb3:=hb2.trans (bA.mono hb2.size);have R3:=R1.below bA;generalize w2.alloc _=w3 at*;refine(Ns n w3 Hn.out.1 Hn.out.2).mono ?_;rintro e w4 ⟨m2,i2,e2,c2,s2,l2,q2,rfl,R2,b4⟩;have hb4:=hb3.trans (b4.mono hb3.size);have R4:=R3.below b4;obtain⟨ma',mn',mc',rfl⟩:∃a n c,m2= .slice a n c:=by obtain⟨_,_,rfl,_⟩:=R2.1.1.open;exact⟨_,_,_,rfl⟩
  obtain⟨ia',iN',ic',rfl⟩:∃a n c,i2= .slice a n c:=by obtain⟨_,_,rfl,_⟩:=R2.1.2.1.shape;exact⟨_,_,_,rfl⟩
  obtain⟨ea',en',ec',rfl⟩:∃a n c,e2= .slice a n c:=by obtain⟨_,_,rfl,_⟩:=R2.1.2.2.1.open;exact⟨_,_,_,rfl⟩
  obtain⟨ca',cn',cc',rfl⟩:∃a n c,c2= .slice a n c:=by obtain⟨_,_,rfl,_⟩:=R2.1.2.2.2.shape;exact⟨_,_,_,rfl⟩
  obtain⟨sa',sn',sc',rfl⟩:∃a n c,s2= .slice a n c:=by obtain⟨_,_,rfl,_⟩:=R2.2.1.open;exact⟨_,_,_,rfl⟩
  obtain⟨la',ln',lc',rfl⟩:∃a n c,l2= .slice a n c:=by obtain⟨_,_,rfl,_⟩:=R2.2.2.1.open;exact⟨_,_,_,rfl⟩
  obtain⟨qa',qn',qc',rfl⟩:∃a n c,q2= .slice a n c:=by obtain⟨_,_,rfl,_⟩:=R2.2.2.2.shape;exact⟨_,_,_,rfl⟩
  unfold Bq;simp only[show(Hz n).hand=0 from rfl,show(Hz n).limit=n from rfl];have N4:=AF N2 b4;have N5:=heap_alloc_new w4 (.cells #[.slice ma' mn' mc', .slice ia' iN' ic', .slice ea' en' ec', .slice ca' cn' cc', .slice sa' sn' sc', .slice la' ln' lc', .slice qa' qn' qc', .int .i64 0, .int .i64 n] 33);have bB:=AG w4 (.cells #[.slice ma' mn' mc', .slice ia' iN' ic', .slice ea' en' ec', .slice ca' cn' cc', .slice sa' sn' sc', .slice la' ln' lc', .slice qa' qn' qc', .int .i64 0, .int .i64 n] 33);have hb5:=hb4.trans (bB.mono hb4.size);have N4':=AF N4 bB;obtain⟨x0,x1,x2,x3,x4,x5,x6,x7,x8⟩:=Ad N4';obtain⟨y0,y1,y2,y3,y4,y5,y6,y7,y8⟩:=Ad N5;have C:=KI _ _ _ _ _ _ _ _ _ _ _ _ _ _ (Hz n) _ (R4.below bB) (R2.below bB);have R5:=R4.below bB;clear N2 N4 bA b4 R1 R3 R2 R4 bB;go_wp2_with fail;generalize w4.alloc _=w5 at*;refine C.mono ?_;rintro e w6 ⟨rfl,b6⟩;have hb6:=hb5.trans (b6.mono hb5.size);have R6:=R5.below b6;have N6:=AF N4' b6;clear x0 x1 x2 x3 x4 x5 x6 x7 x8 y0 y1 y2 y3 y4 y5 y6 y7 y8 C N5 N4' R5 b6;obtain⟨x0,x1,x2,x3,x4,x5,x6,x7,x8⟩:=Ad N6;have CW:=UB _ _ _ _ _ _ _ (Hz n) w6 R6 (MO Hn.out.1 Hn.out.2);unfold Bq at CW;simp only[show(Hz n).hand=0 from rfl,show(Hz n).limit=n from rfl] at CW;go_wp2_with fail;refine CW.mono ?_;rintro e w7 ⟨v7,rfl,O7,b7⟩;have hb7:=hb6.trans (b7.mono hb6.size);have R7:=R6.below b7;have N7:=AF N6 b7;clear x0 x1 x2 x3 x4 x5 x6 x7 x8 CW R6 N6 b7;obtain⟨oa,oc,rfl,_,_,H7⟩:=O7.rd.open;have hwl:(Fn (Hz n) 64).length=64:=IT;have HN7:=AA N7;have HR7:=AA R7;have HH7:=AA H7;have Hb7:=AA hb7;rw[hwl];clear N7 R7 H7 hb7 O7;go_wp2_with fail;go_loopw [9] (fun s9 wr=>∃k:Nat,k≤64∧s9= .int .i64 k∧w7=wr) (fun s9 _=>64 - (intOf s9).toNat)
  case atStart=>exact⟨0,Nat.zero_le _,rfl,rfl⟩
  case round=>
   obtain⟨k,hk,rfl,rfl⟩:=hrel
   by_cases hlt:k<64
   ·have hki:(k:Int)<64:=by omega
    obtain⟨b,off,rfl,D⟩:=HH7.out.at (k:=k) (by rw[hwl];exact hlt);have e0:nth (Fn (Hz n) 64) k=0:=by have:=Ti n hlt;unfold nth Fn;rw[List.getD_eq_getElem?_getD,List.getElem?_map,List.getElem?_range hlt];exact this
    rw[e0] at D;clear e0 hwl;go_wp2_with fail;go_roundw
    case rel=>exact⟨k+1,by omega,by go_num,by first|rfl|trivial⟩
    case measure=>simp[intOf];omega
   ·obtain rfl:k=64:=by omega
    have N7:=HN7.out;obtain⟨x0,x1,x2,x3,x4,x5,x6,x7,x8⟩:=Ad N7;have CV:=JR _ _ _ _ _ _ _ (Hz n) w7 HR7.out (OL (MO Hn.out.1 Hn.out.2).k);rw[Je.2 (MO Hn.out.1 Hn.out.2)] at CV;unfold Bq at CV;simp only[show(Hz n).hand=0 from rfl,show(Hz n).limit=n from rfl] at CV;clear hwl;go_wp2_with fail;refine CV.mono ?_;rintro e w8 ⟨rfl,b8⟩;have z8:=(Ad (AF N7 b8)).2.2.2.2.2.2.2.2;clear x0 x1 x2 x3 x4 x5 x6 x7 x8 CV;go_wp2_with fail;go_ret;exact⟨AK (by simp),Hb7.out.trans (b8.mono Hb7.out.size)⟩
end Go.Proofs.YtnieoiclifjoaaaGreatDoor
