/-
  Packed:2 texts.
-/
import Derived.Test.YtlcnbkkcplllhaaGreatDoorY1
import Derived.Test.YtlcnbkkcplllhaaGreatDoorY3
import Derived.Test.YtlcnbkkcplllhaaGreatDoorY5
import Derived.Test.YtlcnbkkcplllhaaGreatDoorY6
set_option linter.unusedVariables false
set_option linter.unusedSimpArgs false
set_option maxHeartbeats 16000000
set_option maxRecDepth 100000
open Go Go.Proofs.YtlcnbkkcplllhaaGreatDoor
open Bool renaming and_eq_true_iff->wu
open Go renaming heap_setCell_same->yE
open Nat renaming le_refl->yF,le_trans->yM,lt_of_lt_of_le->yu
open Go renaming World->Ω
namespace Go.Proofs.YtlcnbkkcplllhaaGreatDoor
open Go.Proofs.Tryz
open Go.RowKit
def MZ(P:AP)(c:AT):AP×Int:=if(BN P&&Bj c.e 1 2)=true then HY P c else(Xj,5)
def iB(w:Ω)(t:AP×Int)(r:Ending)(w':Ω):Prop:=∃m i e c s l q,r=.returned (.tuple #[AN m i e c s l q t.1.FU t.1.VO,t.2])/\JA w' m i e c s l q t.1/\Below w w w'
theorem gF (mv iv ev cv sv lv qv:Value)(P:AP)(V:AT)(w:Ω)(h:JA w mv iv ev cv sv lv qv P)(hs:Gs P.V0)(ao:V.nm.size<=maxLen)(au:V.c<=9223372036854775807):
 Calls prog 8 #[AN mv iv ev cv sv lv qv P.FU P.VO,.agg V.cs] w (iB w (MZ P V)):=by
 unfold MZ;cases O:(BN P&&Bj V.e 1 2)
 .exact(Ts _ _ _ _ _ _ _ P V w h hs O).mono λ_ w' ⟨J,H⟩=>⟨_,_,_,_,_,_,_,J,LN w',H⟩
 obtain⟨J,H⟩:=wu.1 O
 exact(MF _ _ _ _ _ _ _ P V w h (Ct.1 J) (Aa.1 H) ao au).mono λ_ _ ⟨m,i,e,c,s,l,q,J,H,z⟩=>⟨m,i,e,c,s,l,q,J,H.rd,z⟩
theorem gG (mv iv ev cv sv lv qv:Value)(P:AP)(V:AT)(w:Ω)(h:JA w mv iv ev cv sv lv qv P)(hs:Gs P.V0)(ao:V.nm.size<=maxLen)(au:V.c<=9223372036854775807):
 Calls prog 9 #[AN mv iv ev cv sv lv qv P.FU P.VO,.agg V.cs] w (iB w (MZ P V)):=by
 unfold MZ;cases O:(BN P&&Bj V.e 1 2)
 .exact(TT _ _ _ _ _ _ _ P V w h hs O).mono λ_ w' ⟨J,H⟩=>⟨_,_,_,_,_,_,_,J,LN w',H⟩
 obtain⟨J,H⟩:=wu.1 O
 exact(Qw _ _ _ _ _ _ _ P V w h (Ct.1 J) (Aa.1 H) ao au).mono λ_ _ ⟨m,i,e,c,s,l,q,J,H,z⟩=>⟨m,i,e,c,s,l,q,J,H.rd,z⟩
variable{P:AP}
theorem Yi{c:AT}(h:(MZ P c).2≠5):Dd P/\1<=c.e/\c.e<=2/\MZ P c=HY P c:=by
 unfold MZ at h ⊢
 by_cases O:(BN P&&Bj c.e 1 2)=true
 .rw[if_pos O]
  obtain⟨J,H⟩:=wu.1 O;obtain⟨z,h4⟩:=Aa.1 H;exact⟨Ct.1 J,z,h4,rfl⟩
 rw[if_neg O] at h
 exact absurd rfl h
structure De(w W0:Ω)(ra rb:Nat)(o0 o1 c0 c1:Obj)(p s:Bool)(ww:Ω):Prop where
 sz:W0.heap.size<=ww.heap.size
 kp:∀k,k<W0.heap.size->k≠ra->k≠rb->ww.heap[k]?=W0.heap[k]?
 bw:Below w w ww
 b0:ww.heap[ra]?=some (if p then o1 else o0)
 b1:ww.heap[rb]?=some (if s then c1 else c0)
section
variable {w W0 N w':Ω} {ra rb lo:Nat} {o0 o1 X c1:Obj} {p s:Bool}
theorem De.below(h:De w W0 ra rb o0 o1 X c1 p s N)(O:Below N N w'):De w W0 ra rb o0 o1 X c1 p s w':=
 ⟨yM h.sz O.size,λk K J H=>(O.block k (yu K h.sz)).trans (h.kp k K J H),h.bw.trans (O.mono h.bw.size),AB h.b0 O,AB h.b1 O⟩
theorem De.cell(h:De w W0 ra rb o0 o1 X c1 p s N){k j:Nat}{v:Value}(K:k<W0.heap.size)(J:k≠ra)(H:k≠rb)(hv:W0.cell? (k,j)=some v):N.cell? (k,j)=some v:=by have:=h.kp k K J H;unfold World.cell? at hv ⊢;rw[this];exact hv
theorem gY(h:De w W0 ra rb o0 o1 X c1 p s N)(ha:ra<lo)(O:rb<lo):∀t sz n v xs,t≠28->t≠32->W0.ownsRow lo t sz v n xs->N.ownsRow lo t sz v n xs:=by
 intro t sz n v xs _ _ ⟨z,h4⟩;refine⟨z,?_⟩
 rcases h4 with h4|⟨q,cap,cur,rfl,hq,hh,hr⟩
 .exact .inl h4
 exact .inr ⟨q,cap,cur,rfl,hq,(h.kp q (AU hh) ω ω).trans hh,hr⟩
end
variable{q:Nat}
variable{v0 v1 v2 v3 v4 v5:Value}
variable{w:Ω}
theorem Y0:w.grownBy ((((((w.setCell q v0).setCell (q,1) v1).setCell (q,2) v2).setCell (q,3) v3).setCell (q,4) v4).setCell (q,5) v5) (some q):=
 AO (AO (AO (AO (AO (Ak _ q 0 v0) (Ak _ q 1 v1)) (Ak _ q 2 v2)) (Ak _ q 3 v3)) (Ak _ q 4 v4)) (Ak _ q 5 v5)
theorem di{a0 a1 a2 a3 a4 a5:Value}{T:TypeId}(h:w.heap[q]?=some (.cells #[a0,a1,a2,a3,a4,a5] T (0,0))):
 ((((((w.setCell q v0).setCell (q,1) v1).setCell (q,2) v2).setCell (q,3) v3).setCell (q,4) v4).setCell (q,5) v5).heap[q]?=some (.cells #[v0,v1,v2,v3,v4,v5] T (0,0)):=by
 have h5:=yE _ q 5 _ _ v5 (yE _ q 4 _ _ v4 (yE _ q 3 _ _ v3 (yE _ q 2 _ _ v2 (yE _ q 1 _ _ v1 (yE w q 0 _ _ v0 h)))));simpa using h5
def eB(w:Ω)(r:Ending)(w':Ω):Prop:=∃m i e c s l q P x,r=.returned (.tuple #[AN m i e c s l q P.FU P.VO,.agg (AT.cs x)])/\JA w' m i e c s l q P/\Qu P/\(x.nm.size<=8/\x.c<=1000000)/\Below w w w'
def gu(w:Ω)(lo b cb:Nat)(m i e c s l q:Value)(P:AP)(W:Ω):Prop:=∃x:AT,(x.nm.size<=8/\x.c<=1000000)/\Pc lo W m i e c s l q P/\
 W.heap[w.heap.size]?=some (.cells #[ι,ι,ι,ι,ι,ι,ι,θ,θ] 32 (0,0))/\
 W.heap[w.heap.size+1]?=some (.cells #[θ,θ,θ,θ,θ,ϑ] 34 (0,0))/\
 W.heap[b]?=some (.cells #[m,i,e,c,s,l,q,P.FU,P.VO] 32 (0,0))/\W.heap[cb]?=some (.cells #[x.k,x.e,x.a,x.b,x.c,x.nm] 34 (0,0))/\Below w w W
theorem gu.of{D W:Ω}{lo b cb g:Nat}{m i e c s l q:Value}(S:Pc lo D m i e c s l q P)
 (ab:D.heap[w.heap.size]?=some (.cells #[ι,ι,ι,ι,ι,ι,ι,θ,θ] 32 (0,0)))
 (C:D.heap[w.heap.size+1]?=some (.cells #[θ,θ,θ,θ,θ,ϑ] 34 (0,0)))
 (ww:D.heap[b]?=some (.cells #[m,i,e,c,s,l,q,P.FU,P.VO] 32 (0,0)))(B:Below w w D)(J:w.heap.size+1<g)(H:g<b)(z:g<lo)
 {x:AT}(hx:x.nm.size<=8/\x.c<=1000000)(G:D.grownBy W (some g))(c0:W.heap[cb]?=some (.cells #[x.k,x.e,x.a,x.b,x.c,x.nm] 34 (0,0))):gu w lo b cb m i e c s l q P W:=
 ⟨x,hx,S.map (Ge G z (yF _)),(G.block _ (AU ab) η).trans ab,(G.block _ (AU C) η).trans C,(G.block _ (AU ww) η).trans ww,c0,AM B G ω B.size⟩
theorem Nn (v:Value)(bs:List Int)(w:Ω)(h:Fn w v bs):
 Calls prog 7 #[v] w (eB w):=by
 obtain⟨B0,BC,bA,ce⟩:=FR w (.cells #[ι,ι,ι,ι,ι,ι,ι,θ,θ] 32) (.cells #[θ,θ,θ,θ,θ,ϑ] 34);have hA:Fn ((w.alloc _).alloc _) v bs:=⟨h.1.below bA,h.2⟩;go_in;go_wp2_with fail;generalize(w.alloc _).alloc _=wa at*;refine(Sb _ bs _ hA).mono ?_;rintro e w1 ⟨ll,rfl,hR,ae⟩;obtain⟨g,rfl,hD⟩:=Dr.of hR ae;have ck:wa.heap.size<=g:=hD.2.2.1;have ar:=hD.lt;have cd:=ae.size;go_wp2_with fail;refine(Se hD ψ).mono ?_;rintro e w2 ⟨v2,rfl,⟨m,i,e2,v,s,l,q,P,rfl,S2,hP⟩,H,g2⟩;obtain⟨⟨⟨ma,mn,mc,rfl⟩,⟨ia,iN,ic,rfl⟩,⟨ea,en,ec,rfl⟩,⟨va,vn,vc,rfl⟩⟩,⟨sa,sn,sc,rfl⟩,⟨la,ln,lc,rfl⟩,⟨qa,qn,qc,rfl⟩⟩:=S2.Dq;unfold AN;have cc:=g2.size;have Z2:=(g2.block w.heap.size ω η).trans (AB B0 ae);have C2:=(g2.block (w.heap.size+1) ω η).trans (AB BC ae);have az:=AM (bA.trans (ae.mono bA.size)) g2 ω ω;obtain⟨NK,bK⟩:=EU w2 (.cells #[.slice ma mn mc,.slice ia iN ic,.slice ea en ec,.slice va vn vc,.slice sa sn sc,.slice la ln lc,.slice qa qn qc,P.FU,P.VO] 32);have z:=H.below bK;have S3:=S2.map (Ka bK (yF _));have Z3:=AB Z2 bK;have C3:=AB C2 bK;have ay:=az.trans (bK.mono az.size);have bp:g<w2.heap.size:=ω;obtain⟨X,c1,c2,c3,c4,c5,c6,c7,c8⟩:=AC NK;have cg:w.heap.size+1<w2.heap.size:=ω;have bk:w.heap.size+1<w1.heap.size:=ω;clear S2 H Z2 C2 az bK hR hD hA B0 BC h bA g2 ae;go_wp2_with fail;generalize w2.alloc _=w3 at*;generalize w2.heap.size=b at*;refine(Li _ _ _ _ P.V0.Zh z ψ (λw' hg=>(S3.map (Ge hg ar (yF _))).rd.1.2.1) (show Xv P.V0 from hP).2).mono ?_;rintro e D ⟨_,rfl,⟨x,rfl,hx⟩,h4,g4⟩;have av:=AU NK;have S4:=S3.map (Ge g4 ar (yF _));have Z4:=(g4.block _ (AU Z3) η).trans Z3;have C4:=(g4.block _ (AU C3) η).trans C3;have N4:=(g4.block _ av η).trans NK;have a8:=AM ay g4 ω ay.size;have ai:x.nm.size<=8/\x.c<=1000000:=⟨hx.1.1,hx.1.2.2.2⟩;clear S3 Z3 C3 NK ay z g4 X c1 c2 c3 c4 c5 c6 c7 c8;dsimp only[AT.cs];obtain⟨X4,bX⟩:=EU D (.cells #[.int .i64 x.k,.int .i64 x.e,.int .i64 x.a,.int .i64 x.b,.int .i64 x.c,.string x.nm] 34);have h5:=h4.below bX;have G5:=AW bX (some g);have cl:b<D.heap.size:=AU N4;have FT:=AA (λx hx W G c0=>gu.of (w:=w) (cb:=D.heap.size) S4 Z4 C4 N4 a8 (ω:w.heap.size+1<g) bp ar (x:=x) (W:=W) hx G c0);clear S4 Z4 C4 N4 a8 h4 bX;go_wp2_with fail;generalize D.alloc _=w5 at*;generalize hce:D.heap.size=cb at*;refine(h5.pick 16).mono ?_;rintro e w6 ⟨y,rfl,y0,y1,h6,g6⟩;have X6:=(g6.block _ (AU X4) η).trans X4;have G6:=AO G5 g6;clear X4 h5 g6 G5;go_upto_if 17 with fail;go_cut [] (λW=>gu w w1 b cb (.slice ma mn mc) (.slice ia iN ic) (.slice ea en ec) (.slice va vn vc) (.slice sa sn sc) (.slice la ln lc) (.slice qa qn qc) P W)
 case rest=>
  clear X6 G6 FT h6 ai hx;obtain⟨x,ai,S8,Z8,C8,N8,X8,a7⟩:=hcut;have a6:De w wc w (w.heap.size+1) (.cells #[ι,ι,ι,ι,ι,ι,ι,θ,θ] 32 (0,0)) (.cells #[.slice ma mn mc,.slice ia iN ic,.slice ea en ec,.slice va vn vc,.slice sa sn sc,.slice la ln lc,.slice qa qn qc,P.FU,P.VO] 32 (0,0)) (.cells #[θ,θ,θ,θ,θ,ϑ] 34 (0,0)) (.cells #[x.k,x.e,x.a,x.b,x.c,x.nm] 34 (0,0)) false false wc:=⟨yF _,λ_ _ _ _=>rfl,a7,Z8,C8⟩;obtain⟨X,c1,c2,c3,c4,c5,c6,c7,c8⟩:=AC N8;obtain⟨k0,k1,k2,k3,k4,k5⟩:=FE X8;have Z:=AU N8;have ad:=AU X8;go_wp2_with fail;refine Db 4 26 (λix=>ix==2||ix==3) [.a #[.slice ma mn mc,.slice ia iN ic,.slice ea en ec,.slice va vn vc,.slice sa sn sc,.slice la ln lc,.slice qa qn qc,.int .i64 P.FU,.int .i64 P.VO],.a #[.int .i64 x.k,.int .i64 x.e,.int .i64 x.a,.int .i64 x.b,.int .i64 x.c,.string x.nm],.z,.z] (λR ix vv N=>match ix with
   |_=>True) (λR N=>De w wc w (w.heap.size+1) (.cells #[ι,ι,ι,ι,ι,ι,ι,θ,θ] 32 (0,0)) (.cells #[.slice ma mn mc,.slice ia iN ic,.slice ea en ec,.slice va vn vc,.slice sa sn sc,.slice la ln lc,.slice qa qn qc,P.FU,P.VO] 32 (0,0)) (.cells #[θ,θ,θ,θ,θ,ϑ] 34 (0,0)) (.cells #[x.k,x.e,x.a,x.b,x.c,x.nm] 34 (0,0)) (R 2) (R 3) N) ?_ ?_ ?_ ?_ ?_ ?_
  .exact a6.below (Ap (Below.refl _ _) 1)
  .exact λ_ _ _ _ _ _ _ _ _ _ _ _ h=>h
  .intro R i wz br hi hS cm bq hg
   show De _ _ _ _ _ _ _ _ (Hz R i 2) (Hz R i 3) _
   rw[Fg (by rintro rfl;cases hS),Fg (by rintro rfl;cases hS)];exact hg.below bq
  .intro i hi hS o ho a L Hb R Hd Y A hk HK
   match i,hi,hS with
   |0,_,_=>have u2:=Be Y 2;have u3:=Be Y 3;have b9:=(show L.cell? b=some (.slice ma mn mc) from A.cell Z ω ω X);have bY:=(show L.cell? (b,1)=some (.slice ia iN ic) from A.cell Z ω ω c1);have bP:=(show L.cell? (b,2)=some (.slice ea en ec) from A.cell Z ω ω c2);have bE:=(show L.cell? (b,3)=some (.slice va vn vc) from A.cell Z ω ω c3);have bD:=(show L.cell? (b,4)=some (.slice sa sn sc) from A.cell Z ω ω c4);have bC:=(show L.cell? (b,5)=some (.slice la ln lc) from A.cell Z ω ω c5);have bB:=(show L.cell? (b,6)=some (.slice qa qn qc) from A.cell Z ω ω c6);have bx:=(show L.cell? (b,7)=some (.int .i64 P.FU) from A.cell Z ω ω c7);have bu:=(show L.cell? (b,8)=some (.int .i64 P.VO) from A.cell Z ω ω c8);exact Lb ho HK Hb Hd Y (hl:=Vr ‹_› ‹_› ‹_› ‹_› ‹_› ‹_› ‹_› ‹_› ‹_›)
   |1,_,_=>have u3:=Be Y 3;have bt:=(show L.cell? cb=some (.int .i64 x.k) from A.cell ad ω ω k0);have bi:=(show L.cell? (cb,1)=some (.int .i64 x.e) from A.cell ad ω ω k1);have bf:=(show L.cell? (cb,2)=some (.int .i64 x.a) from A.cell ad ω ω k2);have be:=(show L.cell? (cb,3)=some (.int .i64 x.b) from A.cell ad ω ω k3);have bb:=(show L.cell? (cb,4)=some (.int .i64 x.c) from A.cell ad ω ω k4);have a9:=(show L.cell? (cb,5)=some (.string x.nm) from A.cell ad ω ω k5);exact Lb ho HK Hb Hd Y (hl:=f9 ‹_› ‹_› ‹_› ‹_› ‹_› ‹_›)
   |2,_,hs|3,_,hs=>cases hs
  .intro i hi hS o ho a L Hb R Hd Y A hk HK
   match i,hi,hS with
   |0,_,hs|1,_,hs=>cases hs
   |2,_,_=>
    obtain rfl:=yP ho;have e2:a.tmps[2]?.getD undef=.pointer w:=eg (No Hb 2);have d0:(a.tmps[24]?.getD undef)=.agg #[.slice ma mn mc,.slice ia iN ic,.slice ea en ec,.slice va vn vc,.slice sa sn sc,.slice la ln lc,.slice qa qn qc,P.FU,P.VO]:=Dc Hd Y 0;have u3:=Be Y 3;clear Hd Hb;have hr:=A.b0;rw[Y.1] at hr;obtain⟨z0,z1,z2,z3,z4,z5,z6,z7,z8⟩:=AC hr;have fq:=AI hr;have Hr:=AA hr;have g3:=AA (FQ (w:=L) (g:=w.heap.size) (b0:=.slice ma mn mc) (b1:=.slice ia iN ic) (b2:=.slice ea en ec) (b3:=.slice va vn vc) (b4:=.slice sa sn sc) (b5:=.slice la ln lc) (b6:=.slice qa qn qc) (b7:=.int .i64 P.FU) (b8:=.int .i64 P.VO));clear hr;refine yO ?_;go_simp;exact HK undef _ trivial ⟨yM A.sz g3.size,λk K J H=>(g3.block k (yu K A.sz) η).trans (A.kp k K J H),AM A.bw g3 (yF _) A.bw.size,by rw[Gh];exact Hj Hr.u,by rw[Fg ψ];exact(g3.block _ (AU A.b1) χ).trans A.b1⟩ (λj bm aq bl hu=>match j,aq with
     |0,_|1,_|2,_|3,_=>hu)
   |3,_,_=>
    obtain rfl:=yP ho;have e3:a.tmps[3]?.getD undef=.pointer (some ⟨(w.heap.size+1),0,none⟩):=eg (No Hb 3);have d1:(a.tmps[25]?.getD undef)=.agg #[x.k,x.e,x.a,x.b,x.c,x.nm]:=Dc Hd Y 1;have u2:R 2=true:=Y.2.1 2 φ;clear Hd Hb;have hr:=A.b1;rw[Y.1] at hr;obtain⟨z0,z1,z2,z3,z4,z5⟩:=FE hr;have fq:=AI hr;have Hr:=AA hr;have g3:=AA (Y0 (w:=L) (q:=w.heap.size+1) (v0:=.int .i64 x.k) (v1:=.int .i64 x.e) (v2:=.int .i64 x.a) (v3:=.int .i64 x.b) (v4:=.int .i64 x.c) (v5:=.string x.nm));clear hr;refine yO ?_;go_simp;exact HK undef _ trivial ⟨yM A.sz g3.size,λk K J H=>(g3.block k (yu K A.sz) η).trans (A.kp k K J H),AM A.bw g3 ω A.bw.size,by rw[Fg ψ];exact(g3.block _ (AU A.b0) χ).trans A.b0,by rw[Gh];exact di Hr.u⟩ (λj bm aq bl hu=>match j,aq with
     |0,_|1,_|2,_|3,_=>hu)
  intro vs L R ac hR A
  clear hR;simp only[DV,Bo,List.range,List.range.loop,List.foldl_cons,List.foldl_nil];simp
  try generalize vs 0=z0
  try generalize vs 1=z1
  try generalize vs 2=z2
  try generalize vs 3=z3
  have am:=A.b0;have al:=A.b1;rw[show R 2=true from ac 2 ψ] at am;rw[show R 3=true from ac 3 ψ] at al;have S9:=AA (Pc.map (w':=L) S8 (gY A ω bk));have HB:=AA A.bw;have H0:=AA am;have H1:=AA al;clear am al A S8 Z8 C8 N8 X8 a7 X c1 c2 c3 c4 c5 c6 c7 c8 k0 k1 k2 k3 k4 k5 a6 ac;go_wp2_with fail;obtain⟨E0,E1,E2,E3,E4,E5,E6,E7,E8⟩:=AC H0.u;obtain⟨F0,F1,F2,F3,F4,F5⟩:=FE H1.u;exact bodyPost_ret (v:=.tuple #[.agg #[_,_,_,_,_,_,_,_,_],.agg #[_,_,_,_,_,_]]) (by simp[results,Tryz.results7,go_sem,E0,E1,E2,E3,E4,E5,E6,E7,E8,F0,F1,F2,F3,F4,F5]) rfl ⟨_,_,_,_,_,_,_,P,x,rfl,S9.rd,hP,ai,HB.u⟩
 case first=>
  by_cases hy:y=0
  .subst hy
   have bn:g<w6.heap.size:=by have:=AU X6;omega
   have O6:AE w6 (w6.alloc (.cells #[.int .i64 (-1),θ,.int .i64 3] 3)) (.slice w6 3 3) [-1,0,3]:=Sx w6 3 1 3 [.int .i64 (-1),.int .i64 0,.int .i64 3] rfl ψ;have bL:=AJ w6 (.cells #[.int .i64 (-1),θ,.int .i64 3] 3);go_wp2_with fail;refine((h6.below bL).pick 3).mono ?_;rintro e w7 ⟨h3,rfl,z0,z1,h7,g7⟩;have z1:=z1 ψ;obtain⟨a2,rfl⟩:=Int.eq_ofNat_of_zero_le z0;have O7:=BU O6 g7 (λb' e=>by cases e;exact bn);obtain⟨qb,qc,e1,ci,w4⟩:=KU O7 (j:=a2) η;cases e1;generalize List.getD [-1,0,3] a2 0=E at w4;have X7:=(g7.block _ (AU (AB X6 bL)) (by simp;have:=AU X6;omega)).trans (AB X6 bL);have fx:=AI X7;have G8:=Cp (AO G6 (AO (AW bL (some g)) g7)) (Nat.le_of_eq hce) (.int .i64 E) (j:=1);have X8:=yE w7 cb 1 _ _ (.int .i64 E) X7;obtain⟨k0,k1,k2,k3,k4,k5⟩:=FE X7;have ax:=AA (FT ⟨x.k,E,x.a,x.b,x.c,x.nm⟩ ai _ G8 (by simpa using X8));have ca:(a2:Int)<3:=z1;clear X6 G6 FT h6 h7 X7 X8 G8 O6 O7 bL g7;go_wp2_with fail;go_meet;exact ax.u
  have t0:(y==0)=false:=by simp[hy]
  clear hy h6;have ax:=AA (FT x ai _ G6 X6);clear X6 G6 FT;go_wp2_with fail;go_meet;exact ax.u
end Go.Proofs.YtlcnbkkcplllhaaGreatDoor
