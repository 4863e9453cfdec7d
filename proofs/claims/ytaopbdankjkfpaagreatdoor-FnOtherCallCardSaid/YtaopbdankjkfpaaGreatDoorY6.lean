/-
  Packed:1 texts.
-/
import Derived.Test.YtaopbdankjkfpaaGreatDoorY1
import Derived.Test.YtaopbdankjkfpaaGreatDoorY5
set_option linter.unusedVariables false
set_option linter.unusedSimpArgs false
set_option maxHeartbeats 16000000
set_option maxRecDepth 100000
open Go Go.Proofs.YtaopbdankjkfpaaGreatDoor
open Go renaming heap_setCell_same->yF
open Nat renaming le_refl->yG,le_trans->yL,lt_of_lt_of_le->yv
namespace Go.Proofs.YtaopbdankjkfpaaGreatDoor
open Go.Proofs.Tryz
open Go.RowKit
structure De(w W0:World)(ra rb:Nat)(o0 o1 c0 c1:Obj)(p s:Bool)(ww:World):Prop where
 sz:W0.heap.size<=ww.heap.size
 kp:∀k,k<W0.heap.size->k≠ra->k≠rb->ww.heap[k]?=W0.heap[k]?
 bw:Below w.heap.size w ww
 b0:ww.heap[ra]?=some (if p then o1 else o0)
 b1:ww.heap[rb]?=some (if s then c1 else c0)
section
variable {w W0 z w':World} {ra rb lo:Nat} {o0 o1 D K:Obj} {p s:Bool}
theorem De.below(h:De w W0 ra rb o0 o1 D K p s z)(hb:Below z.heap.size z w'):De w W0 ra rb o0 o1 D K p s w':=
 ⟨yL h.sz hb.size,λk Y h1 V=>(hb.block k (yv Y h.sz)).trans (h.kp k Y h1 V),h.bw.trans (hb.mono h.bw.size),AB h.b0 hb,AB h.b1 hb⟩
theorem De.cell(h:De w W0 ra rb o0 o1 D K p s z){k j:Nat}{v:Value}(Y:k<W0.heap.size)(h1:k≠ra)(V:k≠rb)(hv:W0.cell? ⟨k,j,none⟩=some v):z.cell? ⟨k,j,none⟩=some v:=by have:=h.kp k Y h1 V;unfold World.cell? at hv ⊢;rw[this];exact hv
theorem dH(h:De w W0 ra rb o0 o1 D K p s z)(ha:ra<lo)(hb:rb<lo):∀t sz n v xs,t≠28->t≠32->W0.ownsRow lo t sz v n xs->z.ownsRow lo t sz v n xs:=by
 intro t sz n v xs _ _ ⟨h3,h4⟩;refine⟨h3,?_⟩
 rcases h4 with h4|⟨q,cap,cur,rfl,hq,hh,hr⟩
 .exact .inl h4
 .exact .inr ⟨q,cap,cur,rfl,hq,(h.kp q (AW hh) (by omega) (by omega)).trans hh,hr⟩
end
theorem XJ{w:World}{q:Nat}{v0 v1 v2 v3 v4 v5:Value}:w.grownBy ((((((w.setCell ⟨q,0,none⟩ v0).setCell ⟨q,1,none⟩ v1).setCell ⟨q,2,none⟩ v2).setCell ⟨q,3,none⟩ v3).setCell ⟨q,4,none⟩ v4).setCell ⟨q,5,none⟩ v5) (some q):=
 AP (AP (AP (AP (AP (Ak _ q 0 v0) (Ak _ q 1 v1)) (Ak _ q 2 v2)) (Ak _ q 3 v3)) (Ak _ q 4 v4)) (Ak _ q 5 v5)
theorem aF{w:World}{q:Nat}{a0 a1 a2 a3 a4 a5 v0 v1 v2 v3 v4 v5:Value}{T:TypeId}(h:w.heap[q]?=some (.cells #[a0,a1,a2,a3,a4,a5] T (0,0))):
 ((((((w.setCell ⟨q,0,none⟩ v0).setCell ⟨q,1,none⟩ v1).setCell ⟨q,2,none⟩ v2).setCell ⟨q,3,none⟩ v3).setCell ⟨q,4,none⟩ v4).setCell ⟨q,5,none⟩ v5).heap[q]?=some (.cells #[v0,v1,v2,v3,v4,v5] T (0,0)):=by
 have h5:=yF _ q 5 _ _ v5 (yF _ q 4 _ _ v4 (yF _ q 3 _ _ v3 (yF _ q 2 _ _ v2 (yF _ q 1 _ _ v1 (yF w q 0 _ _ v0 h)))));simpa using h5
def aU(w:World)(r:Ending)(w':World):Prop:=∃m i e c s l q P x,r=.returned (.tuple #[AQ m i e c s l q P.Il P.UQ,.agg (AU.cs x)])/\KR w' m i e c s l q P/\Pe P/\(x.nm.size<=8/\x.c<=1000000)/\Below w.heap.size w w'
def dS(w:World)(lo b cb:Nat)(m i e c s l q:Value)(P:AR)(W:World):Prop:=∃x:AU,(x.nm.size<=8/\x.c<=1000000)/\OH lo W m i e c s l q P/\
 W.heap[w.heap.size]?=some (.cells #[.slice none 0 0,.slice none 0 0,.slice none 0 0,.slice none 0 0,.slice none 0 0,.slice none 0 0,.slice none 0 0,.int .i64 0,.int .i64 0] 32 (0,0))/\
 W.heap[w.heap.size+1]?=some (.cells #[.int .i64 0,.int .i64 0,.int .i64 0,.int .i64 0,.int .i64 0,.string ⟨#[]⟩] 34 (0,0))/\
 W.heap[b]?=some (.cells #[m,i,e,c,s,l,q,.int .i64 P.Il,.int .i64 P.UQ] 32 (0,0))/\W.heap[cb]?=some (.cells #[.int .i64 x.k,.int .i64 x.e,.int .i64 x.a,.int .i64 x.b,.int .i64 x.c,.string x.nm] 34 (0,0))/\Below w.heap.size w W
theorem dS.of{w O W:World}{lo b cb g:Nat}{m i e c s l q:Value}{P:AR}(S:OH lo O m i e c s l q P)
 (qc:O.heap[w.heap.size]?=some (.cells #[.slice none 0 0,.slice none 0 0,.slice none 0 0,.slice none 0 0,.slice none 0 0,.slice none 0 0,.slice none 0 0,.int .i64 0,.int .i64 0] 32 (0,0)))
 (C:O.heap[w.heap.size+1]?=some (.cells #[.int .i64 0,.int .i64 0,.int .i64 0,.int .i64 0,.int .i64 0,.string ⟨#[]⟩] 34 (0,0)))
 (g3:O.heap[b]?=some (.cells #[m,i,e,c,s,l,q,.int .i64 P.Il,.int .i64 P.UQ] 32 (0,0)))(B:Below w.heap.size w O)(h1:w.heap.size+1<g)(V:g<b)(h3:g<lo)
 {x:AU}(hx:x.nm.size<=8/\x.c<=1000000)(G:O.grownBy W (some g))(X6:W.heap[cb]?=some (.cells #[.int .i64 x.k,.int .i64 x.e,.int .i64 x.a,.int .i64 x.b,.int .i64 x.c,.string x.nm] 34 (0,0))):dS w lo b cb m i e c s l q P W:=
 ⟨x,hx,S.map (GU G h3 (yG _)),(G.block _ (AW qc) (by simp;omega)).trans qc,(G.block _ (AW C) (by simp;omega)).trans C,(G.block _ (AW g3) (by simp;omega)).trans g3,X6,AM B G (by omega) B.size⟩
theorem Jm(v:Value)(bs:List Int)(w:World)(h:GT w v bs):
 Calls prog 5 #[v] w (aU w):=by
 obtain⟨B0,BC,bA,cd⟩:=LJ w (.cells #[.slice none 0 0,.slice none 0 0,.slice none 0 0,.slice none 0 0,.slice none 0 0,.slice none 0 0,.slice none 0 0,.int .i64 0,.int .i64 0] 32) (.cells #[.int .i64 0,.int .i64 0,.int .i64 0,.int .i64 0,.int .i64 0,.string ⟨#[]⟩] 34);have hA:GT ((w.alloc _).alloc _) v bs:=⟨h.1.below bA,h.2⟩;go_in;go_wp2_with fail;generalize(w.alloc _).alloc _=wa at*;refine(Wh _ bs _ hA).mono ?_;rintro e w1 ⟨ab,rfl,hR,ae⟩;obtain⟨g,rfl,hD⟩:=Dr.of hR ae;have ci:wa.heap.size<=g:=hD.2.2.1;have aq:=hD.lt;have cc:=ae.size;go_wp2_with fail;refine(Wj hD (by decide)).mono ?_;rintro e w2 ⟨v2,rfl,⟨m,i,e2,v,s,l,q,P,rfl,S2,hP⟩,V,g2⟩;obtain⟨⟨⟨ma,mn,mc,rfl⟩,⟨ia,iN,ic,rfl⟩,⟨ea,en,ec,rfl⟩,⟨va,vn,vc,rfl⟩⟩,⟨sa,sn,sc,rfl⟩,⟨la,ln,lc,rfl⟩,⟨qa,qn,Z,rfl⟩⟩:=S2.Ex;unfold AQ;have ca:=g2.size;have Z2:=(g2.block w.heap.size (by omega) (by simp;omega)).trans (AB B0 ae);have C2:=(g2.block (w.heap.size+1) (by omega) (by simp;omega)).trans (AB BC ae);have ax:=AM (bA.trans (ae.mono bA.size)) g2 (by omega) (by omega);obtain⟨NK,bK⟩:=EH w2 (.cells #[.slice ma mn mc,.slice ia iN ic,.slice ea en ec,.slice va vn vc,.slice sa sn sc,.slice la ln lc,.slice qa qn Z,.int .i64 P.Il,.int .i64 P.UQ] 32);have h3:=V.below bK;have S3:=S2.map (Kj bK (yG _));have Z3:=AB Z2 bK;have C3:=AB C2 bK;have av:=ax.trans (bK.mono ax.size);have bm:g<w2.heap.size:=by omega
 obtain⟨D,K,c2,c3,c4,c5,c6,c7,c8⟩:=AD NK;have ce:w.heap.size+1<w2.heap.size:=by omega
 have bf:w.heap.size+1<w1.heap.size:=by omega
 clear S2 V Z2 C2 ax bK hR hD hA B0 BC h bA g2 ae;go_wp2_with fail;generalize w2.alloc _=w3 at*;generalize w2.heap.size=b at*;refine(Nc _ _ _ _ P.Vw.Xy h3 (by decide) (λw' hg=>(S3.map (GU hg aq (yG _))).rd.1.2.1) (show V6 P.Vw from hP).2).mono ?_;rintro e O ⟨_,rfl,⟨x,rfl,hx⟩,h4,g4⟩;have ar:=AW NK;have S4:=S3.map (GU g4 aq (yG _));have Z4:=(g4.block _ (AW Z3) (by simp;omega)).trans Z3;have C4:=(g4.block _ (AW C3) (by simp;omega)).trans C3;have N4:=(g4.block _ ar (by simp;omega)).trans NK;have a6:=AM av g4 (by omega) av.size;have ai:x.nm.size<=8/\x.c<=1000000:=⟨hx.1.1,hx.1.2.2.2⟩;clear S3 Z3 C3 NK av h3 g4 D K c2 c3 c4 c5 c6 c7 c8;dsimp only[AU.cs];obtain⟨X4,bX⟩:=EH O (.cells #[.int .i64 x.k,.int .i64 x.e,.int .i64 x.a,.int .i64 x.b,.int .i64 x.c,.string x.nm] 34);have h5:=h4.below bX;have G5:=Aa bX (some g);have ck:b<O.heap.size:=AW N4;have FT:=AA (λx hx W G X6=>dS.of (w:=w) (cb:=O.heap.size) S4 Z4 C4 N4 a6 (by omega:w.heap.size+1<g) bm aq (x:=x) (W:=W) hx G X6);clear S4 Z4 C4 N4 a6 h4 bX;go_wp2_with fail;generalize O.alloc _=w5 at*;generalize hce:O.heap.size=cb at*;refine(h5.pick 16).mono ?_;rintro e w6 ⟨y,rfl,y0,y1,h6,g6⟩;have X:=(g6.block _ (AW X4) (by simp;omega)).trans X4;have G6:=AP G5 g6;clear X4 h5 g6 G5;go_upto_if 17 with fail;go_cut [] (λW=>dS w w1.heap.size b cb (.slice ma mn mc) (.slice ia iN ic) (.slice ea en ec) (.slice va vn vc) (.slice sa sn sc) (.slice la ln lc) (.slice qa qn Z) P W)
 case rest=>
  clear X G6 FT h6 ai hx;obtain⟨x,ai,S8,Z8,C8,N8,X8,az⟩:=hcut;have ay:De w wc w.heap.size (w.heap.size+1) (.cells #[.slice none 0 0,.slice none 0 0,.slice none 0 0,.slice none 0 0,.slice none 0 0,.slice none 0 0,.slice none 0 0,.int .i64 0,.int .i64 0] 32 (0,0)) (.cells #[.slice ma mn mc,.slice ia iN ic,.slice ea en ec,.slice va vn vc,.slice sa sn sc,.slice la ln lc,.slice qa qn Z,.int .i64 P.Il,.int .i64 P.UQ] 32 (0,0)) (.cells #[.int .i64 0,.int .i64 0,.int .i64 0,.int .i64 0,.int .i64 0,.string ⟨#[]⟩] 34 (0,0)) (.cells #[.int .i64 x.k,.int .i64 x.e,.int .i64 x.a,.int .i64 x.b,.int .i64 x.c,.string x.nm] 34 (0,0)) false false wc:=⟨yG _,λ_ _ _ _=>rfl,az,Z8,C8⟩;obtain⟨D,K,c2,c3,c4,c5,c6,c7,c8⟩:=AD N8;obtain⟨k0,k1,k2,k3,k4,k5⟩:=Dd X8;have R:=AW N8;have ad:=AW X8;go_wp2_with fail;refine Dn 4 26 (λix=>ix==2||ix==3) [.a #[.slice ma mn mc,.slice ia iN ic,.slice ea en ec,.slice va vn vc,.slice sa sn sc,.slice la ln lc,.slice qa qn Z,.int .i64 P.Il,.int .i64 P.UQ],.a #[.int .i64 x.k,.int .i64 x.e,.int .i64 x.a,.int .i64 x.b,.int .i64 x.c,.string x.nm],.z,.z] (λL ix vv z=>match ix with
   |_=>True) (λL z=>De w wc w.heap.size (w.heap.size+1) (.cells #[.slice none 0 0,.slice none 0 0,.slice none 0 0,.slice none 0 0,.slice none 0 0,.slice none 0 0,.slice none 0 0,.int .i64 0,.int .i64 0] 32 (0,0)) (.cells #[.slice ma mn mc,.slice ia iN ic,.slice ea en ec,.slice va vn vc,.slice sa sn sc,.slice la ln lc,.slice qa qn Z,.int .i64 P.Il,.int .i64 P.UQ] 32 (0,0)) (.cells #[.int .i64 0,.int .i64 0,.int .i64 0,.int .i64 0,.int .i64 0,.string ⟨#[]⟩] 34 (0,0)) (.cells #[.int .i64 x.k,.int .i64 x.e,.int .i64 x.a,.int .i64 x.b,.int .i64 x.c,.string x.nm] 34 (0,0)) (L 2) (L 3) z) ?_ ?_ ?_ ?_ ?_ ?_
  .exact ay.below (A0 (Below.refl _ _) 1)
  .exact λ_ _ _ _ _ _ _ _ _ _ _ _ h=>h
  .intro L i wz bp hi hS cl bn hg
   show De _ _ _ _ _ _ _ _ (Gn L i 2) (Gn L i 3) _
   rw[Fn (by rintro rfl;cases hS),Fn (by rintro rfl;cases hS)];exact hg.below bn
  .intro i hi hS o ho a H Hb L Hd J A c1 HK
   match i,hi,hS with
   |0,_,_=>have u2:=Bb J 2;have u3:=Bb J 3;have bY:=(show H.cell? ⟨b,0,none⟩=some (.slice ma mn mc) from A.cell R (by omega) (by omega) D);have bO:=(show H.cell? ⟨b,1,none⟩=some (.slice ia iN ic) from A.cell R (by omega) (by omega) K);have bN:=(show H.cell? ⟨b,2,none⟩=some (.slice ea en ec) from A.cell R (by omega) (by omega) c2);have bC:=(show H.cell? ⟨b,3,none⟩=some (.slice va vn vc) from A.cell R (by omega) (by omega) c3);have bB:=(show H.cell? ⟨b,4,none⟩=some (.slice sa sn sc) from A.cell R (by omega) (by omega) c4);have bx:=(show H.cell? ⟨b,5,none⟩=some (.slice la ln lc) from A.cell R (by omega) (by omega) c5);have bu:=(show H.cell? ⟨b,6,none⟩=some (.slice qa qn Z) from A.cell R (by omega) (by omega) c6);have bt:=(show H.cell? ⟨b,7,none⟩=some (.int .i64 P.Il) from A.cell R (by omega) (by omega) c7);have br:=(show H.cell? ⟨b,8,none⟩=some (.int .i64 P.UQ) from A.cell R (by omega) (by omega) c8);exact LY ho HK Hb Hd J (hl:=Wl ‹_› ‹_› ‹_› ‹_› ‹_› ‹_› ‹_› ‹_› ‹_›)
   |1,_,_=>have u3:=Bb J 3;have bq:=(show H.cell? ⟨cb,0,none⟩=some (.int .i64 x.k) from A.cell ad (by omega) (by omega) k0);have be:=(show H.cell? ⟨cb,1,none⟩=some (.int .i64 x.e) from A.cell ad (by omega) (by omega) k1);have bb:=(show H.cell? ⟨cb,2,none⟩=some (.int .i64 x.a) from A.cell ad (by omega) (by omega) k2);have a9:=(show H.cell? ⟨cb,3,none⟩=some (.int .i64 x.b) from A.cell ad (by omega) (by omega) k3);have a8:=(show H.cell? ⟨cb,4,none⟩=some (.int .i64 x.c) from A.cell ad (by omega) (by omega) k4);have a7:=(show H.cell? ⟨cb,5,none⟩=some (.string x.nm) from A.cell ad (by omega) (by omega) k5);exact LY ho HK Hb Hd J (hl:=dI ‹_› ‹_› ‹_› ‹_› ‹_› ‹_›)
   |2,_,hs|3,_,hs=>cases hs
  .intro i hi hS o ho a H Hb L Hd J A c1 HK
   match i,hi,hS with
   |0,_,hs|1,_,hs=>cases hs
   |2,_,_=>
    obtain rfl:=yQ ho;have e2:a.tmps[2]?.getD undef=.pointer (some ⟨w.heap.size,0,none⟩):=eg (PV Hb 2);have d0:(a.tmps[24]?.getD undef)=.agg #[.slice ma mn mc,.slice ia iN ic,.slice ea en ec,.slice va vn vc,.slice sa sn sc,.slice la ln lc,.slice qa qn Z,.int .i64 P.Il,.int .i64 P.UQ]:=Dc Hd J 0;have u3:=Bb J 3;clear Hd Hb;have hr:=A.b0;rw[J.out.1] at hr;obtain⟨z0,z1,z2,z3,z4,z5,z6,z7,z8⟩:=AD hr;have fq:=AK hr;have Hr:=AA hr;have N:=AA (F8 (w:=H) (g:=w.heap.size) (b0:=.slice ma mn mc) (b1:=.slice ia iN ic) (b2:=.slice ea en ec) (b3:=.slice va vn vc) (b4:=.slice sa sn sc) (b5:=.slice la ln lc) (b6:=.slice qa qn Z) (b7:=.int .i64 P.Il) (b8:=.int .i64 P.UQ));clear hr;refine yP ?_;go_simp;exact HK.out undef _ trivial ⟨yL A.sz N.out.size,λk Y h1 V=>(N.out.block k (yv Y A.sz) (by simp;omega)).trans (A.kp k Y h1 V),AM A.bw N.out (yG _) A.bw.size,by rw[GR];exact IP Hr.out,by rw[Fn (by decide)];exact(N.out.block _ (AW A.b1) (by simp)).trans A.b1⟩ (λj bk ao bi hu=>match j,ao with
     |0,_|1,_|2,_|3,_=>hu)
   |3,_,_=>
    obtain rfl:=yQ ho;have e3:a.tmps[3]?.getD undef=.pointer (some ⟨(w.heap.size+1),0,none⟩):=eg (PV Hb 3);have d1:(a.tmps[25]?.getD undef)=.agg #[.int .i64 x.k,.int .i64 x.e,.int .i64 x.a,.int .i64 x.b,.int .i64 x.c,.string x.nm]:=Dc Hd J 1;have u2:L 2=true:=J.out.2.1 2 (by kernel_rfl);clear Hd Hb;have hr:=A.b1;rw[J.out.1] at hr;obtain⟨z0,z1,z2,z3,z4,z5⟩:=Dd hr;have fq:=AK hr;have Hr:=AA hr;have N:=AA (XJ (w:=H) (q:=w.heap.size+1) (v0:=.int .i64 x.k) (v1:=.int .i64 x.e) (v2:=.int .i64 x.a) (v3:=.int .i64 x.b) (v4:=.int .i64 x.c) (v5:=.string x.nm));clear hr;refine yP ?_;go_simp;exact HK.out undef _ trivial ⟨yL A.sz N.out.size,λk Y h1 V=>(N.out.block k (yv Y A.sz) (by simp;omega)).trans (A.kp k Y h1 V),AM A.bw N.out (by omega) A.bw.size,by rw[Fn (by decide)];exact(N.out.block _ (AW A.b0) (by simp)).trans A.b0,by rw[GR];exact aF Hr.out⟩ (λj bk ao bi hu=>match j,ao with
     |0,_|1,_|2,_|3,_=>hu)
  .intro vs H L ac hR A
   clear hR;simp only[DQ,Bk,List.range,List.range.loop,List.foldl_cons,List.foldl_nil];simp
   try generalize vs 0=z0
   try generalize vs 1=z1
   try generalize vs 2=z2
   try generalize vs 3=z3
   have am:=A.b0;have al:=A.b1;rw[show L 2=true from ac 2 (by decide)] at am;rw[show L 3=true from ac 3 (by decide)] at al;have S9:=AA (OH.map (w':=H) S8 (dH A (by omega) bf));have HB:=AA A.bw;have H0:=AA am;have H1:=AA al;clear am al A S8 Z8 C8 N8 X8 az D K c2 c3 c4 c5 c6 c7 c8 k0 k1 k2 k3 k4 k5 ay ac;go_wp2_with fail;obtain⟨E0,E1,E2,E3,E4,E5,E6,E7,E8⟩:=AD H0.out;obtain⟨F0,F1,F2,F3,F4,F5⟩:=Dd H1.out;exact bodyPost_ret (v:=.tuple #[.agg #[_,_,_,_,_,_,_,_,_],.agg #[_,_,_,_,_,_]]) (by simp[results,Tryz.results5,go_sem,E0,E1,E2,E3,E4,E5,E6,E7,E8,F0,F1,F2,F3,F4,F5]) rfl ⟨_,_,_,_,_,_,_,P,x,rfl,S9.out.rd,hP,ai,HB.out⟩
 case first=>
  by_cases hy:y=0
  .subst hy
   have bl:g<w6.heap.size:=by have:=AW X;omega
   have O6:AG w6.heap.size (w6.alloc (.cells #[.int .i64 (-1),.int .i64 0,.int .i64 3] 3)) (.slice (some ⟨w6.heap.size,0,none⟩) 3 3) [-1,0,3]:=Qp w6 3 1 3 [.int .i64 (-1),.int .i64 0,.int .i64 3] rfl (by decide);have bL:=AJ w6 (.cells #[.int .i64 (-1),.int .i64 0,.int .i64 3] 3);go_wp2_with fail;refine((h6.below bL).pick 3).mono ?_;rintro e w7 ⟨ww,rfl,z0,z1,h7,g7⟩;have z1:=z1 (by decide);obtain⟨a2,rfl⟩:=Int.eq_ofNat_of_zero_le z0;have O7:=Br O6 g7 (λb' e=>by cases e;exact bl);obtain⟨qb,Z,e1,cg,c0⟩:=Kd O7 (j:=a2) (by simp;omega);cases e1;generalize List.getD [-1,0,3] a2 0=E at c0;have X7:=(g7.block _ (AW (AB X bL)) (by simp;have:=AW X;omega)).trans (AB X bL);have fx:=AK X7;have G8:=Cj (AP G6 (AP (Aa bL (some g)) g7)) (Nat.le_of_eq hce) (.int .i64 E) (j:=1);have X8:=yF w7 cb 1 _ _ (.int .i64 E) X7;obtain⟨k0,k1,k2,k3,k4,k5⟩:=Dd X7;have au:=AA (FT.out ⟨x.k,E,x.a,x.b,x.c,x.nm⟩ ai _ G8 (by simpa using X8));have b9:(a2:Int)<3:=z1;clear X G6 FT h6 h7 X7 X8 G8 O6 O7 bL g7;go_wp2_with fail;go_meet;exact au.out
  .have t0:(y==0)=false:=by simp[hy]
   clear hy h6;have au:=AA (FT.out x ai _ G6 X);clear X G6 FT;go_wp2_with fail;go_meet;exact au.out
end Go.Proofs.YtaopbdankjkfpaaGreatDoor
