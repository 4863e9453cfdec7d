/-
  Packed:1 texts.
-/
import Derived.Test.YtpdjjjdkhedibaaGreatDoorY1
import Derived.Test.YtpdjjjdkhedibaaGreatDoorY5
set_option linter.unusedVariables false
set_option linter.unusedSimpArgs false
set_option maxHeartbeats 16000000
set_option maxRecDepth 100000
open Go Go.Proofs.YtpdjjjdkhedibaaGreatDoor
open Bool renaming and_eq_true_iff->wV
open Go.Proofs.Tryz renaming results23->rK,results24->uC,results25->rL
open Go.RowKit.Below renaming refl->yD
open Go renaming bodyPost_ret->yr
open Int renaming eq_ofNat_of_zero_le->xQ
open Nat renaming le_refl->yv,le_trans->yB,lt_of_lt_of_le->xW
namespace Go.Proofs.YtpdjjjdkhedibaaGreatDoor
open Go.Proofs.Tryz
open Go.RowKit
theorem RU(R X V O K Z D:Value)(P:AR)(a x:Int)(w:World)(h:Jy w R X V O K Z D P)(E:Dn P.zV)(ao:(BZ a 0 63&&BZ x 0 9999&&BI P)=false):
 Calls prog 24 #[AN R X V O K Z D P.zR P.zU,.int .i64 a,.int .i64 x] w λr w'=>TS r/\Below w.heap.size w w':=by
 unfold AN;obtain⟨B0,B1,ad,ai⟩:=Gw w (.cells #[R,X,V,O,K,Z,D,.int .i64 P.zR,.int .i64 P.zU] 32) (.cells #[.slice none 0 0,.slice none 0 0,.slice none 0 0,.slice none 0 0,.slice none 0 0,.slice none 0 0,.slice none 0 0,.int .i64 0,.int .i64 0] 32);have h0:=h.below ad;go_in;go_wp2_with fail;generalize(w.alloc _).alloc _=W0 at*;have ac:=AA ad;have al:=AA B1;refine(FJ _ _).mono ?_;rintro r w1 ⟨rfl,rfl⟩;cases hA:BZ a 0 63
 .clear h h0 ad B0 ai hA
  have N:=al.out;have Bw:=ac;clear B1 ac;have f1:=AK N;obtain⟨a0,a1,a2,a3,a4,a5,a6,a7,a8⟩:=AD N;have S2:=AA (EL N (Bw.out) (by omega));clear N;go_wp2_with fail;clear a0 a1 a2 a3 a4 a5 a6 a7 a8 f1;obtain⟨N2,B2⟩:=S2.out;unfold Dy at N2 B2;exact yr (v:=.tuple #[.agg #[_,_,_,_,_,_,_,_,_],_]) (by simp[results,uC,go_sem,AD N2]) rfl ⟨rfl,B2⟩
 cases hX:BZ x 0 9999
 focus
  have N:=al.out
  have Bw:=ac;clear h h0 ad B0 ai B1 ac;go_wp2_with fail;refine(IU _ _).mono ?_;rintro r w2 ⟨rfl,rfl⟩;rw[hX]
 rotate_left
 focus
  have hP:BI P=false:=by simpa[hA,hX] using ao
  have db:=AZ.1 hA;obtain⟨an,rfl⟩:∃an:Nat,a=(an:Int):=⟨a.toNat,by omega⟩
  obtain⟨j,hj⟩:∃j,j=an/4:=⟨_,rfl⟩
  have q1:(an:Int)/4=(j:Int):=by omega
  have CT:=AA (KI R X V O K Z D P (j:Int) W0 h0 E (by rw[hP];rfl));unfold AN at CT;obtain⟨x0,x1,x2,x3,x4,x5,x6,x7,x8⟩:=AD B0;have bq:=AA ai;clear h h0 ad B0 B1 hP hj hA ai;go_wp2_with fail;refine(IU _ _).mono ?_;rintro r w2 ⟨rfl,rfl⟩;rw[hX];go_wp2_with fail;refine CT.out.mono ?_;rintro r w1 ⟨rfl,b1⟩;unfold AN;have N0:=heap_alloc_new w1 (.cells #[.slice none 0 0,.slice none 0 0,.slice none 0 0,.slice none 0 0,.slice none 0 0,.slice none 0 0,.slice none 0 0,.int .i64 0,.int .i64 0] 32);have b2:=b1.trans ((AI w1 (.cells #[.slice none 0 0,.slice none 0 0,.slice none 0 0,.slice none 0 0,.slice none 0 0,.slice none 0 0,.slice none 0 0,.int .i64 0,.int .i64 0] 32)).mono b1.size);have N:=AB al.out b2;have Bw:=AA (ac.out.trans (b2.mono ac.out.size));clear b1 b2 x0 x1 x2 x3 x4 x5 x6 x7 x8 CT N0
 rotate_left
 all_goals
  have f1:=AK N;obtain⟨a0,a1,a2,a3,a4,a5,a6,a7,a8⟩:=AD N;have S2:=AA (EL N (Bw.out) (by omega));clear N;go_wp2_with fail;clear a0 a1 a2 a3 a4 a5 a6 a7 a8 f1;obtain⟨N2,B2⟩:=S2.out;unfold Dy at N2 B2;exact yr (v:=.tuple #[.agg #[_,_,_,_,_,_,_,_,_],_]) (by simp[results,uC,go_sem,AD N2]) rfl ⟨rfl,B2⟩
theorem Po(R X V O K Z D:Value)(P:AR)(w:World)(h:Jy w R X V O K Z D P)(hP:Du P){a:Nat}(ha:a<64){x:Int}(hx:Dk x=true):
 Calls prog 24 #[AN R X V O K Z D P.zR P.zU,.int .i64 a,.int .i64 x] w (Fx w (GR P a x)):=by
 unfold AN Fx;obtain⟨B0,B1,ad,ai⟩:=Gw w (.cells #[R,X,V,O,K,Z,D,.int .i64 P.zR,.int .i64 P.zU] 32) (.cells #[.slice none 0 0,.slice none 0 0,.slice none 0 0,.slice none 0 0,.slice none 0 0,.slice none 0 0,.slice none 0 0,.int .i64 0,.int .i64 0] 32);have h0:=h.below ad;obtain⟨j,hj⟩:∃j,j=a/4:=⟨_,rfl⟩
 have q1:(a:Int)/4=(j:Int):=by omega
 have hA:BZ (a:Int) 0 63=true:=AZ.2 (by omega);have ay:=Kf (p:=P) (n:=a/4) hP (by omega);have ax:=λ(h:(BN P (a/4)).2=false)=>Fn hP (by omega) h
 have bN:=OX hP ha hx;have az:=Lu (w:=x) hP ha;have ae:=λQ=>TF (p:=P) (a:=a) (x:=x) (Q:=Q)
 have CT:=λW (hW:Below ((w.alloc (.cells #[R,X,V,O,K,Z,D,.int .i64 P.zR,.int .i64 P.zU] 32)).alloc (.cells #[.slice none 0 0,.slice none 0 0,.slice none 0 0,.slice none 0 0,.slice none 0 0,.slice none 0 0,.slice none 0 0,.int .i64 0,.int .i64 0] 32)).heap.size ((w.alloc (.cells #[R,X,V,O,K,Z,D,.int .i64 P.zR,.int .i64 P.zU] 32)).alloc (.cells #[.slice none 0 0,.slice none 0 0,.slice none 0 0,.slice none 0 0,.slice none 0 0,.slice none 0 0,.slice none 0 0,.int .i64 0,.int .i64 0] 32)) W)=>Ji R X V O K Z D P W (h0.below hW) hP (n:=a/4) (by omega)
 rw[<-hj] at ay az ae CT ax;generalize BN P j=t at ay az ae CT ax;obtain⟨Q,bb⟩:=t;dsimp only at ay az ae CT ax;go_in;go_wp2_with fail;generalize(w.alloc _).alloc _=W0 at*;have bi:=AA (CT W0 (yD _ _));have cb:=AA ay;have bu:=AA az;have br:=AA ax;have ca:=AA bN;have am:=AA ae;unfold Fx at bi;simp only[AN] at bi;have ac:=AA ad;have al:=AA B1;have bq:=AA ai;have HP:=AA hP;obtain⟨x0,x1,x2,x3,x4,x5,x6,x7,x8⟩:=AD B0;have hX:BZ x 0 9999=true:=hx;clear h h0 ad B0 B1 hP ay az ae ax bN CT hj ai;refine(FJ _ _).mono ?_;rintro r w1 ⟨rfl,rfl⟩;rw[hA];go_wp2_with fail;refine(IU _ _).mono ?_;rintro r w2 ⟨rfl,rfl⟩;rw[hX];go_wp2_with fail;refine bi.out.mono ?_;rintro r w1 ⟨m1,i1,e1,c1,s1,l1,cP,rfl,O1,b1⟩;obtain⟨⟨⟨ma,mn,mc,rfl⟩,⟨ia,iN,ic,rfl⟩,⟨ea,en,ec,rfl⟩,⟨qa,qn,qc,rfl⟩⟩,⟨sa,sn,sc,rfl⟩,⟨la,ln,lc,rfl⟩,⟨pa,pn,pc,rfl⟩⟩:=O1.zQ;have I2:=Gi.start O1 b1.size;have b2:=b1.trans ((AI w1 (.cells #[.slice ma mn mc,.slice ia iN ic,.slice ea en ec,.slice qa qn qc,.slice sa sn sc,.slice la ln lc,.slice pa pn pc,.int .i64 Q.zR,.int .i64 Q.zU] 32)).mono b1.size);have cc:=AA I2;have b9:=AA b2;have B1:=AB al.out b2;have bx:=AA (ac.out.trans (b2.mono ac.out.size));clear O1 b1 x0 x1 x2 x3 x4 x5 x6 x7 x8 bi I2 b2;cases bb
 .have e:=bu.out rfl
  have E:=br.out rfl;have He:=AA e;clear e bu am br;subst E;have O5:=cc.out.own;have b5:=(λW:World=>yD W.heap.size W) (w1.alloc (.cells #[.slice ma mn mc,.slice ia iN ic,.slice ea en ec,.slice qa qn qc,.slice sa sn sc,.slice la ln lc,.slice pa pn pc,.int .i64 Q.zR,.int .i64 Q.zU] 32));have N5:=AB B1 b5;have S5:=Cp N5 O5;obtain⟨a0,a1,a2,a3,a4,a5,a6,a7,a8⟩:=AD N5;have f5:=AK N5;have bt:=AA S5;have a9:=AA b5;have bp:=AA (AW B1);clear O5 S5 N5 b5 B1;go_wp2_with fail;clear a0 a1 a2 a3 a4 a5 a6 a7 a8 f5;obtain⟨N6,O6,bn⟩:=bt.out;have B6:=AM (bx.out.trans (a9.out.mono (by have:=bx.out.size;have:=bp.out;omega))) bn (by omega) (by have:=bx.out.size;have:=a9.out.size;omega);have O7:=O6.lower (lo':=w.heap.size) (by have:=bq.out;omega);unfold Dy at N6 O7 B6;exact yr (v:=.tuple #[.agg #[.slice ma mn mc,.slice ia iN ic,.slice ea en ec,.slice qa qn qc,.slice sa sn sc,.slice la ln lc,.slice pa pn pc,.int .i64 Q.zR,.int .i64 Q.zU],.bool false]) (by simp[results,uC,go_sem,AD N6]) rfl (by rw[He.out];exact⟨_,_,_,_,_,_,_,rfl,O7,B6⟩)
 .have e:=am.out Q rfl
  have C3:=Je cc.out b9.out.size cb.out.k ⟨11,0,(a:Int),x,0,⟨#[]⟩⟩ (show(0:Int)<=0 by decide) (show(0:Int)<3 by decide) (Nat.zero_le _) (by unfold Ia;simp) (show(0:Int)<=9223372036854775807 by decide);unfold Xf at C3;rw[LY (t:=gA) ⟨by decide,by decide,by decide⟩,show(⟨11,0,(a:Int),x,0,gA⟩:Ac)=Ag 11 (a:Int) x 0 from rfl] at C3;have dc:=AA (FR (kind:=11) (a:=(a:Int)) (b:=x) (c:=0) cb.out.k);have ar:=ca.out;rw[e] at ar;have He:=AA e;have cN:=AA ar;have cd:=AA C3;clear C3 e am bu ca ar br;generalize Ae Q.zV (Ag 11 (a:Int) x 0)=res at*;go_wp2_with fail;generalize w1.heap.size=g2 at*;generalize w1.alloc _=W2 at*;refine cd.out.mono ?_;rintro r w3 ⟨rfl,⟨m3,i3,e3,c3,I3,_⟩,bD,cC⟩;have bY:=AA (b9.out.trans bD);obtain⟨x0,x1,x2,x3,x4,x5,x6,x7,x8⟩:=AD I3.yK;have ar:Du {Q with zV:=res.1}:=cN.out;have C5:=AA (NW _ _ _ _ _ _ _ {Q with zV:=res.1} w3 I3.own.rd ar);have B3:=AB al.out bY.out;have bk:=AA (ac.out.trans (bY.out.mono ac.out.size));clear bD cC cd I3 B1 ar;go_wp2_with fail;refine C5.out.mono ?_;rintro r w5 ⟨m5,i5,e5,c5,s5,l5,q5,rfl,O5,b5⟩;unfold AN;clear x0 x1 x2 x3 x4 x5 x6 x7 x8 C5;obtain⟨⟨⟨ma,mn,mc,rfl⟩,⟨ia,iN,ic,rfl⟩,⟨ea,en,ec,rfl⟩,⟨qa,qn,qc,rfl⟩⟩,⟨sa,sn,sc,rfl⟩,⟨la,ln,lc,rfl⟩,⟨pa,pn,pc,rfl⟩⟩:=O5.zQ;have N5:=AB B3 b5;have S5:=Cp N5 O5;obtain⟨a0,a1,a2,a3,a4,a5,a6,a7,a8⟩:=AD N5;have f5:=AK N5;have bt:=AA S5;have a9:=AA b5;have bp:=AA (AW B3);clear O5 S5 N5 b5 B3;go_wp2_with fail;clear a0 a1 a2 a3 a4 a5 a6 a7 a8 f5;obtain⟨N6,O6,bn⟩:=bt.out;have B6:=AM (bk.out.trans (a9.out.mono (by have:=bk.out.size;have:=bp.out;omega))) bn (by omega) (by have:=bk.out.size;have:=a9.out.size;omega);have O7:=O6.lower (lo':=w.heap.size) (by have:=bk.out.size;omega);unfold Dy at N6 O7 B6;exact yr (v:=.tuple #[.agg #[.slice ma mn mc,.slice ia iN ic,.slice ea en ec,.slice qa qn qc,.slice sa sn sc,.slice la ln lc,.slice pa pn pc,.int .i64 Q.zR,.int .i64 Q.zU],.bool true]) (by simp[results,uC,go_sem,AD N6]) rfl (by rw[He.out];exact⟨_,_,_,_,_,_,_,rfl,O7,B6⟩)
theorem Qm(R X V O K Z D:Value)(P:AR)(a x:Int)(w:World)(h:Jy w R X V O K Z D P)(E:Dn P.zV)(ao:(BZ a 0 63&&BZ x 0 9999&&BI P)=false):
 Calls prog 25 #[AN R X V O K Z D P.zR P.zU,.int .i64 a,.int .i64 x] w λr w'=>TS r/\Below w.heap.size w w':=by
 unfold AN TS AN;obtain⟨N0,N,ad,ai⟩:=Jz w (.cells #[R,X,V,O,K,Z,D,.int .i64 P.zR,.int .i64 P.zU] 32) (.cells #[.slice none 0 0,.slice none 0 0,.slice none 0 0,.slice none 0 0,.slice none 0 0,.slice none 0 0,.slice none 0 0,.int .i64 0,.int .i64 0] 32);have h0:=h.below ad;obtain⟨x0,x1,x2,x3,x4,x5,x6,x7,x8⟩:=AD N0;have bq:=AA ai;clear ai;go_in;go_wp2_with fail;generalize(w.alloc _).alloc _=W0 at*;have CV:=Ey R X V O K Z D P W0 h0 E;unfold AN at CV;have ac:=AA ad;have al:=AA N;generalize BI P=ok at*;clear h h0 ad N0 N x0 x1 x2 x3 x4 x5 x6 x7 x8;refine CV.mono ?_;rintro r w1 ⟨rfl,b1⟩;have Bw:=AA (ac.out.trans (b1.mono ac.out.size));clear CV;cases ok
 .clear ao
  have N:=AB al.out b1;have f1:=AK N;obtain⟨a0,a1,a2,a3,a4,a5,a6,a7,a8⟩:=AD N;have S2:=AA (EL N (Bw.out) (by omega));clear N;go_wp2_with fail;clear a0 a1 a2 a3 a4 a5 a6 a7 a8 f1;obtain⟨N2,B2⟩:=S2.out;unfold Dy at N2 B2;exact yr (v:=.tuple #[.agg #[_,_,_,_,_,_,_,_,_],_]) (by simp[results,rL,go_sem,AD N2]) rfl ⟨rfl,B2⟩
 .go_wp2_with fail
  refine(Gf _ _).mono ?_;rintro r w2 ⟨rfl,rfl⟩;cases hA:BZ a 0 63
  focus
   clear ao
  rotate_left
  focus
   have hx:BZ x 0 9999=false:=by simpa[hA] using ao
   go_wp2_with fail;refine(C8 _ _ _ _).mono ?_;rintro r w2 ⟨rfl,rfl⟩;rw[hx];clear ao hx
  rotate_left
  all_goals
   have N:=AB al.out b1;have f1:=AK N;obtain⟨a0,a1,a2,a3,a4,a5,a6,a7,a8⟩:=AD N;have S2:=AA (EL N (Bw.out) (by omega));clear N;go_wp2_with fail;clear a0 a1 a2 a3 a4 a5 a6 a7 a8 f1;obtain⟨N2,B2⟩:=S2.out;unfold Dy at N2 B2;exact yr (v:=.tuple #[.agg #[_,_,_,_,_,_,_,_,_],_]) (by simp[results,rL,go_sem,AD N2]) rfl ⟨rfl,B2⟩
def Gv(P:AR)(a x:Int):AR×Bool:=if(BZ a 0 63&&BZ x 0 9999&&BI P)=true then GR P a.toNat x else(Xa,false)
theorem Zr(R X V O K Z D:Value)(P:AR)(n x:Int)(w:World)(h:Jy w R X V O K Z D P)(E:Dn P.zV):
 Calls prog 24 #[AN R X V O K Z D P.zR P.zU,.int .i64 n,.int .i64 x] w (ap w (Gv P n x)):=by
 unfold Gv;cases hb:(BZ n 0 63&&BZ x 0 9999&&BI P)
 .exact(RU _ _ _ _ _ _ _ P n x w h E hb).mono λ_ w' ⟨h1,J⟩=>⟨_,_,_,_,_,_,_,h1,L3 w',J⟩
 .obtain⟨J,h1⟩:=wV.1 hb
  obtain⟨J,h5⟩:=wV.1 J;obtain⟨h3,h4⟩:=AZ.1 J;obtain⟨a,rfl⟩:=xQ h3;exact(Po _ _ _ _ _ _ _ P w h (Ca.1 h1) (a:=a) (by omega) h5).mono λ_ _ ⟨m,i,e,c,s,l,q,h1,J,h3⟩=>⟨m,i,e,c,s,l,q,h1,J.rd,h3⟩
theorem Zs(R X V O K Z D:Value)(P:AR)(n x:Int)(w:World)(h:Jy w R X V O K Z D P)(E:Dn P.zV):
 Calls prog 25 #[AN R X V O K Z D P.zR P.zU,.int .i64 n,.int .i64 x] w (ap w (Gv P n x)):=by
 unfold Gv;cases hb:(BZ n 0 63&&BZ x 0 9999&&BI P)
 .exact(Qm _ _ _ _ _ _ _ P n x w h E hb).mono λ_ w' ⟨h1,J⟩=>⟨_,_,_,_,_,_,_,h1,L3 w',J⟩
 .obtain⟨J,h1⟩:=wV.1 hb
  obtain⟨J,h5⟩:=wV.1 J;obtain⟨h3,h4⟩:=AZ.1 J;obtain⟨a,rfl⟩:=xQ h3;exact(JK _ _ _ _ _ _ _ P w h (Ca.1 h1) (a:=a) (by omega) h5).mono λ_ _ ⟨m,i,e,c,s,l,q,h1,J,h3⟩=>⟨m,i,e,c,s,l,q,h1,J.rd,h3⟩
theorem Qq{P:AR}{n x:Int}(h:(Gv P n x).2=true):Du P/\0<=n/\n<64/\Dk x=true/\Gv P n x=GR P n.toNat x:=by
 unfold Gv at h ⊢
 by_cases hb:(BZ n 0 63&&BZ x 0 9999&&BI P)=true
 .rw[if_pos hb]
  obtain⟨J,h1⟩:=wV.1 hb;obtain⟨J,h5⟩:=wV.1 J;obtain⟨h3,h4⟩:=AZ.1 J;exact⟨Ca.1 h1,h3,by omega,h5,rfl⟩
 .rw[if_neg hb] at h
  cases h
def Z8(w:World)(r:Ending)(w':World):Prop:=∃m i e c s l q P n x,r=.returned (.tuple #[AN m i e c s l q P.zR P.zU,.int .i64 n,.int .i64 x])/\Jy w' m i e c s l q P/\Oc P/\Below w.heap.size w w'
theorem Jf(v:Value)(bs:List Int)(w:World)(h:EP w v bs):
 Calls prog 23 #[v] w (Z8 w):=by
 obtain⟨B0,bA⟩:=Dd w (.cells #[.slice none 0 0,.slice none 0 0,.slice none 0 0,.slice none 0 0,.slice none 0 0,.slice none 0 0,.slice none 0 0,.int .i64 0,.int .i64 0] 32);have hA:EP (w.alloc _) v bs:=⟨h.1.below bA,h.2⟩;have cu:=AW B0;go_in;go_wp2_with fail;generalize w.alloc _=wa at*;refine(QH _ bs _ hA).mono ?_;rintro e w1 ⟨mv,rfl,hR,aq⟩;obtain⟨g,rfl,hD⟩:=Dr.of hR aq;have cz:wa.heap.size<=g:=hD.2.2.1;have bm:=hD.lt;go_wp2_with fail;refine(QI hD (by decide)).mono ?_;rintro e w2 ⟨v2,rfl,⟨m,i,e2,v,s,l,q,P,rfl,S2,hP⟩,J,g2⟩;obtain⟨⟨⟨ma,mn,mc,rfl⟩,⟨ia,iN,ic,rfl⟩,⟨ea,en,ec,rfl⟩,⟨va,vn,vc,rfl⟩⟩,⟨sa,sn,sc,rfl⟩,⟨la,ln,lc,rfl⟩,⟨qa,qn,qc,rfl⟩⟩:=S2.zQ;unfold AN;have Z2:=(g2.block w.heap.size (xW cu aq.size) (by simp;omega)).trans (AB B0 aq);have bB:=AM (bA.trans (aq.mono bA.size)) g2 (yB bA.size cz) (yB bA.size aq.size);obtain⟨NK,bK⟩:=Dd w2 (.cells #[.slice ma mn mc,.slice ia iN ic,.slice ea en ec,.slice va vn vc,.slice sa sn sc,.slice la ln lc,.slice qa qn qc,.int .i64 P.zR,.int .i64 P.zU] 32);have h3:=J.below bK;have S3:=S2.map (Jv bK (yv _));have Z3:=AB Z2 bK;have au:=bB.trans (bK.mono bB.size);have c9:g<w2.heap.size:=xW bm g2.size;clear S2 J Z2 bB bK hR hD hA B0 h bA g2 aq;go_wp2_with fail;generalize w2.alloc _=w3 at*;generalize w2.heap.size=b at*;refine(Lh h3 (by decide)).mono ?_;rintro e w5 ⟨_,rfl,⟨wx,rfl⟩,h5,g5⟩;replace S3:=S3.map (GD g5 bm (yv _));replace Z3:=(g5.block _ (AW Z3) (by simp;omega)).trans Z3;replace au:=AM au g5 (by omega) au.size;replace NK:=(g5.block _ (AW NK) (by simp;omega)).trans NK;clear h3 g5;go_wp2_with fail;refine(h5.pick 16).mono ?_;rintro e w4 ⟨x,rfl,x0,x1,h4,g4⟩;have S4:=S3.map (GD g4 bm (yv _));have Z4:=(g4.block _ (AW Z3) (by simp;omega)).trans Z3;have be:=AM au g4 (by omega) au.size;have N4:=(g4.block _ (AW NK) (by simp;omega)).trans NK;clear S3 Z3 au NK h5 g4;have cw:=AW Z4;obtain⟨c0,c1,c2,c3,c4,c5,c6,c7,c8⟩:=AD N4;have ab:=AW N4
 by_cases hx:x=0
 .subst hx
  have bC:Dq w wa w4 g (0+4300+2+1) w.heap.size (.cells #[.slice none 0 0,.slice none 0 0,.slice none 0 0,.slice none 0 0,.slice none 0 0,.slice none 0 0,.slice none 0 0,.int .i64 0,.int .i64 0] 32 (0,0)) (.cells #[.slice ma mn mc,.slice ia iN ic,.slice ea en ec,.slice va vn vc,.slice sa sn sc,.slice la ln lc,.slice qa qn qc,.int .i64 P.zR,.int .i64 P.zU] 32 (0,0)) false false w4:=⟨λ_=>h4,yv _,λ_ _ _ _=>rfl,be,Z4⟩;go_wp2_with fail;refine Co 10 28 (λix=>ix==4||ix==7) [.a #[.slice ma mn mc,.slice ia iN ic,.slice ea en ec,.slice va vn vc,.slice sa sn sc,.slice la ln lc,.slice qa qn qc,.int .i64 P.zR,.int .i64 P.zU],.i wx,.z,.p g 0,.z,.z,.z,.z,.i wx,.z] (λY ix vv ww=>match ix with
   |2=>R1 3 w4.heap.size vv ww
   |4=>Pk 3 vv
   |5=>R4 w4.heap.size vv ww
   |6|9=>∃x:Int,vv=.int .i64 x
   |_=>True) (λY ww=>Dq w wa w4 g (0+4300+2+1) w.heap.size (.cells #[.slice none 0 0,.slice none 0 0,.slice none 0 0,.slice none 0 0,.slice none 0 0,.slice none 0 0,.slice none 0 0,.int .i64 0,.int .i64 0] 32 (0,0)) (.cells #[.slice ma mn mc,.slice ia iN ic,.slice ea en ec,.slice va vn vc,.slice sa sn sc,.slice la ln lc,.slice qa qn qc,.int .i64 P.zR,.int .i64 P.zU] 32 (0,0)) (Y 4) (Y 7) ww) ?_ ?_ ?_ ?_ ?_ ?_
  .exact bC.below (Av (yD _ _) 1)
  .intro j hj Y i vv wz cg hi hS cF da bf hz
   match j,hj with
   |2,_=>exact(R1.past hz (AY bf (some 0)) (by omega))
   |4,_=>exact hz
   |5,_=>exact(R4.past hz (AY bf (some 0)) (by omega))
   |6,_|9,_|0,_|1,_|3,_|7,_|8,_=>exact hz
  .intro Y i wz cg hi hS cF bf hg
   show Dq _ _ _ _ _ _ _ _ (GU Y i 4) (GU Y i 7) _
   rw[EB (by rintro rfl;cases hS),EB (by rintro rfl;cases hS)];exact hg.below bf
  .intro i hi hS o ho a A Hb Y L H z sv HK
   match i,hi,hS with
   |0,_,_=>have u7:=A9 H 7;obtain⟨cs,cr,cq,cp,cn,cm,cl,ck,ci⟩:=AD ((z.kp b ab (by omega) (by omega)).trans N4);exact JM ho HK Hb L H (hl:=Tz ‹_› ‹_› ‹_› ‹_› ‹_› ‹_› ‹_› ‹_› ‹_›)
   |1,_,_|3,_,_|8,_,_=>exact Rb ho HK Hb L H
   |4,_,E|7,_,E=>cases E
   |2,_,_=>obtain rfl:=yF ho;clear L Hb;refine yE ?_;go_simp;exact HK.out _ _ ⟨[(-1),9999,10000],rfl,BU (QV A 3 1 3 [.int .i64 (-1),.int .i64 9999,.int .i64 10000] rfl (by decide)) z.sz⟩ (AI _ _)
   |5,_,_=>obtain rfl:=yF ho;have d2:R1 3 w4.heap.size (a.tmps[19]?.getD undef) A:=Cw L H 2;obtain⟨ys,yl,d2⟩:=d2;have d4:Pk 3 (a.tmps[21]?.getD undef):=Cw L H 4;obtain⟨x3,d4,p0,p1⟩:=d4;have u4:Y 4=true:=H.out.2.1 4 (by kernel_rfl);clear L Hb;obtain⟨a2,rfl⟩:=xQ p0;obtain⟨qb,qc,e1,cT,qv⟩:=Iu d2 (j:=a2) (by omega);have hq:=(World.ownsRow.lt d2 qb (by rw[e1];rfl)).1;rw[yl] at e1;replace d2:a.tmps[19]?.getD undef=.slice (some ⟨qb,0,none⟩) 3 qc:=e1;clear e1;refine yE ?_;go_simp;exact HK.out _ _ ⟨qb,_,_,rfl,hq,by simpa using qv⟩ (yD _ _)
   |6,_,_=>obtain rfl:=yF ho;have d5:R4 w4.heap.size (a.tmps[22]?.getD undef) A:=Cw L H 5;obtain⟨qb,qo,y4,d5,hq,D4⟩:=d5;clear L Hb;refine yE ?_;go_simp;exact HK.out _ _ ⟨_,rfl⟩ (yD _ _)
   |9,_,_=>
    obtain rfl:=yF ho;have d6:∃x:Int,(a.tmps[23]?.getD undef)=.int .i64 x:=Cw L H 6
    obtain⟨x5,d6⟩:=d6;have u4:Y 4=true:=H.out.2.1 4 (by kernel_rfl);have u7:Y 7=true:=H.out.2.1 7 (by kernel_rfl);clear L Hb;refine yE ?_;go_simp;exact HK.out _ _ ⟨_,rfl⟩ (yD _ _)
  .intro i hi hS o ho a A Hb Y L H z sv HK
   match i,hi,hS with
   |0,_,E|1,_,E|2,_,E|3,_,E|5,_,E|6,_,E|8,_,E|9,_,E=>cases E
   |4,_,_=>
    obtain rfl:=yF ho;have d3:(a.tmps[20]?.getD undef)=.pointer (some ⟨g,0,none⟩):=Cw L H 3;have u7:=A9 H 7;clear L Hb;refine yE ?_;go_simp;refine((z.dr H.out.1).pick 3).mono ?_;rintro e w_ ⟨x,rfl,x0,x1,h3,g3⟩;exact HK.out _ _ ⟨x,rfl,x0,x1 (by decide)⟩ ⟨λh=>absurd h (by simp[GU]),yB z.sz g3.size,λk hk h1 J=>(g3.block k (xW hk z.sz) (by simp;omega)).trans (z.kp k hk h1 J),AM z.bw g3 (by omega) z.bw.size,(g3.block _ (AW z.rb) (by simp;omega)).trans (by rw[EB (by decide)];exact z.rb)⟩ (λj cy bl cx hu=>match j,bl with
     |0,_|1,_|3,_|4,_|6,_|7,_|8,_|9,_=>hu
     |2,_=>R1.past hu g3 (by omega)
     |5,_=>R4.past hu g3 (by omega))
   |7,_,_=>
    obtain rfl:=yF ho;have e2:a.tmps[2]?.getD undef=.pointer (some ⟨w.heap.size,0,none⟩):=eg (PI Hb 2);have d0:(a.tmps[17]?.getD undef)=.agg _:=Cw L H 0;have u4:Y 4=true:=H.out.2.1 4 (by kernel_rfl);clear L Hb;have l3:=H.out.2.1 4 (by kernel_rfl);have hr:=z.rb;rw[H.out.1] at hr;obtain⟨z0,z1,z2,z3,z4,z5,z6,z7,z8⟩:=AD hr;have fq:=AK hr;have Hr:=AA hr;have g3:=AA (EY (w:=A) (g:=w.heap.size) (b0:=.slice ma mn mc) (b1:=.slice ia iN ic) (b2:=.slice ea en ec) (b3:=.slice va vn vc) (b4:=.slice sa sn sc) (b5:=.slice la ln lc) (b6:=.slice qa qn qc) (b7:=.int .i64 P.zR) (b8:=.int .i64 P.zU));clear hr;refine yE ?_;go_simp;exact HK.out undef _ trivial ⟨λh=>absurd h (by rw[EB (by decide),l3];decide),yB z.sz g3.out.size,λk hk h1 J=>(g3.out.block k (xW hk z.sz) (by simp;omega)).trans (z.kp k hk h1 J),AM z.bw g3.out (by omega) z.bw.size,by rw[FN];exact F5 Hr.out⟩ (λj cy bl cx hu=>match j,bl with
     |0,_|1,_|3,_|4,_|6,_|7,_|8,_|9,_=>hu
     |2,_=>R1.past hu g3.out (by omega)
     |5,_=>R4.past hu g3.out (by omega))
  .intro vs A Y av hR z
   have q8:(vs 8)=.int .i64 wx:=BS hR 8;have q9:∃x:Int,(vs 9)=.int .i64 x:=BS hR 9
   obtain⟨x7,q9⟩:=q9;clear hR;simp only[Cn,BQ,List.range,List.range.loop,List.foldl_cons,List.foldl_nil,q8,q9];simp
   clear q8 q9;have hr:=z.rb;rw[show Y 7=true from av 7 (by decide)] at hr;have S5:=AA (Nr.map (w':=A) S4 (bH z Z4 (by omega)));have HB:=AA z.bw;have Hr:=AA hr;clear hr z S4 Z4 be N4 c0 c1 c2 c3 c4 c5 c6 c7 c8 bC h4 av;go_wp2_with fail;exact yr (v:=.tuple #[.agg #[_,_,_,_,_,_,_,_,_],.int .i64 wx,.int .i64 x7]) (by simp[results,rK,go_sem,AD Hr.out]) rfl ⟨_,_,_,_,_,_,_,P,wx,x7,rfl,S5.out.rd,hP,HB.out⟩
 .have t0:(x==0)=false:=by simp[hx]
  clear hx;go_wp2_with fail;refine IL (s:=4) (U:=λix vv=>match ix with
   |3=>Pk 100 vv
   |6=>∃x:Int,vv=.int .i64 x
   |_=>True) 7 28 1 1 [3] [.a #[.slice ma mn mc,.slice ia iN ic,.slice ea en ec,.slice va vn vc,.slice sa sn sc,.slice la ln lc,.slice qa qn qc,.int .i64 P.zR,.int .i64 P.zU],.i wx,.p g 0,.z,.u,.i wx,.z] (λix vv ww=>match ix with
   |_=>True) (λww=>Dq w wa w4 g 0 w.heap.size (.cells #[.slice none 0 0,.slice none 0 0,.slice none 0 0,.slice none 0 0,.slice none 0 0,.slice none 0 0,.slice none 0 0,.int .i64 0,.int .i64 0] 32 (0,0)) (.cells #[.slice ma mn mc,.slice ia iN ic,.slice ea en ec,.slice va vn vc,.slice sa sn sc,.slice la ln lc,.slice qa qn qc,.int .i64 P.zR,.int .i64 P.zU] 32 (0,0)) true true ww) h4 ?_ ?_ ?_ ?_ ?_ (hst:=?_)
  .intro i hi hS o ho a A Hb Y L H hr sv HK
   match i,hi,hS with
   |0,_,_=>have hW:=hr (by kernel_rfl);obtain⟨cs,cr,cq,cp,cn,cm,cl,ck,ci⟩:=AD ((hW.block b ab (by simp;omega)).trans N4);exact JM ho HK Hb L H (hl:=Tz ‹_› ‹_› ‹_› ‹_› ‹_› ‹_› ‹_› ‹_› ‹_›)
   |1,_,_|2,_,_|5,_,_=>exact Rb ho HK Hb L H
   |3,_,E|4,_,E=>cases E
   |6,_,_=>obtain rfl:=yF ho;have d3:(Pk 100 (a.tmps[27]?.getD undef))/\(Y 4=false->True):=Cw L H 3;obtain⟨⟨x3,d3,p0,p1⟩,_⟩:=d3;have u4:Y 4=true:=H.out.2.1 4 (by kernel_rfl);clear L Hb;refine yE ?_;go_simp;exact HK.out _ _ ⟨⟨_,rfl⟩,λ_=>trivial⟩ (yD _ _)
  .intro i hi hS o ho a A Hb Y L H z sv HK
   match i,hi,hS with
   |3,_,_=>exact fK (m:=100) ho HK Hb L H z (by omega)
   |0,_,E|1,_,E|2,_,E|4,_,E|5,_,E|6,_,E=>cases E
  .intro o ho a A Hb Y L H hD hW sv HK
   obtain rfl:=yF ho;have e2:a.tmps[2]?.getD undef=.pointer (some ⟨w.heap.size,0,none⟩):=eg (PI Hb 2);have d0:(a.tmps[24]?.getD undef)=.agg _:=Cw L H 0;clear L Hb;have Z5:=(hW.block _ cw (by simp;omega)).trans Z4;obtain⟨z0,z1,z2,z3,z4,z5,z6,z7,z8⟩:=AD Z5;have fq:=AK Z5;have H5:=AA Z5;have g3:=AA (EY (w:=A) (g:=w.heap.size) (b0:=.slice ma mn mc) (b1:=.slice ia iN ic) (b2:=.slice ea en ec) (b3:=.slice va vn vc) (b4:=.slice sa sn sc) (b5:=.slice la ln lc) (b6:=.slice qa qn qc) (b7:=.int .i64 P.zR) (b8:=.int .i64 P.zU));have ce:=AA (AM be hW (by omega) be.size);have HW:=AA hW;clear Z5;refine yE ?_;go_simp;exact HK.out undef _ ⟨λh=>(by cases h),yB HW.out.size g3.out.size,λk hk h1 J=>(g3.out.block k (xW hk HW.out.size) (by simp;omega)).trans (HW.out.block k hk (by simp;omega)),AM ce.out g3.out (by omega) ce.out.size,F5 H5.out⟩
  .exact λ_ _ hb h=>h.below hb
  rotate_left
  .exact λ_ _ _ _ _ _ h=>h
  .intro vs A Y hR hA
   have q5:(vs 5)=.int .i64 wx:=BS hR 5;have q6:(∃x:Int,(vs 6)=.int .i64 x)/\(Y 4=false->True):=BS hR 6;obtain⟨⟨x7,q6⟩,_⟩:=q6;clear hR;simp only[Cn,BQ,List.range,List.range.loop,List.foldl_cons,List.foldl_nil,q5,q6];simp
   clear q5 q6;have hr:=hA.rb;rw[if_pos rfl] at hr;have S5:=AA (Nr.map (w':=A) S4 (bH hA Z4 (by omega)));have HB:=AA hA.bw;have Hr:=AA hr;clear hr hA S4 Z4 be N4 c0 c1 c2 c3 c4 c5 c6 c7 c8 h4;go_wp2_with fail;exact yr (v:=.tuple #[.agg #[_,_,_,_,_,_,_,_,_],.int .i64 wx,.int .i64 x7]) (by simp[results,rK,go_sem,AD Hr.out]) rfl ⟨_,_,_,_,_,_,_,P,wx,x7,rfl,S5.out.rd,hP,HB.out⟩
end Go.Proofs.YtpdjjjdkhedibaaGreatDoor
