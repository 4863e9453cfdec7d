/-
  Packed:1 texts.
-/
import Derived.Test.YtpdjjjdkhedibaaGreatDoorY1
import Derived.Test.YtpdjjjdkhedibaaGreatDoorY5
set_option linter.unusedVariables false
set_option linter.unusedSimpArgs false
set_option maxHeartbeats 16000000
set_option maxRecDepth 100000
open Go Go.Proofs.YtpdjjjdkhedibaaGreatDoor
namespace Go.Proofs.YtpdjjjdkhedibaaGreatDoor
open Go.Proofs.Tryz
open Go.RowKit
theorem TU(H D A z K E J:Value)(P:AR)(a:Int)(w:World)(h:Jy w H D A z K E J P)(hs:Dn P.zV)(bu:(BZ a 0 63&&BI P)=false):
 Calls prog 11 #[AN H D A z K E J P.zR P.zU,.int .i64 a] w λr w'=>Vn r/\Below w.heap.size w w':=by
 unfold AN;obtain⟨B0,L,X,ai⟩:=Gw w (.cells #[H,D,A,z,K,E,J,.int .i64 P.zR,.int .i64 P.zU] 32) (.cells #[.slice none 0 0,.slice none 0 0,.slice none 0 0,.slice none 0 0,.slice none 0 0,.slice none 0 0,.slice none 0 0,.int .i64 0,.int .i64 0] 32);have h0:=h.below X;go_in;go_wp2_with fail;generalize(w.alloc _).alloc _=W0 at*;have V:=AA X;have au:=AA L;refine(FJ _ _).mono ?_;rintro r w1 ⟨rfl,rfl⟩;cases hA:BZ a 0 63
 focus
  clear h h0 X B0 ai hA
  have N1:=au.out;have Bw:=V;clear L V
 rotate_left
 focus
  have N:BI P=false:=by simpa[hA] using bu
  have bB:=AZ.1 hA;obtain⟨an,rfl⟩:∃an:Nat,a=(an:Int):=⟨a.toNat,by omega⟩
  obtain⟨j,hj⟩:∃j,j=an/4:=⟨_,rfl⟩
  have q1:(an:Int)/4=(j:Int):=by omega
  have O:=AA (KI H D A z K E J P (j:Int) W0 h0 hs (by rw[N];rfl));unfold AN at O;obtain⟨x0,x1,x2,x3,x4,x5,x6,x7,x8⟩:=AD B0;have bn:=AA ai;clear h h0 X B0 L N hj hA ai;go_wp2_with fail;refine O.out.mono ?_;rintro r w1 ⟨rfl,b1⟩;unfold AN;have N0:=heap_alloc_new w1 (.cells #[.slice none 0 0,.slice none 0 0,.slice none 0 0,.slice none 0 0,.slice none 0 0,.slice none 0 0,.slice none 0 0,.int .i64 0,.int .i64 0] 32);have b2:=b1.trans ((AI w1 (.cells #[.slice none 0 0,.slice none 0 0,.slice none 0 0,.slice none 0 0,.slice none 0 0,.slice none 0 0,.slice none 0 0,.int .i64 0,.int .i64 0] 32)).mono b1.size);have N1:=AB au.out b2;have Bw:=AA (V.out.trans (b2.mono V.out.size));clear b1 b2 x0 x1 x2 x3 x4 x5 x6 x7 x8 O N0
 rotate_left
 all_goals
  have f1:=AK N1;obtain⟨a0,a1,a2,a3,a4,a5,a6,a7,a8⟩:=AD N1;have S2:=AA (EL N1 (Bw.out) (by omega));clear N1;go_wp2_with fail;clear a0 a1 a2 a3 a4 a5 a6 a7 a8 f1;obtain⟨N2,B2⟩:=S2.out;unfold Dy at N2 B2;exact bodyPost_ret (v:=.tuple #[.agg #[_,_,_,_,_,_,_,_,_],.int .i64 0,.bool false]) (by simp[results,Tryz.results11,go_sem,AD N2]) rfl ⟨rfl,B2⟩
theorem RT(H D A z K E J:Value)(P:AR)(w:World)(h:Jy w H D A z K E J P)(N:Du P){a:Nat}(ha:a<64):
 Calls prog 11 #[AN H D A z K E J P.zR P.zU,.int .i64 a] w (PP w (IN P a)):=by
 unfold AN PP;obtain⟨B0,L,X,ai⟩:=Gw w (.cells #[H,D,A,z,K,E,J,.int .i64 P.zR,.int .i64 P.zU] 32) (.cells #[.slice none 0 0,.slice none 0 0,.slice none 0 0,.slice none 0 0,.slice none 0 0,.slice none 0 0,.slice none 0 0,.int .i64 0,.int .i64 0] 32);have h0:=h.below X;obtain⟨j,hj⟩:∃j,j=a/4:=⟨_,rfl⟩
 have q1:(a:Int)/4=(j:Int):=by omega
 have hA:BZ (a:Int) 0 63=true:=AZ.2 (by omega);have ao:=Kf (p:=P) (n:=a/4) N (by omega);have am:=λ(h:(BN P (a/4)).2=false)=>Fn N (by omega) h
 have bl:=VK N ha;have aq:=NP N ha;have ab:=λQ=>VI (p:=P) (a:=a) (Q:=Q)
 have O:=λW (hW:Below ((w.alloc (.cells #[H,D,A,z,K,E,J,.int .i64 P.zR,.int .i64 P.zU] 32)).alloc (.cells #[.slice none 0 0,.slice none 0 0,.slice none 0 0,.slice none 0 0,.slice none 0 0,.slice none 0 0,.slice none 0 0,.int .i64 0,.int .i64 0] 32)).heap.size ((w.alloc (.cells #[H,D,A,z,K,E,J,.int .i64 P.zR,.int .i64 P.zU] 32)).alloc (.cells #[.slice none 0 0,.slice none 0 0,.slice none 0 0,.slice none 0 0,.slice none 0 0,.slice none 0 0,.slice none 0 0,.int .i64 0,.int .i64 0] 32)) W)=>Ji H D A z K E J P W (h0.below hW) N (n:=a/4) (by omega)
 rw[<-hj] at ao aq ab O am;generalize BN P j=t at ao aq ab O am;obtain⟨Q,bb⟩:=t;dsimp only at ao aq ab O am;go_in;go_wp2_with fail;generalize(w.alloc _).alloc _=W0 at*;have av:=AA (O W0 (Below.refl _ _));have br:=AA ao;have bf:=AA aq;have a9:=AA am;have bq:=AA bl;have ae:=AA ab;unfold Fx at av;simp only[AN] at av;have V:=AA X;have au:=AA L;have bn:=AA ai;have HP:=AA N;obtain⟨x0,x1,x2,x3,x4,x5,x6,x7,x8⟩:=AD B0;clear h h0 X B0 L N ao aq ab am bl O hj ai;refine(FJ _ _).mono ?_;rintro r w1 ⟨rfl,rfl⟩;rw[hA];go_wp2_with fail;refine av.out.mono ?_;rintro r w1 ⟨m1,i1,e1,c1,s1,l1,bA,rfl,O1,b1⟩;obtain⟨⟨⟨ma,mn,mc,rfl⟩,⟨ia,iN,ic,rfl⟩,⟨ea,en,ec,rfl⟩,⟨qa,qn,qc,rfl⟩⟩,⟨sa,sn,sc,rfl⟩,⟨la,ln,lc,rfl⟩,⟨pa,pn,pc,rfl⟩⟩:=O1.zQ;have I2:=Gi.start O1 b1.size;have b2:=b1.trans ((AI w1 (.cells #[.slice ma mn mc,.slice ia iN ic,.slice ea en ec,.slice qa qn qc,.slice sa sn sc,.slice la ln lc,.slice pa pn pc,.int .i64 Q.zR,.int .i64 Q.zU] 32)).mono b1.size);have bs:=AA I2;have bp:=AA b2;have L:=AB au.out b2;have bi:=AA (V.out.trans (b2.mono V.out.size));clear O1 b1 x0 x1 x2 x3 x4 x5 x6 x7 x8 av I2 b2;cases bb
 .have e:=bf.out rfl
  have hs:=a9.out rfl;have He:=AA e;clear e bf ae a9;subst hs;have O5:=bs.out.own;have b5:=(λW:World=>Below.refl W.heap.size W) (w1.alloc (.cells #[.slice ma mn mc,.slice ia iN ic,.slice ea en ec,.slice qa qn qc,.slice sa sn sc,.slice la ln lc,.slice pa pn pc,.int .i64 Q.zR,.int .i64 Q.zU] 32));have R:=AB L b5;have S5:=Cp R O5;obtain⟨a0,a1,a2,a3,a4,a5,a6,a7,a8⟩:=AD R;have f5:=AK R;have be:=AA S5;have ar:=AA b5;have az:=AA (AW L);clear O5 S5 R b5 L;go_wp2_with fail;clear a0 a1 a2 a3 a4 a5 a6 a7 a8 f5;obtain⟨N6,O6,ay⟩:=be.out;have B6:=AM (bi.out.trans (ar.out.mono (by have:=bi.out.size;have:=az.out;omega))) ay (by omega) (by have:=bi.out.size;have:=ar.out.size;omega);have O7:=O6.lower (lo':=w.heap.size) (by have:=bn.out;omega);unfold Dy at N6 O7 B6;exact bodyPost_ret (v:=.tuple #[.agg #[.slice ma mn mc,.slice ia iN ic,.slice ea en ec,.slice qa qn qc,.slice sa sn sc,.slice la ln lc,.slice pa pn pc,.int .i64 Q.zR,.int .i64 Q.zU],.int .i64 0,.bool false]) (by simp[results,Tryz.results11,go_sem,AD N6]) rfl (by rw[He.out];exact⟨_,_,_,_,_,_,_,rfl,O7,B6⟩)
 .have e:=ae.out Q rfl
  have C3:=Je bs.out bp.out.size br.out.k ⟨10,0,(a:Int),0,0,⟨#[]⟩⟩ (show(0:Int)<=0 by decide) (show(0:Int)<3 by decide) (Nat.zero_le _) (by unfold Ia;simp) (show(0:Int)<=9223372036854775807 by decide);unfold Xf at C3;rw[LY (t:=gA) ⟨by decide,by decide,by decide⟩,show(⟨10,0,(a:Int),0,0,gA⟩:Ac)=Ag 10 (a:Int) 0 0 from rfl] at C3;have bC:=AA (FR (kind:=10) (a:=(a:Int)) (b:=0) (c:=0) br.out.k);have al:=bq.out;rw[e] at al;have He:=AA e;have bx:=AA al;have bt:=AA C3;clear C3 e ae bf bq al a9;generalize Ae Q.zV (Ag 10 (a:Int) 0 0)=res at*;go_wp2_with fail;generalize w1.heap.size=g2 at*;generalize w1.alloc _=W2 at*;refine bt.out.mono ?_;rintro r w3 ⟨rfl,⟨m3,i3,e3,c3,I3,_⟩,bk,bw⟩;have bm:=AA (bp.out.trans bk);obtain⟨x0,x1,x2,x3,x4,x5,x6,x7,x8⟩:=AD I3.yK;have al:Du {Q with zV:=res.1}:=bx.out;have C5:=AA (NW _ _ _ _ _ _ _ {Q with zV:=res.1} w3 I3.own.rd al);have B3:=AB au.out bm.out;have ax:=AA (V.out.trans (bm.out.mono V.out.size));clear bk bw bt I3 L al;go_wp2_with fail;refine C5.out.mono ?_;rintro r w5 ⟨m5,i5,e5,c5,s5,l5,q5,rfl,O5,b5⟩;unfold AN;clear x0 x1 x2 x3 x4 x5 x6 x7 x8 C5;obtain⟨⟨⟨ma,mn,mc,rfl⟩,⟨ia,iN,ic,rfl⟩,⟨ea,en,ec,rfl⟩,⟨qa,qn,qc,rfl⟩⟩,⟨sa,sn,sc,rfl⟩,⟨la,ln,lc,rfl⟩,⟨pa,pn,pc,rfl⟩⟩:=O5.zQ;have R:=AB B3 b5;have S5:=Cp R O5;obtain⟨a0,a1,a2,a3,a4,a5,a6,a7,a8⟩:=AD R;have f5:=AK R;have be:=AA S5;have ar:=AA b5;have az:=AA (AW B3);clear O5 S5 R b5 B3;go_wp2_with fail;clear a0 a1 a2 a3 a4 a5 a6 a7 a8 f5;obtain⟨N6,O6,ay⟩:=be.out;have B6:=AM (ax.out.trans (ar.out.mono (by have:=ax.out.size;have:=az.out;omega))) ay (by omega) (by have:=ax.out.size;have:=ar.out.size;omega);have O7:=O6.lower (lo':=w.heap.size) (by have:=ax.out.size;omega);unfold Dy at N6 O7 B6;exact bodyPost_ret (v:=.tuple #[.agg #[.slice ma mn mc,.slice ia iN ic,.slice ea en ec,.slice qa qn qc,.slice sa sn sc,.slice la ln lc,.slice pa pn pc,.int .i64 Q.zR,.int .i64 Q.zU],.int .i64 res.2.1,.bool true]) (by simp[results,Tryz.results11,go_sem,AD N6]) rfl (by rw[He.out];exact⟨_,_,_,_,_,_,_,rfl,O7,B6⟩)
def Gg(P:AR)(a:Int):AR×Int×Bool:=if(BZ a 0 63&&BI P)=true then IN P a.toNat else(Xa,0,false)
def bS(w:World)(t:AR×Int×Bool)(r:Ending)(w':World):Prop:=∃m i e c s l q,r=.returned (.tuple #[AN m i e c s l q t.1.zR t.1.zU,.int .i64 t.2.1,.bool t.2.2])/\Jy w' m i e c s l q t.1/\Below w.heap.size w w'
theorem ZQ(H D A z K E J:Value)(P:AR)(n:Int)(w:World)(h:Jy w H D A z K E J P)(hs:Dn P.zV):
 Calls prog 11 #[AN H D A z K E J P.zR P.zU,.int .i64 n] w (bS w (Gg P n)):=by
 unfold Gg;cases hb:(BZ n 0 63&&BI P)
 .exact(TU _ _ _ _ _ _ _ P n w h hs hb).mono λ_ w' ⟨Y,Z⟩=>⟨_,_,_,_,_,_,_,Y,L3 w',Z⟩
 .obtain⟨Z,Y⟩:=Bool.and_eq_true_iff.1 hb
  obtain⟨h3,h4⟩:=AZ.1 Z;obtain⟨a,rfl⟩:=Int.eq_ofNat_of_zero_le h3;exact(RT _ _ _ _ _ _ _ P w h (Ca.1 Y) (a:=a) (by omega)).mono λ_ _ ⟨m,i,e,c,s,l,q,Y,Z,h3⟩=>⟨m,i,e,c,s,l,q,Y,Z.rd,h3⟩
theorem YC{P:AR}{n:Int}(h:(Gg P n).2.2=true):Du P/\0<=n/\n<64/\Gg P n=IN P n.toNat:=by
 unfold Gg at h ⊢
 by_cases hb:(BZ n 0 63&&BI P)=true
 .rw[if_pos hb]
  obtain⟨Z,Y⟩:=Bool.and_eq_true_iff.1 hb;obtain⟨h3,h4⟩:=AZ.1 Z;exact⟨Ca.1 Y,h3,by omega,rfl⟩
 .rw[if_neg hb] at h
  cases h
end Go.Proofs.YtpdjjjdkhedibaaGreatDoor
