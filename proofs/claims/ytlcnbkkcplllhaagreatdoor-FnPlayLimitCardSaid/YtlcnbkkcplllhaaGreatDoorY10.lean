/-
  Packed:1 texts.
-/
import Derived.Test.YtlcnbkkcplllhaaGreatDoorY1
import Derived.Test.YtlcnbkkcplllhaaGreatDoorY8
import Derived.Test.YtlcnbkkcplllhaaGreatDoorY4
set_option linter.unusedVariables false
set_option linter.unusedSimpArgs false
set_option maxHeartbeats 16000000
set_option maxRecDepth 100000
open Go Go.Proofs.YtlcnbkkcplllhaaGreatDoor
open Go.RowKit.Below renaming refl->yN
open Go.World renaming drewN->uF
namespace Go.Proofs.YtlcnbkkcplllhaaGreatDoor
open Go.Proofs.Tryz
open Go.RowKit
def Xy(ss:List Ax):Bool:=ss.any λs=>s.k==3
variable{ss:List Ax}
theorem Zm{k:Nat}{s:Ax}(hc:ss[k]?=some s):Xy (ss.take (k+1))=(Xy (ss.take k)||s.k==3):=by rw[DA hc];simp[Xy]
theorem eJ (hc:Xy ss=false)(ho:DU ss=true):∀s∈ss,s.ok=true/\(s.k=1∨s.k=2):=by
 intro s hs;obtain⟨j,hj⟩:=List.getElem?_of_mem hs;have a9:=JO ho hj;refine⟨a9,?_⟩
 by_cases h1:s.k=1
 .exact .inl h1
 by_cases h2:s.k=2
 .exact .inr h2
 have h3:=(Sq a9 h1 h2).1;have:=List.any_eq_false.1 hc s hs;simp[h3] at this
theorem fnPlayLimit.walkR (v:Value)(bs:List Int)(w:World)(hc:Fn w v bs):
 Calls prog 5 #[v] w λe w'=>e=.returned (.bool true)/\Below w w w':=by
 obtain⟨ao,c,hv,h,c6,hA⟩:=hc.open;subst hv;unfold maxLen at c6
 by_cases hl:1048576<bs.length
 .have t0:(1048576:Int)<bs.length:=ω
  go_in;go_wp2;go_ret;exact⟨rfl,yN _ _⟩
 have t0:¬(1048576:Int)<bs.length:=ω;go_in;go_wp2_with fail;refine(OQ _ bs _ hc).mono ?_;rintro e w1 ⟨m1,i1,e1,c1,s1,l1,q1,P,v,ss,rfl,R1,⟨hs,_⟩,V1,er,ac,b1⟩;clear hA hc;obtain⟨⟨⟨bf,av,a3,rfl⟩,⟨bk,ay,a5,rfl⟩,⟨bl,az,a6,rfl⟩,⟨bm,a0,a7,rfl⟩⟩,⟨bb,ar,a1,rfl⟩,⟨bi,ax,a4,rfl⟩,⟨be,au,a2,rfl⟩⟩:=R1.shp;obtain⟨va,vc,rfl,en,em,_⟩:=V1.open;unfold AN;obtain⟨N1,bA⟩:=EU w1 (.cells #[.slice bf av a3,.slice bk ay a5,.slice bl az a6,.slice bm a0 a7,.slice bb ar a1,.slice bi ax a4,.slice be au a2,P.FU,P.VO] 32);have am:=b1.trans (bA.mono b1.size);have ai:=bA.trans (yN w1 _);obtain⟨T,hT⟩:∃T,T=Qg P ss:=⟨_,rfl⟩
 have CI:=fO _ _ _ _ _ _ _ _ P ss _ (R1.below bA) hs (Rd.below V1 bA) ac;have aq:=AA (λW (hW:Below w1 w1 W)=>by have:=gf _ _ _ _ _ _ _ _ P ss W (R1.below hW) hs (Rd.below V1 hW) ac;rw[<-hT] at this;exact this);rw[<-hT] at CI;unfold fX AN at CI;unfold gv AN at aq;have HT:=AA hT;have ei:=AA ac;have Hs:=AA hs;obtain⟨A,D,E,H,J,K,L,N,O⟩:=AC N1;clear hT ac hs;go_wp2_with fail;have a8:(w1.alloc (.cells #[.slice bf av a3,.slice bk ay a5,.slice bl az a6,.slice bm a0 a7,.slice bb ar a1,.slice bi ax a4,.slice be au a2,P.FU,P.VO] 32)).heap.size=w1.heap.size+1:=χ;generalize w1.alloc _=W1 at*;refine CI.mono ?_;rintro e w2 ⟨m2,i2,e2,c2,s2,l2,q2,o2,rfl,RI,OI,b2⟩;clear CI A D E H J K L N O;rw[a8] at OI;obtain⟨⟨⟨d2,bK,cq,rfl⟩,⟨d8,b4,cx,rfl⟩,⟨ec,ca,cC,rfl⟩,⟨ef,cd,cP,rfl⟩⟩,⟨c9,br,ci,rfl⟩,⟨d5,bX,cu,rfl⟩,⟨dr,bw,cm,rfl⟩⟩:=RI.shp;obtain⟨oa,oc,rfl,_⟩:=(AE.rd OI).open;obtain⟨N2,bB⟩:=EU w2 (.cells #[.slice d2 bK cq,.slice d8 b4 cx,.slice ec ca cC,.slice ef cd cP,.slice c9 br ci,.slice d5 bX cu,.slice dr bw cm,T.1.FU,T.1.VO] 32);have ae:=b2.trans (bB.mono b2.size);have ad:=ai.trans (ae.mono ai.size);have Q2:gQ _ _ T.1:=⟨_,_,_,_,_,_,_,N2,RI.below bB⟩;have M1:=AB N1 ae;have CS:=aq _ ad;obtain⟨A,D,E,H,J,K,L,N,O⟩:=AC M1;have O2:=AE.below OI bB;have al:=am.trans (ae.mono am.size);have cT:=b1.size;clear N1 N2 bB b2 ae RI OI aq bA am ai b1;go_wp2_with fail;generalize w2.alloc _=W2 at*;generalize w2.heap.size=gq at*;refine CS.mono ?_;rintro e w3 ⟨m3,i3,e3,c3,s3,l3,q3,o3,rfl,RW,OW,b3⟩;clear CS A D E H J K L N O;obtain⟨⟨⟨d1,bE,cp,rfl⟩,⟨d7,b0,cw,rfl⟩,⟨ea,b9,cz,rfl⟩,⟨ee,cc,cN,rfl⟩⟩,⟨c8,bq,cg,rfl⟩,⟨d4,bP,cs,rfl⟩,⟨dg,bu,cl,rfl⟩⟩:=RW.shp;obtain⟨ya,yc,rfl,_⟩:=OW.open;obtain⟨N3,bC⟩:=EU w3 (.cells #[.slice d1 bE cp,.slice d7 b0 cw,.slice ea b9 cz,.slice ee cc cN,.slice c8 bq cg,.slice d4 bP cs,.slice dg bu cl,T.1.FU,T.1.VO] 32);have ab:=b3.trans (bC.mono b3.size);have S:Lw w w1 gq w3 _ T _ _ _:=⟨AB M1 ab,Q2.below ab,⟨_,_,_,_,_,_,_,N3,RW.below bC⟩,O2.below ab,OW.below bC,al.trans (ab.mono al.size),ad.trans (ab.mono ad.size)⟩;clear M1 Q2 O2 OW RW N3 bC ab b3 al ad a8;have HA:=AA (show Mq w1 va ss from by obtain⟨_,_,e,_,_,hc⟩:=V1.open;cases e;exact hc);go_wp2_with fail;generalize w3.alloc _=W3 at*;generalize w3.heap.size=gw at*;go_loop [9,10] (λc i=>∃k:Nat,k<=ss.length/\i=.int .i64 k/\c=.bool (Xy (ss.take k))) (λ_ i=>ss.length - (intOf i).toNat)
 exact⟨0,Nat.zero_le _,rfl,rfl⟩
 obtain⟨k,hk,rfl,rfl⟩:=hrel
 by_cases c5:k<ss.length
 .obtain⟨x,hx⟩:∃x,ss[k]?=some x:=⟨_,List.getElem?_eq_getElem c5⟩
  obtain⟨b,el,rfl,D0,_⟩:=HA.nine S.k hx;have Nx:=AA (Zm hx);have c0:(k:Int)<(ss.length:Int):=ω;cases h:Xy (ss.take k)
  focus
   rw[h] at Nx
   have Hc:=AA h;clear hx h
  rotate_left
  focus
   rw[h] at Nx
   have Hc:=AA h;clear hx h D0
  rotate_left
  all_goals
   go_wp2;go_round
   case rel=>exact⟨k+1,ω,ξ,by rw[Nx.u];rfl⟩
   case measure=>simp[intOf];omega
 rw[List.take_of_length_le (ω:ss.length<=k)]
 cases h:Xy ss
 .have Hc:=AA h
  clear h;go_wp2_with fail;refine(Gd _ _ _ _ _ (AE.rd S.o) S.o').mono ?_;rintro e u1 ⟨rfl,Z,rfl⟩;rw[(χ:decide (T.2=T.2)=true)];replace S:=S.below (Ap (yN _ _) Z);generalize uF _ Z=u1 at*;obtain⟨p0,p1,p2,p3,p4,p5,p6,R,X⟩:=S.q;obtain⟨q0,q1,q2,q3,q4,q5,q6,V,Y⟩:=S.r;have z:=F8 _ _ _ _ _ _ _ _ _ _ _ _ _ _ T.1 _ X Y;unfold AN at z;obtain⟨A,D,E,H,J,K,L,N,O⟩:=AC R;obtain⟨y0,y1,y2,y3,y4,y5,y6,y7,y8⟩:=AC V;clear R V X Y;go_wp2_with fail;refine z.mono ?_;rintro e u2 ⟨rfl,b5⟩;replace S:=S.below b5;clear z A D E H J K L N O y0 y1 y2 y3 y4 y5 y6 y7 y8 b5;have CV:=EQ _ _ _ _ _ _ _ P _ (R1.below S.k) Hs.u;unfold AN at CV;obtain⟨A,D,E,H,J,K,L,N,O⟩:=AC S.p;go_wp2_with fail;refine CV.mono ?_;rintro e u3 ⟨rfl,b6⟩;replace S:=S.below b6;clear CV A D E H J K L N O b6;cases hp:BN P
  .clear hp
   go_wp2_with fail;refine(Gd _ _ _ _ _ (AE.rd S.o) S.o').mono ?_;rintro e u1 ⟨rfl,Z,rfl⟩;rw[(χ:decide (T.2=T.2)=true)];replace S:=S.below (Ap (yN _ _) Z);generalize uF _ Z=u1 at*;obtain⟨p0,p1,p2,p3,p4,p5,p6,R,X⟩:=S.q;obtain⟨q0,q1,q2,q3,q4,q5,q6,V,Y⟩:=S.r;have z:=F8 _ _ _ _ _ _ _ _ _ _ _ _ _ _ T.1 _ X Y;unfold AN at z;obtain⟨A,D,E,H,J,K,L,N,O⟩:=AC R;obtain⟨y0,y1,y2,y3,y4,y5,y6,y7,y8⟩:=AC V;clear R V X Y;go_wp2_with (refine z.mono ?_;rintro e u2 ⟨rfl,b5⟩;replace S:=S.below b5;clear z A D E H J K L N O y0 y1 y2 y3 y4 y5 y6 y7 y8 b5);go_ret;exact⟨rfl,S.b⟩
  have Hp:=AA hp;clear hp;go_wp2_with fail;refine(Jq _ ss _ (Rd.below V1 S.k)).mono ?_;rintro e u4 ⟨rfl,b7⟩;replace S:=S.below b7;clear b7;cases ho:DU ss
  .clear ho
   go_wp2_with fail;refine(Gd _ _ _ _ _ (AE.rd S.o) S.o').mono ?_;rintro e u1 ⟨rfl,Z,rfl⟩;rw[(χ:decide (T.2=T.2)=true)];replace S:=S.below (Ap (yN _ _) Z);generalize uF _ Z=u1 at*;obtain⟨p0,p1,p2,p3,p4,p5,p6,R,X⟩:=S.q;obtain⟨q0,q1,q2,q3,q4,q5,q6,V,Y⟩:=S.r;have z:=F8 _ _ _ _ _ _ _ _ _ _ _ _ _ _ T.1 _ X Y;unfold AN at z;obtain⟨A,D,E,H,J,K,L,N,O⟩:=AC R;obtain⟨y0,y1,y2,y3,y4,y5,y6,y7,y8⟩:=AC V;clear R V X Y;go_wp2_with (refine z.mono ?_;rintro e u2 ⟨rfl,b5⟩;replace S:=S.below b5;clear z A D E H J K L N O y0 y1 y2 y3 y4 y5 y6 y7 y8 b5);go_ret;exact⟨rfl,S.b⟩
  have Ho:=AA ho;clear ho;have hP:=Ct.1 Hp.u;obtain⟨U,hU⟩:∃U,U=Qg {P with VO:=6} ss:=⟨_,rfl⟩
  have HU:=AA (show U.2=T.2 by rw[hU,HT.u,Uw (Ct.2 hP.lim) Ho.u,Uw Hp Ho.u];exact Yn hP (eJ Hc Ho.u));have G5:=Ak u4 w1.heap.size 8 (.int .i64 6);have k5:=AM S.k G5 (Nat.le_refl _) S.k.size;have bn:=AA (AM S.b G5 cT S.b.size);have ej:=AA (AE.rd (Au S.o G5 (.inr λe=>by have:=(World.ownsRow.lt S.o _ e).1;omega)));have B5:=heap_setCell_same u4 w1.heap.size 8 _ _ (.int .i64 6) S.p;simp at B5;have CI:=fO _ _ _ _ _ _ _ _ {P with VO:=6} ss _ (R1.below k5) Hs (Rd.below V1 k5) ei.u;rw[<-hU] at CI;unfold fX AN at CI;obtain⟨A,D,E,H,J,K,L,N,O⟩:=AC S.p;obtain⟨y0,y1,y2,y3,y4,y5,y6,y7,y8⟩:=AC B5;have fz:=AI S.p;clear hU hP G5 k5 S B5 V1 R1;go_wp2_with fail;refine CI.mono ?_;rintro e w6 ⟨m4,i4,e4,c4,s4,l4,q4,o4,rfl,RX,OX,b6⟩;clear CI A D E H J K L N O y0 y1 y2 y3 y4 y5 y6 y7 y8 fz;obtain⟨⟨⟨d0,bx,cn,rfl⟩,⟨d6,bY,cv,rfl⟩,⟨d9,b8,cy,rfl⟩,⟨ed,cb,cF,rfl⟩⟩,⟨c7,bp,ce,rfl⟩,⟨d3,bL,cr,rfl⟩,⟨df,bt,ck,rfl⟩⟩:=RX.shp;obtain⟨za,zc,rfl,_⟩:=(AE.rd OX).open;have bD:=AJ w6 (.cells #[.slice d0 bx cn,.slice d6 bY cv,.slice d9 b8 cy,.slice ed cb cF,.slice c7 bp ce,.slice d3 bL cr,.slice df bt ck,U.1.FU,U.1.VO] 32);have SI:=Gd _ _ _ _ _ (AE.rd (OX.below bD)) ((ej.below b6).below bD);have ek:=AA (bn.trans ((b6.trans (bD.mono b6.size)).mono bn.size));clear OX RX bD;go_wp2_with (refine SI.mono ?_;rintro e w7 ⟨rfl,n7,rfl⟩;rw[show decide (U.2=T.2)=true by rw[HU.u];simp]);go_ret;exact⟨rfl,Ap ek _⟩
 clear h
 go_wp2_with fail;refine(Gd _ _ _ _ _ (AE.rd S.o) S.o').mono ?_;rintro e u1 ⟨rfl,Z,rfl⟩;rw[(χ:decide (T.2=T.2)=true)];replace S:=S.below (Ap (yN _ _) Z);generalize uF _ Z=u1 at*;obtain⟨p0,p1,p2,p3,p4,p5,p6,R,X⟩:=S.q;obtain⟨q0,q1,q2,q3,q4,q5,q6,V,Y⟩:=S.r;have z:=F8 _ _ _ _ _ _ _ _ _ _ _ _ _ _ T.1 _ X Y;unfold AN at z;obtain⟨A,D,E,H,J,K,L,N,O⟩:=AC R;obtain⟨y0,y1,y2,y3,y4,y5,y6,y7,y8⟩:=AC V;clear R V X Y;go_wp2_with fail;refine z.mono ?_;rintro e u2 ⟨rfl,b5⟩;replace S:=S.below b5;clear z A D E H J K L N O y0 y1 y2 y3 y4 y5 y6 y7 y8 b5;go_wp2_with fail;refine(Gd _ _ _ _ _ (AE.rd S.o) S.o').mono ?_;rintro e u1 ⟨rfl,Z,rfl⟩;rw[(χ:decide (T.2=T.2)=true)];replace S:=S.below (Ap (yN _ _) Z);generalize uF _ Z=u1 at*;obtain⟨p0,p1,p2,p3,p4,p5,p6,R,X⟩:=S.q;obtain⟨q0,q1,q2,q3,q4,q5,q6,V,Y⟩:=S.r;have z:=F8 _ _ _ _ _ _ _ _ _ _ _ _ _ _ T.1 _ X Y;unfold AN at z;obtain⟨A,D,E,H,J,K,L,N,O⟩:=AC R;obtain⟨y0,y1,y2,y3,y4,y5,y6,y7,y8⟩:=AC V;clear R V X Y;go_wp2_with (refine z.mono ?_;rintro e u2 ⟨rfl,b5⟩;replace S:=S.below b5;clear z A D E H J K L N O y0 y1 y2 y3 y4 y5 y6 y7 y8 b5);go_ret;exact⟨rfl,S.b⟩
end Go.Proofs.YtlcnbkkcplllhaaGreatDoor
