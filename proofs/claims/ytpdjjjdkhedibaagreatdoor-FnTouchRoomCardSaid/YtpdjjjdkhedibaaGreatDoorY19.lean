/-
  Packed:1 texts.
-/
import Derived.Test.YtpdjjjdkhedibaaGreatDoorY1
import Derived.Test.YtpdjjjdkhedibaaGreatDoorY12
import Derived.Test.YtpdjjjdkhedibaaGreatDoorY15
import Derived.Test.YtpdjjjdkhedibaaGreatDoorY14
set_option linter.unusedVariables false
set_option linter.unusedSimpArgs false
set_option maxHeartbeats 16000000
set_option maxRecDepth 100000
open Go Go.Proofs.YtpdjjjdkhedibaaGreatDoor
namespace Go.Proofs.YtpdjjjdkhedibaaGreatDoor
open Go.Proofs.Tryz
open Go.RowKit
theorem U5{P:AR}{a:Nat}(hP:ED P)(ha:a<16):(Gj P (a:Int)).2=(decide (0<Ac P.zY 1)||decide (0<P.zV.zZ.countP (λx=>decide (x.k=0))))/\((Gj P (a:Int)).2=false->(Gj P (a:Int)).1=P):=by
 have e:Gj P (a:Int)=BV P a:=by unfold Gj;rw[if_pos (by rw[Dl.2 hP,Ab.2 ⟨by omega,by omega⟩];rfl),Int.toNat_natCast]
 rw[e];refine⟨?_,GG hP ha⟩;have h:=QY hP ha;rw[MO] at h;cases hb:(BV P a).2
 .obtain⟨h1,h2⟩:=h.1 hb
  simp[h1,h2]
 .rcases Nat.eq_zero_or_pos (Ac P.zY 1) with h1|h1
  .by_cases h2:P.zV.zZ.countP (λx:AU=>decide (x.k=0))=0
   .rw[h.2 ⟨h2,h1⟩] at hb;cases hb
   .have h3:0<P.zV.zZ.countP (λx:AU=>decide (x.k=0)):=Nat.pos_of_ne_zero h2
    simp only[decide_eq_true h3,Bool.or_true]
  .simp[h1]
theorem fnTouchRoom.walkR(v:Value)(bs:List Int)(w:World)(h:Ft w v bs):
 Calls prog 6 #[v] w λe w'=>e=.returned (.bool true)/\Below w.heap.size w w':=by
 obtain⟨ao,c,hv,hc,cP,hA⟩:=h.open;subst hv;unfold maxLen at cP
 by_cases hl:1048576<bs.length
 .have t0:(1048576:Int)<bs.length:=by omega
  go_in;go_wp2_with fail;go_ret;exact⟨rfl,Below.refl _ _⟩
 have t0:¬(1048576:Int)<bs.length:=by omega
 go_in;go_wp2_with fail;refine(GZ _ bs _ h).mono ?_;rintro e w1 ⟨m1,i1,e1,c1,s1,l1,q1,P,n,rfl,R1,hs,b1⟩;clear hA h;obtain⟨⟨⟨bi,am,ay,rfl⟩,⟨bl,ar,a0,rfl⟩,⟨bm,au,a1,rfl⟩,⟨bn,av,a2,rfl⟩⟩,⟨bf,al,ax,rfl⟩,⟨bk,aq,az,rfl⟩,⟨cx,bu,cg,rfl⟩⟩:=R1.shp;unfold AO;have N1:=heap_alloc_new w1 (.cells #[.slice bi am ay,.slice bl ar a0,.slice bm au a1,.slice bn av a2,.slice bf al ax,.slice bk aq az,.slice cx bu cg,.int .i64 P.zR,.int .i64 P.zU] 32);have bA:=AE w1 (.cells #[.slice bi am ay,.slice bl ar a0,.slice bm au a1,.slice bn av a2,.slice bf al ax,.slice bk aq az,.slice cx bu cg,.int .i64 P.zR,.int .i64 P.zU] 32);have R2:=R1.below bA;obtain⟨T,hT⟩:∃T,T=Gj P n:=⟨_,rfl⟩
 have CI:=WU _ _ _ _ _ _ _ P n _ R2 hs;rw[<-hT] at CI;unfold aE at CI;have HT:=AA hT;clear hT;have a7:=b1.trans (bA.mono b1.size);unfold AO at CI;obtain⟨x0,x1,x2,x3,x4,x5,x6,x7,x8⟩:=AD N1;go_wp2_with fail;generalize w1.alloc _=W1 at*;generalize w1.heap.size=gp at*;refine CI.mono ?_;rintro e w2 ⟨m2,i2,e2,c2,s2,l2,q2,rfl,RI,b2⟩;clear CI bA b1 R1;have RS:=R2.below b2;obtain⟨⟨⟨cz,bx,ci,rfl⟩,⟨cH,bY,cm,rfl⟩,⟨cJ,b9,co,rfl⟩,⟨cL,cb,cq,rfl⟩⟩,⟨cu,bq,cd,rfl⟩,⟨cF,bK,ck,rfl⟩,⟨cw,bt,cf,rfl⟩⟩:=RI.shp;have N2:=heap_alloc_new w2 (.cells #[.slice cz bx ci,.slice cH bY cm,.slice cJ b9 co,.slice cL cb cq,.slice cu bq cd,.slice cF bK ck,.slice cw bt cf,.int .i64 T.1.zR,.int .i64 T.1.zU] 32);have bB:=AE w2 (.cells #[.slice cz bx ci,.slice cH bY cm,.slice cJ b9 co,.slice cL cb cq,.slice cu bq cd,.slice cF bK ck,.slice cw bt cf,.int .i64 T.1.zR,.int .i64 T.1.zU] 32);have ad:=b2.trans (bB.mono b2.size);have M1:=AC N1 ad;have CS:=WV _ _ _ _ _ _ _ P n _ (RS.below bB) hs;unfold aE AO at CS;rw[<-HT.out] at CS;have cM:=RI.below bB;clear x0 x1 x2 x3 x4 x5 x6 x7 x8;obtain⟨x0,x1,x2,x3,x4,x5,x6,x7,x8⟩:=AD M1;go_wp2_with fail;generalize w2.alloc _=W2 at*;generalize w2.heap.size=gq at*;refine CS.mono ?_;rintro e w3 ⟨m3,i3,e3,c3,s3,l3,q3,rfl,RW,b3⟩;clear CS bB b2 RS RI;obtain⟨⟨⟨cy,bw,ch,rfl⟩,⟨cG,bN,cl,rfl⟩,⟨cI,b0,cn,rfl⟩,⟨cK,ca,cp,rfl⟩⟩,⟨ct,bp,cc,rfl⟩,⟨cC,bz,cj,rfl⟩,⟨cv,br,ce,rfl⟩⟩:=RW.shp;have N3:=heap_alloc_new w3 (.cells #[.slice cy bw ch,.slice cG bN cl,.slice cI b0 cn,.slice cK ca cp,.slice ct bp cc,.slice cC bz cj,.slice cv br ce,.int .i64 T.1.zR,.int .i64 T.1.zU] 32);have bC:=AE w3 (.cells #[.slice cy bw ch,.slice cG bN cl,.slice cI b0 cn,.slice cK ca cp,.slice ct bp cc,.slice cC bz cj,.slice cv br ce,.int .i64 T.1.zR,.int .i64 T.1.zU] 32);have ac:=b3.trans (bC.mono b3.size);have M2:=AC N2 ac;have M3:=AC M1 ac;have R3:=cM.below ac;have R4:=RW.below bC;have a6:=a7.trans ((ad.trans (ac.mono ad.size)).mono a7.size);have SM:=FB _ _ _ _ _ _ _ _ _ _ _ _ _ _ T.1 _ R3 R4;unfold AO at SM;have cN:=(R2.below ad).below ac;clear x0 x1 x2 x3 x4 x5 x6 x7 x8 N1 M1 N2 ad ac bC b3 a7 R2 cM RW;obtain⟨x0,x1,x2,x3,x4,x5,x6,x7,x8⟩:=AD M2;obtain⟨y0,y1,y2,y3,y4,y5,y6,y7,y8⟩:=AD N3;go_wp2_with fail;generalize w3.alloc _=W3 at*;generalize w3.heap.size=gw at*;refine SM.mono ?_;rintro e w4 ⟨rfl,b4⟩;have a5:=a6.trans (b4.mono a6.size);have R5:=R3.below b4;have R6:=R4.below b4;have N5:=AC M2 b4;have N6:=AC N3 b4;have R7:=cN.below b4;have N7:=AC M3 b4;clear cN M3;clear SM x0 x1 x2 x3 x4 x5 x6 x7 x8 y0 y1 y2 y3 y4 y5 y6 y7 y8 M2 N3 R3 R4 a6 b4;obtain⟨x0,x1,x2,x3,x4,x5,x6,x7,x8⟩:=AD N7;have PV:=Fn _ _ _ _ _ _ _ P w4 R7 hs
 unfold AO at PV;go_wp2_with fail;refine PV.mono ?_;rintro e w5 ⟨rfl,b5⟩;clear x0 x1 x2 x3 x4 x5 x6 x7 x8 PV;have R5:=R5.below b5;have R6:=R6.below b5;have R7:=R7.below b5;have N5:=AC N5 b5;have N6:=AC N6 b5;have N7:=AC N7 b5;have ae:=a5.trans (b5.mono a5.size);clear b5 a5
 by_cases hg:Bg P=true/\0<=n/\n<16
 .obtain⟨cr,h0,cT⟩:=hg
  obtain⟨a,rfl⟩:=Int.eq_ofNat_of_zero_le h0;have hP:=Dl.1 cr;obtain⟨bb,a9⟩:=U5 hP (a:=a) (by omega);rw[<-HT.out] at bb a9;have CF:=Mm (.slice bi am ay) (.slice bl ar a0) (.slice bm au a1) (.slice bn av a2) (.slice bf al ax) (.slice bk aq az) _ P w5 R7.2.2.2 (by rw[hP.zO];decide);have CI:=AA (λW (hW:Below w5.heap.size w5 W)=>LG _ P.zV.zZ W (BD.below R7.1.2.1 hW) (At hP.k).2.1);have cQ:P.zV.zZ.countP (λx=>decide (x.k=0))<=12:=by have:=List.countP_le_length (p:=λx:AU=>decide (x.k=0)) (l:=P.zV.zZ);have:=hP.k.len;omega
  have a8:=Ni (l:=P.zY) (wh:=1);rw[hP.zO] at a8;unfold AO at CF;have cO:=AA a9;have ai:=AA bb;clear a9 bb hP HT;rw[cr];generalize Ac P.zY 1=c at*;generalize P.zV.zZ.countP (λx=>decide (x.k=0))=f at*;obtain⟨x0,x1,x2,x3,x4,x5,x6,x7,x8⟩:=AD N7;go_wp2_with fail;refine CF.mono ?_;rintro e w6 ⟨rfl,b6⟩;clear x0 x1 x2 x3 x4 x5 x6 x7 x8 CF;have a4:=ae.trans (b6.mono ae.size);have N8:=AC N7 b6;obtain⟨x0,x1,x2,x3,x4,x5,x6,x7,x8⟩:=AD N8
  by_cases hc:0<c
  .have ab:T.2=true:=by rw[ai.out];simp[hc]
   have cS:(0:Int)<c:=by omega
   rw[ab];go_wp2_with fail;go_ret;exact⟨rfl,a4⟩
  .obtain rfl:c=0:=by omega
   go_wp2_with fail;refine(CI.out _ b6).mono ?_;rintro e w7 ⟨rfl,b7⟩;have a3:=a4.trans (b7.mono a4.size)
   by_cases hf:0<f
   .have ab:T.2=true:=by rw[ai.out];simp[hf]
    have cR:(0:Int)<f:=by omega
    rw[ab];go_wp2_with fail;go_ret;exact⟨rfl,a3⟩
   .obtain rfl:f=0:=by omega
    have ab:T.2=false:=by rw[ai.out];rfl
    have cs:=cO.out ab;have be:=b6.trans (b7.mono b6.size);rw[cs] at R5 N5;have SM:=FB _ _ _ _ _ _ _ _ _ _ _ _ _ _ P _ (R5.below be) (R7.below be);unfold AO at SM;rw[ab];clear x0 x1 x2 x3 x4 x5 x6 x7 x8;obtain⟨x0,x1,x2,x3,x4,x5,x6,x7,x8⟩:=AD (AC N8 b7);obtain⟨y0,y1,y2,y3,y4,y5,y6,y7,y8⟩:=AD (AC N5 be);clear ai cO ab cs;go_wp2_with fail;refine SM.mono ?_;rintro e w8 ⟨rfl,b8⟩;go_wp2_with fail;go_ret;exact⟨rfl,a3.trans (b8.mono a3.size)⟩
 .have SM:=FB _ _ _ _ _ _ _ _ _ _ _ _ _ _ T.1 _ R5 R6
  unfold AO at SM;obtain⟨x0,x1,x2,x3,x4,x5,x6,x7,x8⟩:=AD N5;obtain⟨y0,y1,y2,y3,y4,y5,y6,y7,y8⟩:=AD N6;have h3:Bg P=false∨(Bg P=true/\n<0)∨(Bg P=true/\0<=n/\16<=n):=by
   cases hp:Bg P
   .exact .inl rfl
   .rcases Int.lt_or_le n 0 with h|h
    .exact .inr (.inl ⟨rfl,h⟩)
    .exact .inr (.inr ⟨rfl,h,Int.not_lt.1 λh'=>hg ⟨hp,h,h'⟩⟩)
  clear hg
  rcases h3 with h3|⟨h3,h4⟩|⟨h3,h4,h5⟩<;>rw[h3]<;>clear h3<;>go_wp2_with fail
  all_goals
   refine SM.mono ?_;rintro e w6 ⟨rfl,b6⟩;go_wp2_with fail;go_ret;exact⟨rfl,ae.trans (b6.mono ae.size)⟩
end Go.Proofs.YtpdjjjdkhedibaaGreatDoor
