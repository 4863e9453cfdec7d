/-
  Packed:1 texts.
-/
import Derived.Test.YtlcnbkkcplllhaaGreatDoorY1
import Derived.Test.YtlcnbkkcplllhaaGreatDoorY7
import Derived.Test.YtlcnbkkcplllhaaGreatDoorY6
set_option linter.unusedVariables false
set_option linter.unusedSimpArgs false
set_option maxHeartbeats 16000000
set_option maxRecDepth 100000
open Go Go.Proofs.YtlcnbkkcplllhaaGreatDoor
namespace Go.Proofs.YtlcnbkkcplllhaaGreatDoor
open Go.Proofs.Tryz
open Go.RowKit
theorem Sh{P:AP}{a:Nat}(ha:a<64)(h:(Os P (a:Int)).2.2=true):Dd P/\(Os P (a:Int)).2.1=Fu P a:=by
 obtain⟨h1,h2,h3,h4⟩:=aN h;rw[h4] at h ⊢;rw[Int.toNat_natCast] at h ⊢;cases hy:(Bm P (a/4)).2
 .rw[Ot h1 ha hy] at h;cases h
 exact⟨h1,(Q8 h1 ha hy).2.1⟩
theorem fnOtherLoad.walkR(v:Value)(bs:List Int)(v':Value)(Z:List Int)(w:World)(h:Fn w v bs)(h':Fn w v' Z):
 Calls prog 3 #[v,v'] w λe w'=>e=.returned (.bool true)/\Below w w w':=by
 obtain⟨ao,c,hv,hc,ed,hA⟩:=h.open;subst hv;unfold maxLen at ed;obtain⟨f4,c',ec,f3,am,ee⟩:=h'.open;subst ec;unfold maxLen at am
 by_cases hl:1048576<bs.length
 .have t0:(1048576:Int)<bs.length:=ω
  go_in;go_wp2;go_ret;exact⟨rfl,Below.refl _ _⟩
 have t0:¬(1048576:Int)<bs.length:=ω;by_cases fz:1048576<Z.length
 .have a2:(1048576:Int)<Z.length:=ω
  go_in;go_wp2;go_ret;exact⟨rfl,Below.refl _ _⟩
 have a2:¬(1048576:Int)<Z.length:=ω;clear ee h';go_in;go_wp2_with fail;refine(Nn _ bs _ h).mono ?_;rintro e w1 ⟨m1,i1,e1,c1,s1,l1,q1,P,call,rfl,R1,⟨hs,_⟩,⟨fy,f2⟩,b1⟩;clear hA h;obtain⟨⟨⟨e0,bn,cP,rfl⟩,⟨fk,bP,d0,rfl⟩,⟨fp,b8,d5,rfl⟩,⟨fv,cl,ea,rfl⟩⟩,⟨el,a7,cr,rfl⟩,⟨fa,bu,c8,rfl⟩,⟨ev,bf,cy,rfl⟩⟩:=R1.shp;obtain⟨T,hT⟩:∃T,T=MZ P call:=⟨_,rfl⟩
 have HT:=AA hT;have ay:=AA (λm i e c s l q W (hR:JA W m i e c s l q P)=>by have:=gF m i e c s l q P call W hR hs μ ω;rw[<-hT] at this;exact this);have ax:=AA (λm i e c s l q W (hR:JA W m i e c s l q P)=>by have:=gG m i e c s l q P call W hR hs μ ω;rw[<-hT] at this;exact this);unfold iB AN at ay ax;unfold AN;clear hT;obtain⟨ck,ce,ca,cb,cc,nm⟩:=call;obtain⟨N1,NC,bA,fx⟩:=FR w1 (.cells #[.slice e0 bn cP,.slice fk bP d0,.slice fp b8 d5,.slice fv cl ea,.slice el a7 cr,.slice fa bu c8,.slice ev bf cy,P.FU,P.VO] 32) (.cells #[ck,ce,ca,cb,cc,nm] 34);have R2:=R1.below bA;have CI:=ay _ _ _ _ _ _ _ _ R2;have ar:=b1.trans (bA.mono b1.size);obtain⟨A,D,E,H,J,K,L,N,O⟩:=AC N1;obtain⟨u0,u1,u2,u3,u4,u5⟩:=FE NC;dsimp only[AT.cs] at CI ⊢;go_wp2_with fail;generalize(w1.alloc _).alloc _=W1 at*;generalize w1.heap.size=gp at*;refine CI.mono ?_;rintro e w2 ⟨m2,i2,e2,c2,s2,l2,q2,rfl,RI,b2⟩;clear CI bA b1 R1 ay;have RS:=R2.below b2;obtain⟨⟨⟨eL,bm,cN,rfl⟩,⟨fg,bL,dr,rfl⟩,⟨fo,b7,d4,rfl⟩,⟨ft,ci,d9,rfl⟩⟩,⟨ek,a6,cq,rfl⟩,⟨e9,bt,c7,rfl⟩,⟨es,be,cx,rfl⟩⟩:=RI.shp;obtain⟨N2,bB⟩:=EU w2 (.cells #[.slice eL bm cN,.slice fg bL dr,.slice fo b7 d4,.slice ft ci d9,.slice ek a6 cq,.slice e9 bt c7,.slice es be cx,T.1.FU,T.1.VO] 32);have ai:=b2.trans (bB.mono b2.size);have M1:=AB N1 ai;have MC:=AB NC ai;have CS:=ax _ _ _ _ _ _ _ _ (RS.below bB);have az:=RI.below bB;clear A D E H J K L N O u0 u1 u2 u3 u4 u5;obtain⟨A,D,E,H,J,K,L,N,O⟩:=AC M1;obtain⟨u0,u1,u2,u3,u4,u5⟩:=FE MC;dsimp only[AT.cs] at CS;go_wp2_with fail;generalize w2.alloc _=W2 at*;generalize w2.heap.size=gq at*;refine CS.mono ?_;rintro e w3 ⟨m3,i3,e3,c3,s3,l3,q3,rfl,RW,b3⟩;clear CS bB b2 RS RI ax;obtain⟨⟨⟨eD,bl,cF,rfl⟩,⟨fd,bK,dg,rfl⟩,⟨fn,b0,d3,rfl⟩,⟨fs,cg,d8,rfl⟩⟩,⟨ej,a5,cp,rfl⟩,⟨e8,br,c6,rfl⟩,⟨er,bb,cw,rfl⟩⟩:=RW.shp;obtain⟨N3,bC⟩:=EU w3 (.cells #[.slice eD bl cF,.slice fd bK dg,.slice fn b0 d3,.slice fs cg d8,.slice ej a5 cp,.slice e8 br c6,.slice er bb cw,T.1.FU,T.1.VO] 32);have R:=b3.trans (bC.mono b3.size);have M2:=AB N2 R;have M3:=AB M1 R;have a1:=AB MC R;have R3:=az.below R;have R4:=RW.below bC;have aq:=ar.trans ((ai.trans (R.mono ai.size)).mono ar.size);have V:=F8 _ _ _ _ _ _ _ _ _ _ _ _ _ _ T.1 _ R3 R4;unfold AN at V;have a0:=(R2.below ai).below R;clear A D E H J K L N O u0 u1 u2 u3 u4 u5 N1 NC M1 MC N2 ai R bC b3 ar R2 az RW;obtain⟨A,D,E,H,J,K,L,N,O⟩:=AC M2;obtain⟨y0,y1,y2,y3,y4,y5,y6,y7,y8⟩:=AC N3
 go_wp2_with fail;generalize w3.alloc _=W3 at*;generalize w3.heap.size=gw at*;refine V.mono ?_;rintro e w4 ⟨rfl,b4⟩;have z:=aq.trans (b4.mono aq.size);have R5:=R3.below b4;have R6:=R4.below b4;have N5:=AB M2 b4;have N6:=AB N3 b4;have R7:=a0.below b4;have N7:=AB M3 b4;have NC:=AB a1 b4;clear a0 M3 a1 V A D E H J K L N O y0 y1 y2 y3 y4 y5 y6 y7 y8 M2 N3 R3 R4 aq b4
 by_cases ht:T.2=5
 .have V:=F8 _ _ _ _ _ _ _ _ _ _ _ _ _ _ T.1 _ R5 R6
  unfold AN at V;rw[ht];obtain⟨A,D,E,H,J,K,L,N,O⟩:=AC N5;obtain⟨y0,y1,y2,y3,y4,y5,y6,y7,y8⟩:=AC N6;go_wp2_with (refine V.mono ?_;rintro e w5 ⟨rfl,b5⟩);go_ret;exact⟨rfl,z.trans (b5.mono z.size)⟩
 obtain⟨hP,f1,f0,au⟩:=Yi (P:=P) (c:=⟨ck,ce,ca,cb,cc,nm⟩) (by rw[<-HT.u];exact ht)
 rw[<-HT.u] at au;have TO:=Ox hP (c:=⟨ck,ce,ca,cb,cc,nm⟩) ω;rw[<-au] at TO;obtain⟨hQ,hW⟩:=TO;obtain⟨a,ha⟩:∃a,a=Z.length%64:=⟨_,rfl⟩
 have ac:a<64:=ω;have q1:(Z.length:Int)%64=(a:Int):=ω;have LQ:=AA (λh=>(Sh (P:=T.1) ac h).2.trans (hW a ac));have LP:=AA (λh=>(Sh (P:=P) ac h).2);obtain⟨X,hX⟩:∃X,X=Os P (a:Int):=⟨_,rfl⟩
 obtain⟨Y,hY⟩:∃Y,Y=Os T.1 (a:Int):=⟨_,rfl⟩
 have C1:=fL _ _ _ _ _ _ _ P (a:Int) w4 R7 (CJ hP.k);rw[<-hX] at C1 LP;have C2:=AA (λW (hW:Below w4 w4 W)=>by have:=fL _ _ _ _ _ _ _ T.1 (a:Int) W (R5.below hW) (CJ hQ.k);rw[<-hY] at this;exact this);rw[<-hY] at LQ;unfold iE AN at C1 C2;clear hX hY ha hP hQ hW au HT R6 N6 NC hs;obtain⟨A,D,E,H,J,K,L,N,O⟩:=AC N7;go_wp2_with fail;refine C1.mono ?_;rintro e w5 ⟨m4,i4,e4,c4,s4,l4,q4,rfl,RX,b5⟩;clear A D E H J K L N O C1;obtain⟨⟨⟨ez,bk,cC,rfl⟩,⟨fc,bx,df,rfl⟩,⟨fm,bY,d2,rfl⟩,⟨fr,cd,d7,rfl⟩⟩,⟨ei,a4,cn,rfl⟩,⟨e7,bq,c0,rfl⟩,⟨en,a9,cv,rfl⟩⟩:=RX.shp;obtain⟨N8,bD⟩:=EU w5 (.cells #[.slice ez bk cC,.slice fc bx df,.slice fm bY d2,.slice fr cd d7,.slice ei a4 cn,.slice e7 bq c0,.slice en a9 cv,X.1.FU,X.1.VO] 32);have al:=b5.trans (bD.mono b5.size);have C2:=C2 _ al;obtain⟨y0,y1,y2,y3,y4,y5,y6,y7,y8⟩:=AC (AB N5 al);clear RX R5 R7 N5 N7;go_wp2_with fail;refine C2.mono ?_;rintro e w6 ⟨m5,i5,e5,c5,s5,l5,q5,rfl,RY,b6⟩;obtain⟨⟨⟨ex,bi,cz,rfl⟩,⟨fb,bw,c9,rfl⟩,⟨fl,bX,d1,rfl⟩,⟨fq,b9,d6,rfl⟩⟩,⟨ef,a3,cm,rfl⟩,⟨e6,bp,cT,rfl⟩,⟨em,a8,cu,rfl⟩⟩:=RY.shp;obtain⟨N9,bE⟩:=EU w6 (.cells #[.slice ex bi cz,.slice fb bw c9,.slice fl bX d1,.slice fq b9 d6,.slice ef a3 cm,.slice e6 bp cT,.slice em a8 cu,Y.1.FU,Y.1.VO] 32);have av:=al.trans ((b6.trans (bE.mono b6.size)).mono al.size);clear C2 RY y0 y1 y2 y3 y4 y5 y6 y7 y8;cases hx:X.2.2
 .go_wp2
  go_ret;exact⟨rfl,z.trans (av.mono z.size)⟩
 cases hy:Y.2.2
 .go_wp2
  go_ret;exact⟨rfl,z.trans (av.mono z.size)⟩
 have e1:X.2.1=Y.2.1:=(LP hx).trans (LQ hy).symm;rw[e1];go_wp2;go_ret;exact⟨rfl,z.trans (av.mono z.size)⟩
end Go.Proofs.YtlcnbkkcplllhaaGreatDoor
