/-
  Packed:1 texts.
-/
import Derived.Test.YtpdjjjdkhedibaaGreatDoorY1
import Derived.Test.YtpdjjjdkhedibaaGreatDoorY7
import Derived.Test.YtpdjjjdkhedibaaGreatDoorY5
set_option linter.unusedVariables false
set_option linter.unusedSimpArgs false
set_option maxHeartbeats 16000000
set_option maxRecDepth 100000
open Go Go.Proofs.YtpdjjjdkhedibaaGreatDoor
namespace Go.Proofs.YtpdjjjdkhedibaaGreatDoor
open Go.Proofs.Tryz
open Go.RowKit
theorem WY{P:AR}{a:Nat}(hP:Du P)(ha:a<64):(Gg P (a:Int)).2.2=(OY P ((a/4:Nat):Int)).2/\((Gg P (a:Int)).2.2=false->(Gg P (a:Int)).1=P):=by
 have e:Gg P (a:Int)=IN P a:=by unfold Gg;rw[if_pos (by rw[Ca.2 hP,AZ.2 ⟨by omega,by omega⟩];rfl),Int.toNat_natCast]
 have e2:OY P ((a/4:Nat):Int)=BN P (a/4):=by unfold OY;rw[if_pos (by rw[Ca.2 hP,AZ.2 ⟨by omega,by omega⟩];rfl),Int.toNat_natCast]
 rw[e,e2];cases hy:(BN P (a/4)).2
 .rw[NP hP ha hy];exact⟨rfl,λ_=>rfl⟩
 .rw[(PX hP ha hy).1];exact⟨rfl,λh=>by cases h⟩
theorem fnPagerLoadRoom.walkR(v:Value)(bs:List Int)(w:World)(h:EP w v bs):
 Calls prog 3 #[v] w λe w'=>e=.returned (.bool true)/\Below w.heap.size w w':=by
 obtain⟨ao,c,hv,hc,c0,hA⟩:=h.open;subst hv;unfold maxLen at c0
 by_cases hl:1048576<bs.length
 .have t0:(1048576:Int)<bs.length:=by omega
  go_in;go_wp2_with fail;go_ret;exact⟨rfl,Below.refl _ _⟩
 have t0:¬(1048576:Int)<bs.length:=by omega
 go_in;go_wp2_with fail;refine(J3 _ bs _ h).mono ?_;rintro e w1 ⟨m1,i1,e1,c1,s1,l1,q1,P,n,rfl,R1,hs,b1⟩;clear hA h;obtain⟨⟨⟨dg,bf,cm,rfl⟩,⟨dp,br,cw,rfl⟩,⟨dt,bx,cC,rfl⟩,⟨dx,b0,cT,rfl⟩⟩,⟨c8,a4,cb,rfl⟩,⟨dk,bm,cr,rfl⟩,⟨dc,a8,cg,rfl⟩⟩:=R1.shp;unfold AN;obtain⟨N1,bA⟩:=Dd w1 (.cells #[.slice dg bf cm,.slice dp br cw,.slice dt bx cC,.slice dx b0 cT,.slice c8 a4 cb,.slice dk bm cr,.slice dc a8 cg,.int .i64 P.zR,.int .i64 P.zU] 32);have R2:=R1.below bA;obtain⟨T,hT⟩:∃T,T=Gg P n:=⟨_,rfl⟩
 have CI:=ZQ _ _ _ _ _ _ _ P n _ R2 hs;rw[<-hT] at CI;unfold bS at CI;have HT:=AA hT;clear hT;have aq:=b1.trans (bA.mono b1.size);unfold AN at CI;obtain⟨z,A,D,E,H,J,K,L,N⟩:=AD N1;go_wp2_with fail;generalize w1.alloc _=W1 at*;generalize w1.heap.size=gp at*;refine CI.mono ?_;rintro e w2 ⟨m2,i2,e2,c2,s2,l2,q2,rfl,RI,b2⟩;clear CI bA b1 R1;have RS:=R2.below b2;obtain⟨⟨⟨df,be,cl,rfl⟩,⟨dn,bq,cv,rfl⟩,⟨ds,bw,cz,rfl⟩,⟨dw,bY,cP,rfl⟩⟩,⟨c7,a3,ca,rfl⟩,⟨dj,bl,cq,rfl⟩,⟨db,a7,ce,rfl⟩⟩:=RI.shp;obtain⟨N2,bB⟩:=Dd w2 (.cells #[.slice df be cl,.slice dn bq cv,.slice ds bw cz,.slice dw bY cP,.slice c7 a3 ca,.slice dj bl cq,.slice db a7 ce,.int .i64 T.1.zR,.int .i64 T.1.zU] 32);have ad:=b2.trans (bB.mono b2.size);have M1:=AB N1 ad;have CS:=bI _ _ _ _ _ _ _ P n _ (RS.below bB) hs;unfold bS AN at CS;rw[<-HT.out] at CS;have az:=RI.below bB;clear z A D E H J K L N;obtain⟨z,A,D,E,H,J,K,L,N⟩:=AD M1;go_wp2_with fail;generalize w2.alloc _=W2 at*;generalize w2.heap.size=gq at*;refine CS.mono ?_;rintro e w3 ⟨m3,i3,e3,c3,s3,l3,q3,rfl,RW,b3⟩;clear CS bB b2 RS RI;obtain⟨⟨⟨de,bb,ck,rfl⟩,⟨dm,bp,cu,rfl⟩,⟨dr,bu,cy,rfl⟩,⟨dv,bN,cN,rfl⟩⟩,⟨c6,a2,b9,rfl⟩,⟨di,bk,cp,rfl⟩,⟨da,a6,cd,rfl⟩⟩:=RW.shp;obtain⟨N3,bC⟩:=Dd w3 (.cells #[.slice de bb ck,.slice dm bp cu,.slice dr bu cy,.slice dv bN cN,.slice c6 a2 b9,.slice di bk cp,.slice da a6 cd,.int .i64 T.1.zR,.int .i64 T.1.zU] 32);have Z:=b3.trans (bC.mono b3.size);have M2:=AB N2 Z;have M3:=AB M1 Z;have R3:=az.below Z;have R4:=RW.below bC;have am:=aq.trans ((ad.trans (Z.mono ad.size)).mono aq.size);have O:=EG _ _ _ _ _ _ _ _ _ _ _ _ _ _ T.1 _ R3 R4;unfold AN at O;have a0:=(R2.below ad).below Z;clear z A D E H J K L N N1 M1 N2 ad Z bC b3 aq R2 az RW;obtain⟨z,A,D,E,H,J,K,L,N⟩:=AD M2;obtain⟨y0,y1,y2,y3,y4,y5,y6,y7,y8⟩:=AD N3;go_wp2_with fail;generalize w3.alloc _=W3 at*;generalize w3.heap.size=gw at*;refine O.mono ?_;rintro e w4 ⟨rfl,b4⟩;have al:=am.trans (b4.mono am.size);have X:=R3.below b4;have R6:=R4.below b4;have R:=AB M2 b4;have N6:=AB N3 b4;have Y:=a0.below b4;have V:=AB M3 b4;clear a0 M3;clear O z A D E H J K L N y0 y1 y2 y3 y4 y5 y6 y7 y8 M2 N3 R3 R4 am b4;obtain⟨z,A,D,E,H,J,K,L,N⟩:=AD V;have PV:=Ey _ _ _ _ _ _ _ P w4 Y hs;unfold AN at PV;go_wp2_with fail;refine PV.mono ?_;rintro e w5 ⟨rfl,b5⟩;clear z A D E H J K L N PV;have X:=X.below b5;have R6:=R6.below b5;have Y:=Y.below b5;have R:=AB R b5;have N6:=AB N6 b5;have V:=AB V b5;have ae:=al.trans (b5.mono al.size);clear b5 al
 by_cases hg:BI P=true/\0<=n/\n<64
 .obtain⟨ax,h0,dy⟩:=hg
  obtain⟨a,rfl⟩:=Int.eq_ofNat_of_zero_le h0;obtain⟨ac,au⟩:=WY (Ca.1 ax) (a:=a) (by omega);rw[<-HT.out] at ac au;obtain⟨j,hj⟩:∃j,j=a/4:=⟨_,rfl⟩
  have q1:(a:Int)/4=(j:Int):=by omega
  rw[<-hj] at ac;have CT:=cG _ _ _ _ _ _ _ P (j:Int) w5 Y hs;unfold ap AN at CT;obtain⟨U,hU⟩:∃U,U=OY P (j:Int):=⟨_,rfl⟩
  rw[<-hU] at ac CT;rw[<-ac] at CT;clear hU;have av:=AA au;clear au ac HT hj hs;rw[ax];obtain⟨z,A,D,E,H,J,K,L,N⟩:=AD V;go_wp2_with fail;refine CT.mono ?_;rintro e w6 ⟨m4,i4,e4,c4,s4,l4,q4,rfl,RX,b6⟩;clear z A D E H J K L N CT q1;obtain⟨⟨⟨dd,a9,ci,rfl⟩,⟨dl,bn,cs,rfl⟩,⟨dq,bt,cx,rfl⟩,⟨du,bK,cF,rfl⟩⟩,⟨c5,a1,b8,rfl⟩,⟨dh,bi,cn,rfl⟩,⟨c9,a5,cc,rfl⟩⟩:=RX.shp;obtain⟨N8,bD⟩:=Dd w6 (.cells #[.slice dd a9 ci,.slice dl bn cs,.slice dq bt cx,.slice du bK cF,.slice c5 a1 b8,.slice dh bi cn,.slice c9 a5 cc,.int .i64 U.1.zR,.int .i64 U.1.zU] 32);replace b6:=b6.trans (bD.mono b6.size);clear RX bD;have ai:=ae.trans (b6.mono ae.size);cases ar:T.2.2
  .have ay:=av.out ar
   rw[ay] at X R;have O:=EG _ _ _ _ _ _ _ _ _ _ _ _ _ _ P _ (X.below b6) (Y.below b6);unfold AN at O;obtain⟨z,A,D,E,H,J,K,L,N⟩:=AD (AB V b6);obtain⟨y0,y1,y2,y3,y4,y5,y6,y7,y8⟩:=AD (AB R b6);clear av ar ay R N6 V X R6 Y;go_wp2_with (refine O.mono ?_;rintro e w7 ⟨rfl,b7⟩);go_ret;exact⟨rfl,ai.trans (b7.mono ai.size)⟩
  .clear av ar R N6 V X R6 Y
   go_wp2_with fail;go_ret;exact⟨rfl,ai⟩
 .have O:=EG _ _ _ _ _ _ _ _ _ _ _ _ _ _ T.1 _ X R6
  unfold AN at O;obtain⟨z,A,D,E,H,J,K,L,N⟩:=AD R;obtain⟨y0,y1,y2,y3,y4,y5,y6,y7,y8⟩:=AD N6;have h3:BI P=false∨(BI P=true/\n<0)∨(BI P=true/\0<=n/\64<=n):=by
   cases hp:BI P
   .exact .inl rfl
   .rcases Int.lt_or_le n 0 with h|h
    .exact .inr (.inl ⟨rfl,h⟩)
    .exact .inr (.inr ⟨rfl,h,Int.not_lt.1 λh'=>hg ⟨hp,h,h'⟩⟩)
  clear hg
  rcases h3 with h3|⟨h3,h4⟩|⟨h3,h4,h5⟩<;>rw[h3]<;>clear h3<;>go_wp2_with fail
  all_goals
   refine O.mono ?_;rintro e w6 ⟨rfl,b6⟩;go_wp2_with fail;go_ret;exact⟨rfl,ae.trans (b6.mono ae.size)⟩
end Go.Proofs.YtpdjjjdkhedibaaGreatDoor
