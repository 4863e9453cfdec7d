/-
  Packed:1 texts.
-/
import Derived.Test.YtpdjjjdkhedibaaGreatDoorY1
import Derived.Test.YtpdjjjdkhedibaaGreatDoorY6
import Derived.Test.YtpdjjjdkhedibaaGreatDoorY11
set_option linter.unusedVariables false
set_option linter.unusedSimpArgs false
set_option maxHeartbeats 16000000
set_option maxRecDepth 100000
open Go Go.Proofs.YtpdjjjdkhedibaaGreatDoor
namespace Go.Proofs.YtpdjjjdkhedibaaGreatDoor
open Go.Proofs.Tryz
open Go.RowKit
theorem VY{P:AR}{n x:Int}(h:(Gv P n x).2=true):Du (Gv P n x).1/\(Gg (Gv P n x).1 n).2=(x,true):=by
 obtain⟨h1,h2,h3,h4,h5⟩:=Qq h;obtain⟨a,rfl⟩:=Int.eq_ofNat_of_zero_le h2;rw[h5] at h ⊢;rw[Int.toNat_natCast] at h ⊢;have ha:a<64:=by omega
 cases hy:(BN P (a/4)).2
 .rw[Lu h1 ha hy] at h;cases h
 .have s:=Nh h1 ha h4 hy
  have l:=Wz h1 ha h4 hy;refine⟨s.2.1,?_⟩;unfold Gg;rw[if_pos (by rw[Ca.2 s.2.1,AZ.2 ⟨h2,by omega⟩];rfl),Int.toNat_natCast];exact Prod.ext l.2 l.1
theorem fnPagerStoreLoad.walkR(v:Value)(X:List Int)(w:World)(h:EP w v X):
 Calls prog 7 #[v] w λe w'=>e=.returned (.bool true)/\Below w.heap.size w w':=by
 obtain⟨ao,c,hv,hc,cC,hA⟩:=h.open;subst hv;unfold maxLen at cC
 by_cases hl:1048576<X.length
 .have t0:(1048576:Int)<X.length:=by omega
  go_in;go_wp2_with fail;go_ret;exact⟨rfl,Below.refl _ _⟩
 have t0:¬(1048576:Int)<X.length:=by omega
 go_in;go_wp2_with fail;refine(Jf _ X _ h).mono ?_;rintro e w1 ⟨m1,i1,e1,c1,s1,l1,q1,P,n,xw,rfl,R1,hs,b1⟩;clear hA h;obtain⟨⟨⟨c8,bt,cl,rfl⟩,⟨de,bN,cs,rfl⟩,⟨dh,b6,cw,rfl⟩,⟨dk,b9,cz,rfl⟩⟩,⟨cP,bl,cc,rfl⟩,⟨db,bx,cp,rfl⟩,⟨c5,bp,cg,rfl⟩⟩:=R1.shp;unfold AN;obtain⟨N1,bA⟩:=Dd w1 (.cells #[.slice c8 bt cl,.slice de bN cs,.slice dh b6 cw,.slice dk b9 cz,.slice cP bl cc,.slice db bx cp,.slice c5 bp cg,.int .i64 P.zR,.int .i64 P.zU] 32);have R2:=R1.below bA;obtain⟨T,hT⟩:∃T,T=Gv P n xw:=⟨_,rfl⟩
 have z:=Zr _ _ _ _ _ _ _ P n xw _ R2 hs;rw[<-hT] at z;unfold ap at z;have Y:=AA hT;clear hT;have ai:=b1.trans (bA.mono b1.size);unfold AN at z;obtain⟨A,D,E,H,J,K,L,N,O⟩:=AD N1;go_wp2_with fail;generalize w1.alloc _=W1 at*;generalize w1.heap.size=gp at*;refine z.mono ?_;rintro e w2 ⟨m2,i2,e2,c2,s2,l2,q2,rfl,RI,b2⟩;clear z bA b1 R1;have RS:=R2.below b2;obtain⟨⟨⟨c7,br,ck,rfl⟩,⟨dd,bK,cr,rfl⟩,⟨dg,b0,cv,rfl⟩,⟨dj,b8,cy,rfl⟩⟩,⟨cN,bk,cb,rfl⟩,⟨da,bw,cn,rfl⟩,⟨c0,bn,ce,rfl⟩⟩:=RI.shp;obtain⟨N2,bB⟩:=Dd w2 (.cells #[.slice c7 br ck,.slice dd bK cr,.slice dg b0 cv,.slice dj b8 cy,.slice cN bk cb,.slice da bw cn,.slice c0 bn ce,.int .i64 T.1.zR,.int .i64 T.1.zU] 32);have ad:=b2.trans (bB.mono b2.size);have M1:=AB N1 ad;have CS:=Zs _ _ _ _ _ _ _ P n xw _ (RS.below bB) hs;unfold ap AN at CS;rw[<-Y.out] at CS;have bf:=RI.below bB;clear A D E H J K L N O;obtain⟨A,D,E,H,J,K,L,N,O⟩:=AD M1;go_wp2_with fail;generalize w2.alloc _=W2 at*;generalize w2.heap.size=gq at*;refine CS.mono ?_;rintro e w3 ⟨m3,i3,e3,c3,s3,l3,q3,rfl,RW,b3⟩;clear CS bB b2 RS RI;obtain⟨⟨⟨c6,bq,ci,rfl⟩,⟨dc,bD,cq,rfl⟩,⟨df,bY,cu,rfl⟩,⟨di,b7,cx,rfl⟩⟩,⟨cF,bi,ca,rfl⟩,⟨c9,bu,cm,rfl⟩,⟨cT,bm,cd,rfl⟩⟩:=RW.shp;obtain⟨N3,bC⟩:=Dd w3 (.cells #[.slice c6 bq ci,.slice dc bD cq,.slice df bY cu,.slice di b7 cx,.slice cF bi ca,.slice c9 bu cm,.slice cT bm cd,.int .i64 T.1.zR,.int .i64 T.1.zU] 32);have V:=b3.trans (bC.mono b3.size);have M2:=AB N2 V;have M3:=AB M1 V;have R3:=bf.below V;have R4:=RW.below bC;have ae:=ai.trans ((ad.trans (V.mono ad.size)).mono ai.size);have R:=EG _ _ _ _ _ _ _ _ _ _ _ _ _ _ T.1 _ R3 R4;unfold AN at R;clear A D E H J K L N O N1 M1 N2 ad V bC b3 ai R2 bf RW;obtain⟨A,D,E,H,J,K,L,N,O⟩:=AD M2;obtain⟨y0,y1,y2,y3,y4,y5,y6,y7,y8⟩:=AD N3;go_wp2_with fail;generalize w3.alloc _=W3 at*;generalize w3.heap.size=gw at*;refine R.mono ?_;rintro e w4 ⟨rfl,b4⟩;have Z:=ae.trans (b4.mono ae.size);have R5:=R3.below b4;have R6:=R4.below b4;have N5:=AB M2 b4;have N6:=AB N3 b4;clear R A D E H J K L N O y0 y1 y2 y3 y4 y5 y6 y7 y8 M2 N3 R3 R4 ae b4;cases ht:T.2
 .have R:=EG _ _ _ _ _ _ _ _ _ _ _ _ _ _ T.1 _ R5 R6
  unfold AN at R;obtain⟨A,D,E,H,J,K,L,N,O⟩:=AD N5;obtain⟨y0,y1,y2,y3,y4,y5,y6,y7,y8⟩:=AD N6;go_wp2_with (refine R.mono ?_;rintro e w5 ⟨rfl,b5⟩);go_ret;exact⟨rfl,Z.trans (b5.mono Z.size)⟩
 .obtain⟨hQ,hL⟩:=VY (P:=P) (n:=n) (x:=xw) (by rw[<-Y.out,<-ht])
  rw[<-Y.out] at hQ hL;have z:=ZQ _ _ _ _ _ _ _ T.1 n w4 R5 (CQ hQ.k);obtain⟨U,hU⟩:∃U,U=Gg T.1 n:=⟨_,rfl⟩
  rw[<-hU] at hL z;unfold AN bS AN at z;rw[hL] at z;dsimp only at z;obtain⟨A,D,E,H,J,K,L,N,O⟩:=AD N5;clear R5 R6 N6 hU hL hQ Y;go_wp2_with (refine z.mono ?_;rintro e w5 ⟨m4,i4,e4,c4,s4,l4,q4,rfl,RX,b5⟩;obtain⟨⟨⟨a7,aq,a0,rfl⟩,⟨a9,au,a2,rfl⟩,⟨bb,av,a3,rfl⟩,⟨be,ax,a4,rfl⟩⟩,⟨a5,al,ay,rfl⟩,⟨a8,ar,a1,rfl⟩,⟨a6,am,az,rfl⟩⟩:=RX.shp;have N7:=heap_alloc_new w5 (.cells #[.slice a7 aq a0,.slice a9 au a2,.slice bb av a3,.slice be ax a4,.slice a5 al ay,.slice a8 ar a1,.slice a6 am az,.int .i64 U.1.zR,.int .i64 U.1.zU] 32);replace b5:=b5.trans ((AI w5 (.cells #[.slice a7 aq a0,.slice a9 au a2,.slice bb av a3,.slice be ax a4,.slice a5 al ay,.slice a8 ar a1,.slice a6 am az,.int .i64 U.1.zR,.int .i64 U.1.zU] 32)).mono b5.size);clear z RX);go_ret;exact⟨rfl,Z.trans (b5.mono Z.size)⟩
end Go.Proofs.YtpdjjjdkhedibaaGreatDoor
