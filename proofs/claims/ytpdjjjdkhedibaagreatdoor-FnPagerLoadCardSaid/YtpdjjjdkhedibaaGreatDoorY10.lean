/-
  Packed:1 texts.
-/
import Derived.Test.YtpdjjjdkhedibaaGreatDoorY1
import Derived.Test.YtpdjjjdkhedibaaGreatDoorY7
import Derived.Test.YtpdjjjdkhedibaaGreatDoorY9
set_option linter.unusedVariables false
set_option linter.unusedSimpArgs false
set_option maxHeartbeats 16000000
set_option maxRecDepth 100000
open Go Go.Proofs.YtpdjjjdkhedibaaGreatDoor
namespace Go.Proofs.YtpdjjjdkhedibaaGreatDoor
open Go.Proofs.Tryz
open Go.RowKit
theorem VJ{P:AR}{n:Int}(h:(Gg P n).2.2=true):∃a:Nat,n=a/\a<64/\Du P/\Du (Gg P n).1/\(Gg P n).2.1=Dx P a/\D8 (Gg P n).1 64=D8 P 64:=by
 obtain⟨h1,h2,h3,h4⟩:=YC h;obtain⟨a,rfl⟩:=Int.eq_ofNat_of_zero_le h2;rw[h4] at h ⊢;rw[Int.toNat_natCast] at h ⊢;have ha:a<64:=by omega
 cases hy:(BN P (a/4)).2
 .rw[NP h1 ha hy] at h;cases h
 .have s:=PX h1 ha hy
  exact⟨a,rfl,ha,h1,s.2.2.1,s.2.1,List.map_congr_left λi hi=>s.2.2.2 i (List.mem_range.1 hi)⟩
theorem fnPagerLoad.walkR(v:Value)(bs:List Int)(w:World)(h:EP w v bs):
 Calls prog 8 #[v] w λe w'=>e=.returned (.bool true)/\Below w.heap.size w w':=by
 obtain⟨ao,c,hv,hc,df,hA⟩:=h.open;subst hv;unfold maxLen at df
 by_cases hl:1048576<bs.length
 .have t0:(1048576:Int)<bs.length:=by omega
  go_in;go_wp2_with fail;go_ret;exact⟨rfl,Below.refl _ _⟩
 have t0:¬(1048576:Int)<bs.length:=by omega
 go_in;go_wp2_with fail;refine(J3 _ bs _ h).mono ?_;rintro e w1 ⟨m1,i1,e1,c1,s1,l1,q1,P,n,rfl,R1,hs,b1⟩;clear hA h;obtain⟨⟨⟨cc,a4,bp,rfl⟩,⟨ci,a8,bu,rfl⟩,⟨cl,bb,bx,rfl⟩,⟨cn,bf,bK,rfl⟩⟩,⟨b8,a0,bk,rfl⟩,⟨ce,a6,br,rfl⟩,⟨ca,a2,bm,rfl⟩⟩:=R1.shp;unfold AN;obtain⟨N1,bA⟩:=Dd w1 (.cells #[.slice cc a4 bp,.slice ci a8 bu,.slice cl bb bx,.slice cn bf bK,.slice b8 a0 bk,.slice ce a6 br,.slice ca a2 bm,.int .i64 P.zR,.int .i64 P.zU] 32);have R2:=R1.below bA;obtain⟨T,hT⟩:∃T,T=Gg P n:=⟨_,rfl⟩
 have CI:=ZQ _ _ _ _ _ _ _ P n _ R2 hs;rw[<-hT] at CI;unfold bS at CI;have HT:=AA hT;clear hT;have b6:=b1.trans (bA.mono b1.size);unfold AN at CI;obtain⟨R,V,X,Y,Z,K,x6,x7,x8⟩:=AD N1;go_wp2_with fail;generalize w1.alloc _=W1 at*;generalize w1.heap.size=gp at*;refine CI.mono ?_;rintro e w2 ⟨m2,i2,e2,c2,s2,l2,q2,rfl,RI,b2⟩;clear CI bA b1 R1;have RS:=R2.below b2;obtain⟨⟨⟨cb,a3,bn,rfl⟩,⟨cg,a7,bt,rfl⟩,⟨ck,a9,bw,rfl⟩,⟨cm,be,bD,rfl⟩⟩,⟨b7,az,bi,rfl⟩,⟨cd,a5,bq,rfl⟩,⟨b9,a1,bl,rfl⟩⟩:=RI.shp;obtain⟨N2,bB⟩:=Dd w2 (.cells #[.slice cb a3 bn,.slice cg a7 bt,.slice ck a9 bw,.slice cm be bD,.slice b7 az bi,.slice cd a5 bq,.slice b9 a1 bl,.int .i64 T.1.zR,.int .i64 T.1.zU] 32);have ax:=b2.trans (bB.mono b2.size);have M1:=AB N1 ax;have CS:=bI _ _ _ _ _ _ _ P n _ (RS.below bB) hs;unfold bS AN at CS;rw[<-HT.out] at CS;have cF:=RI.below bB;clear R V X Y Z K x6 x7 x8;obtain⟨R,V,X,Y,Z,K,x6,x7,x8⟩:=AD M1;go_wp2_with fail;generalize w2.alloc _=W2 at*;generalize w2.heap.size=gq at*;refine CS.mono ?_;rintro e w3 ⟨m3,i3,e3,c3,s3,l3,q3,rfl,RW,b3⟩;clear CS bB b2 RS RI;obtain⟨⟨⟨dl,c0,da,rfl⟩,⟨dn,c5,dc,rfl⟩,⟨dp,c6,dd,rfl⟩,⟨dq,c7,de,rfl⟩⟩,⟨dj,cP,c8,rfl⟩,⟨dm,c4,db,rfl⟩,⟨dk,cT,c9,rfl⟩⟩:=RW.shp;obtain⟨N3,bC⟩:=Dd w3 (.cells #[.slice dl c0 da,.slice dn c5 dc,.slice dp c6 dd,.slice dq c7 de,.slice dj cP c8,.slice dm c4 db,.slice dk cT c9,.int .i64 T.1.zR,.int .i64 T.1.zU] 32);have ad:=b3.trans (bC.mono b3.size);have M2:=AB N2 ad;have M3:=AB M1 ad;have R3:=cF.below ad;have R4:=RW.below bC;have bY:=b6.trans ((ax.trans (ad.mono ax.size)).mono b6.size);have SM:=EG _ _ _ _ _ _ _ _ _ _ _ _ _ _ T.1 _ R3 R4;unfold AN at SM;have cN:=(R2.below ax).below ad;clear R V X Y Z K x6 x7 x8 N1 M1 N2 ax ad bC b3 b6 R2 cF RW;obtain⟨R,V,X,Y,Z,K,x6,x7,x8⟩:=AD M2;obtain⟨y0,y1,y2,y3,y4,y5,y6,y7,y8⟩:=AD N3;go_wp2_with fail;generalize w3.alloc _=W3 at*;generalize w3.heap.size=gw at*;refine SM.mono ?_;rintro e O ⟨rfl,b4⟩;have ay:=bY.trans (b4.mono bY.size);have R5:=R3.below b4;have R6:=R4.below b4;have N5:=AB M2 b4;have N6:=AB N3 b4;have R7:=cN.below b4;have N7:=AB M3 b4;clear cN M3;clear SM R V X Y Z K x6 x7 x8 y0 y1 y2 y3 y4 y5 y6 y7 y8 M2 N3 R3 R4 bY b4;cases ht:T.2.2
 .have SM:=EG _ _ _ _ _ _ _ _ _ _ _ _ _ _ T.1 _ R5 R6
  unfold AN at SM;obtain⟨R,V,X,Y,Z,K,x6,x7,x8⟩:=AD N5;obtain⟨y0,y1,y2,y3,y4,y5,y6,y7,y8⟩:=AD N6;go_wp2_with (refine SM.mono ?_;rintro e w5 ⟨rfl,b5⟩);go_ret;exact⟨rfl,ay.trans (b5.mono ay.size)⟩
 .obtain⟨a,rfl,ha,hP,hQ,bN,D⟩:=VJ (P:=P) (n:=n) (by rw[<-HT.out,<-ht])
  rw[<-HT.out] at hQ bN D;have HW:=AA D;have CP:=AA (λW (D:Below O.heap.size O W)=>MS _ _ _ _ _ _ _ P W (R7.below D) hP ha);have CV:=AA (λW (D:Below O.heap.size O W)=>by have:=GF _ _ _ _ _ _ _ T.1 W (R5.below D) (CQ hQ.k);rw[Ca.2 hQ] at this;exact this);have C1:=AA (λW (D:Below O.heap.size O W)=>MN _ _ _ _ _ _ _ T.1 W (R5.below D) hQ);have C2:=AA (λW (D:Below O.heap.size O W)=>MN _ _ _ _ _ _ _ P W (R7.below D) hP);unfold AN at CP CV C1 C2;rw[bN];generalize Dx P a=wd at*;have H:=AW N7;have E:=AW N5;obtain⟨R,V,X,Y,Z,K,x6,x7,x8⟩:=AD N7;obtain⟨y0,y1,y2,y3,y4,y5,y6,y7,y8⟩:=AD N5;have H4:=AA ay;clear hP hQ bN D ht HT R5 R6 R7 N6 N5 N7 hs ay ha;go_wp2_with fail;refine BR 16 80 [.i wd,.a #[.slice cc a4 bp,.slice ci a8 bu,.slice cl bb bx,.slice cn bf bK,.slice b8 a0 bk,.slice ce a6 br,.slice ca a2 bm,.int .i64 P.zR,.int .i64 P.zU],.i ((a:Int)),.i wd,.b true,.b true,.a #[.slice cb a3 bn,.slice cg a7 bt,.slice ck a9 bw,.slice cm be bD,.slice b7 az bi,.slice cd a5 bq,.slice b9 a1 bl,.int .i64 T.1.zR,.int .i64 T.1.zU],.b true,.b true,.b true,.a #[.slice cb a3 bn,.slice cg a7 bt,.slice ck a9 bw,.slice cm be bD,.slice b7 az bi,.slice cd a5 bq,.slice b9 a1 bl,.int .i64 T.1.zR,.int .i64 T.1.zU],.z,.a #[.slice cc a4 bp,.slice ci a8 bu,.slice cl bb bx,.slice cn bf bK,.slice b8 a0 bk,.slice ce a6 br,.slice ca a2 bm,.int .i64 P.zR,.int .i64 P.zU],.z,.b true,.b true] (λix vv ww=>match ix with
   |11=>Ax ww vv (D8 T.1 64)
   |13=>Ax ww vv (D8 P 64)
   |_=>True) ?_ ?_ ?_
  .intro i hi o N a wx L A z x5 J
   have cC:=bc z H R;have cz:=bc z H V;have cy:=bc z H X;have cx:=bc z H Y;have cw:=bc z H Z;have cv:=bc z H K;have cu:=bc z H x6;have cs:=bc z H x7;have cr:=bc z H x8;have cq:=bc z E y0;have av:=bc z E y1;have au:=bc z E y2;have ar:=bc z E y3;have aq:=bc z E y4;have am:=bc z E y5;have al:=bc z E y6;have ai:=bc z E y7;have ae:=bc z E y8
   match i,hi with
   |0,_|2,_|5,_|8,_|9,_|15,_=>exact sP N J L A
   |1,_|6,_|10,_|12,_=>exact sL N J L A (hl:=Tz ‹_› ‹_› ‹_› ‹_› ‹_› ‹_› ‹_› ‹_› ‹_›)
   |3,_=>exact sD N J L A (CP.out _ z)
   |7,_=>exact sD N J L A (CV.out _ z)
   |11,_=>exact sC N J L A (C1.out _ z) (by rintro e w_ ⟨v',rfl,hO,b0⟩;exact⟨_,rfl,hO.rd,b0⟩)
   |13,_=>exact sC N J L A (C2.out _ z) (by rintro e w_ ⟨v',rfl,hO,b0⟩;exact⟨_,rfl,hO.rd,b0⟩)
   |4,_=>clear cC cz cy cx cw cv cu cs cr cq av au ar aq am al ai ae;obtain rfl:=yF N;have d0:(a.tmps[64]?.getD undef)=.int .i64 wd:=Ba A 0;have d3:(a.tmps[67]?.getD undef)=.int .i64 wd:=Ba A 3;clear A L;refine yE ?_;go_simp;exact J.out _ _ rfl (Below.refl _ _)
   |14,_=>clear cC cz cy cx cw cv cu cs cr cq av au ar aq am al ai ae;obtain rfl:=yF N;have di:Ax wx (a.tmps[75]?.getD undef) (D8 T.1 64):=Ba A 11;have dh:Ax wx (a.tmps[77]?.getD undef) (D8 P 64):=Ba A 13;have d9:(a.tmps[73]?.getD undef)=.bool true:=Ba A 9;clear A L;refine AX.yes rfl rfl d9 ?_;go_simp;refine(LA _ _ _ _ _ di dh).mono ?_;rintro e w_ ⟨rfl,n_,rfl⟩;exact J.out _ _ (by show Value.bool _=Value.bool true;rw[HW.out];simp) (Av (Below.refl _ _) _)
   |_+16,hq=>omega
  .intro i hi vv wz dr dg hz
   match i,hi with
   |11,_|13,_=>exact(Ax.below hz dg)
   |0,_|1,_|2,_|3,_|4,_|5,_|6,_|7,_|8,_|9,_|10,_|12,_|14,_|15,_=>exact hz
   |_+16,hq=>omega
  .intro vs wx hR z
   have cp:(vs 15)=.bool true:=BS hR 15;clear hR;simp only[Ak,Ah,List.range,List.range.loop,List.foldl_cons,List.foldl_nil,cp];simp;clear cp;go_wp2_with fail;go_ret;exact⟨rfl,H4.out.trans (z.mono H4.out.size)⟩
end Go.Proofs.YtpdjjjdkhedibaaGreatDoor
