/-
  Packed:1 texts.
-/
import Derived.Test.YtaopbdankjkfpaaGreatDoorY1
import Derived.Test.YtaopbdankjkfpaaGreatDoorY5
import Derived.Test.YtaopbdankjkfpaaGreatDoorY6
import Derived.Test.YtaopbdankjkfpaaGreatDoorY7
set_option linter.unusedVariables false
set_option linter.unusedSimpArgs false
set_option maxHeartbeats 16000000
set_option maxRecDepth 100000
open Go Go.Proofs.YtaopbdankjkfpaaGreatDoor
namespace Go.Proofs.YtaopbdankjkfpaaGreatDoor
open Go.Proofs.Tryz
open Go.RowKit
theorem fnOther.walkR(v:Value)(bs:List Int)(w:World)(HK:GT w v bs):
 Calls prog 4 #[v] w λe w'=>e=.returned (.bool true)/\Below w.heap.size w w':=by
 obtain⟨ao,c,hv,hc,dt,hA⟩:=HK.open;subst hv;unfold maxLen at dt
 by_cases hl:1048576<bs.length
 .have t0:(1048576:Int)<bs.length:=by omega
  go_in;go_wp2_with fail;go_ret;exact⟨rfl,Below.refl _ _⟩
 have t0:¬(1048576:Int)<bs.length:=by omega
 go_in;go_wp2_with fail;refine(Jm _ bs _ HK).mono ?_;rintro e w1 ⟨m1,i1,e1,c1,s1,l1,q1,P,call,rfl,R1,⟨hs,_⟩,⟨d7,ea⟩,b1⟩;clear hA HK;obtain⟨⟨⟨cp,bO,b9,rfl⟩,⟨cr,bY,cg,rfl⟩,⟨cu,b0,ci,rfl⟩,⟨cv,b6,cl,rfl⟩⟩,⟨cm,bL,b7,rfl⟩,⟨cq,bX,cd,rfl⟩,⟨cn,bN,b8,rfl⟩⟩:=R1.shp;obtain⟨T,hT⟩:∃T,T=LC P call:=⟨_,rfl⟩
 have HT:=AA hT;have bK:=AA (λm i e c s l q W (hR:KR W m i e c s l q P)=>by have:=Zz m i e c s l q P call W hR hs (by unfold maxLen;omega) (by omega);rw[<-hT] at this;exact this);have bx:=AA (λm i e c s l q W (hR:KR W m i e c s l q P)=>by have:=Z0 m i e c s l q P call W hR hs (by unfold maxLen;omega) (by omega);rw[<-hT] at this;exact this);unfold dT AQ at bK bx;unfold AQ;clear hT;obtain⟨ck,ce,ca,cb,cc,nm⟩:=call;obtain⟨N1,NC,bA,d5⟩:=LJ w1 (.cells #[.slice cp bO b9,.slice cr bY cg,.slice cu b0 ci,.slice cv b6 cl,.slice cm bL b7,.slice cq bX cd,.slice cn bN b8,.int .i64 P.Il,.int .i64 P.UQ] 32) (.cells #[.int .i64 ck,.int .i64 ce,.int .i64 ca,.int .i64 cb,.int .i64 cc,.string nm] 34);have R2:=R1.below bA;have CI:=bK.out _ _ _ _ _ _ _ _ R2;have bl:=b1.trans (bA.mono b1.size);obtain⟨J,L,N,O,R,V,X,Y,Z⟩:=AD N1;obtain⟨u0,u1,u2,u3,u4,u5⟩:=Dd NC;dsimp only[AU.cs] at CI ⊢;go_wp2_with fail;generalize(w1.alloc _).alloc _=W1 at*;generalize w1.heap.size=gp at*;refine CI.mono ?_;rintro e w2 ⟨m2,i2,e2,c2,s2,l2,q2,rfl,RI,b2⟩;clear CI bA b1 R1 bK;have RS:=R2.below b2;obtain⟨⟨⟨bq,aq,a8,rfl⟩,⟨bt,au,bb,rfl⟩,⟨bu,av,be,rfl⟩,⟨bw,ax,bf,rfl⟩⟩,⟨bn,al,a6,rfl⟩,⟨br,ar,a9,rfl⟩,⟨bp,am,a7,rfl⟩⟩:=RI.shp;obtain⟨N2,bB⟩:=EH w2 (.cells #[.slice bq aq a8,.slice bt au bb,.slice bu av be,.slice bw ax bf,.slice bn al a6,.slice br ar a9,.slice bp am a7,.int .i64 T.1.Il,.int .i64 T.1.UQ] 32);have ae:=b2.trans (bB.mono b2.size);have M1:=AB N1 ae;have MC:=AB NC ae;have CS:=bx.out _ _ _ _ _ _ _ _ (RS.below bB);have cw:=RI.below bB;clear J L N O R V X Y Z u0 u1 u2 u3 u4 u5;obtain⟨J,L,N,O,R,V,X,Y,Z⟩:=AD M1;obtain⟨u0,u1,u2,u3,u4,u5⟩:=Dd MC;dsimp only[AU.cs] at CS;go_wp2_with fail;generalize w2.alloc _=W2 at*;generalize w2.heap.size=gq at*;refine CS.mono ?_;rintro e w3 ⟨m3,i3,e3,c3,s3,l3,q3,rfl,RW,b3⟩;clear CS bB b2 RS RI bx;obtain⟨⟨⟨dx,cF,dn,rfl⟩,⟨dz,cP,dq,rfl⟩,⟨d0,cT,dr,rfl⟩,⟨d1,c0,ds,rfl⟩⟩,⟨dv,cz,dl,rfl⟩,⟨dy,cN,dp,rfl⟩,⟨dw,cC,dm,rfl⟩⟩:=RW.shp;obtain⟨N3,bC⟩:=EH w3 (.cells #[.slice dx cF dn,.slice dz cP dq,.slice d0 cT dr,.slice d1 c0 ds,.slice dv cz dl,.slice dy cN dp,.slice dw cC dm,.int .i64 T.1.Il,.int .i64 T.1.UQ] 32);have K:=b3.trans (bC.mono b3.size);have M2:=AB N2 K;have M3:=AB M1 K;have cy:=AB MC K;have R3:=cw.below K;have R4:=RW.below bC;have bi:=bl.trans ((ae.trans (K.mono ae.size)).mono bl.size);have SM:=Gs _ _ _ _ _ _ _ _ _ _ _ _ _ _ T.1 _ R3 R4;unfold AQ at SM;have cx:=(R2.below ae).below K;clear J L N O R V X Y Z u0 u1 u2 u3 u4 u5 N1 NC M1 MC N2 ae K bC b3 bl R2 cw RW;obtain⟨J,L,N,O,R,V,X,Y,Z⟩:=AD M2;obtain⟨y0,y1,y2,y3,y4,y5,y6,y7,y8⟩:=AD N3
 go_wp2_with fail;generalize w3.alloc _=W3 at*;generalize w3.heap.size=gw at*;refine SM.mono ?_;rintro e w4 ⟨rfl,b4⟩;have ai:=bi.trans (b4.mono bi.size);have R5:=R3.below b4;have R6:=R4.below b4;have N5:=AB M2 b4;have N6:=AB N3 b4;have R7:=cx.below b4;have N7:=AB M3 b4;have NC:=AB cy b4;clear cx M3 cy SM J L N O R V X Y Z y0 y1 y2 y3 y4 y5 y6 y7 y8 M2 N3 R3 R4 bi b4
 by_cases ht:T.2=5
 .have SM:=Gs _ _ _ _ _ _ _ _ _ _ _ _ _ _ T.1 _ R5 R6
  unfold AQ at SM;rw[ht];obtain⟨J,L,N,O,R,V,X,Y,Z⟩:=AD N5;obtain⟨y0,y1,y2,y3,y4,y5,y6,y7,y8⟩:=AD N6;go_wp2_with (refine SM.mono ?_;rintro e w5 ⟨rfl,b5⟩);go_ret;exact⟨rfl,ai.trans (b5.mono ai.size)⟩
 .obtain⟨hP,d9,d8,bm⟩:=Qj (P:=P) (c:=⟨ck,ce,ca,cb,cc,nm⟩) (by rw[<-HT.out];exact ht)
  rw[<-HT.out] at bm;have TO:=Qk hP (c:=⟨ck,ce,ca,cb,cc,nm⟩) (by omega);rw[<-bm] at TO;obtain⟨hQ,H⟩:=TO;have HW:=AA (show GC T.1 64=GC P 64 from List.map_congr_left λi hi=>H i (List.mem_range.1 hi));have CV:=AA (λW (H:Below w4.heap.size w4 W)=>by have:=IG _ _ _ _ _ _ _ T.1 W (R5.below H) (Cc hQ.k);rw[EP.2 hQ] at this;exact this);have C1:=AA (λW (H:Below w4.heap.size w4 W)=>TZ _ _ _ _ _ _ _ T.1 W (R5.below H) hQ);have C2:=AA (λW (H:Below w4.heap.size w4 W)=>TZ _ _ _ _ _ _ _ P W (R7.below H) hP);unfold AQ at CV C1 C2;have E:=AW N7;have D:=AW N5;obtain⟨J,L,N,O,R,V,X,Y,Z⟩:=AD N7;obtain⟨y0,y1,y2,y3,y4,y5,y6,y7,y8⟩:=AD N5;have H4:=AA ai;clear hP hQ H HT R5 R6 R7 N6 N5 N7 NC hs ai bm;go_wp2_with fail;refine A5 9 59 [.a #[.slice bq aq a8,.slice bt au bb,.slice bu av be,.slice bw ax bf,.slice bn al a6,.slice br ar a9,.slice bp am a7,.int .i64 T.1.Il,.int .i64 T.1.UQ],.b true,.b true,.a #[.slice bq aq a8,.slice bt au bb,.slice bu av be,.slice bw ax bf,.slice bn al a6,.slice br ar a9,.slice bp am a7,.int .i64 T.1.Il,.int .i64 T.1.UQ],.z,.a #[.slice cp bO b9,.slice cr bY cg,.slice cu b0 ci,.slice cv b6 cl,.slice cm bL b7,.slice cq bX cd,.slice cn bN b8,.int .i64 P.Il,.int .i64 P.UQ],.z,.b true,.b true] (λix vv ww=>match ix with
   |4=>Ax ww vv (GC T.1 64)
   |6=>Ax ww vv (GC P 64)
   |_=>True) ?_ ?_ ?_
  .intro i hi o ho a wx Hb A z ad h
   have dk:=bc z D y0;have dg:=bc z D y1;have df:=bc z D y2;have dd:=bc z D y3;have c9:=bc z D y4;have c8:=bc z D y5;have c7:=bc z D y6;have c6:=bc z D y7;have c5:=bc z D y8;have c4:=bc z E J;have a5:=bc z E L;have a4:=bc z E N;have a3:=bc z E O;have a2:=bc z E R;have a1:=bc z E V;have a0:=bc z E X;have az:=bc z E Y;have ay:=bc z E Z
   match i,hi with
   |0,_|3,_|5,_=>exact sL ho h Hb A (hl:=Wl ‹_› ‹_› ‹_› ‹_› ‹_› ‹_› ‹_› ‹_› ‹_›)
   |1,_=>exact sD ho h Hb A (CV.out _ z)
   |2,_|8,_=>exact sP ho h Hb A
   |4,_=>exact sC ho h Hb A (C1.out _ z) (by rintro e w_ ⟨v',rfl,hO,bk⟩;exact⟨_,rfl,hO.rd,bk⟩)
   |6,_=>exact sC ho h Hb A (C2.out _ z) (by rintro e w_ ⟨v',rfl,hO,bk⟩;exact⟨_,rfl,hO.rd,bk⟩)
   |7,_=>clear dk dg df dd c9 c8 c7 c6 c5 c4 a5 a4 a3 a2 a1 a0 az ay;obtain rfl:=yQ ho;have d4:Ax wx (a.tmps[54]?.getD undef) (GC T.1 64):=BY A 4;have d6:Ax wx (a.tmps[56]?.getD undef) (GC P 64):=BY A 6;have d2:(a.tmps[52]?.getD undef)=.bool true:=BY A 2;clear A Hb;refine AY.yes rfl rfl d2 ?_;go_simp;refine(Ns _ _ _ _ _ d4 d6).mono ?_;rintro e w_ ⟨rfl,n_,rfl⟩;exact h.out _ _ (by show Value.bool _=Value.bool true;rw[HW.out];simp) (A0 (Below.refl _ _) _)
  .intro i hi vv wz d3 du hz
   match i,hi with
   |4,_|6,_=>exact(Ax.below hz du)
   |0,_|1,_|2,_|3,_|5,_|7,_|8,_=>exact hz
  .intro vs wx hR z
   have q8:(vs 8)=.bool true:=Bg hR 8;clear hR;simp only[Aj,Ag,List.range,List.range.loop,List.foldl_cons,List.foldl_nil,q8];simp;clear q8;go_wp2_with fail;go_ret;exact⟨rfl,H4.out.trans (z.mono H4.out.size)⟩
end Go.Proofs.YtaopbdankjkfpaaGreatDoor
