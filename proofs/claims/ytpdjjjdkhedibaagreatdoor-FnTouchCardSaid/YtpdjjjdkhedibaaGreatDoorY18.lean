/-
  Packed:1 texts.
-/
import Derived.Test.YtpdjjjdkhedibaaGreatDoorY1
import Derived.Test.YtpdjjjdkhedibaaGreatDoorY12
import Derived.Test.YtpdjjjdkhedibaaGreatDoorY14
import Derived.Test.YtpdjjjdkhedibaaGreatDoorY17
set_option linter.unusedVariables false
set_option linter.unusedSimpArgs false
set_option maxHeartbeats 16000000
set_option maxRecDepth 100000
open Go Go.Proofs.YtpdjjjdkhedibaaGreatDoor
namespace Go.Proofs.YtpdjjjdkhedibaaGreatDoor
open Go.Proofs.Tryz
open Go.RowKit
theorem fnTouch.walkR(v:Value)(bs:List Int)(w:World)(h:Ft w v bs):
 Calls prog 4 #[v] w λe w'=>e=.returned (.bool true)/\Below w.heap.size w w':=by
 obtain⟨ao,c,hv,hc,c5,hA⟩:=h.open;subst hv;unfold maxLen at c5
 by_cases hl:1048576<bs.length
 .have t0:(1048576:Int)<bs.length:=by omega
  go_in;go_wp2_with fail;go_ret;exact⟨rfl,Below.refl _ _⟩
 have t0:¬(1048576:Int)<bs.length:=by omega
 go_in;go_wp2_with fail;refine(GZ _ bs _ h).mono ?_;rintro e w1 ⟨m1,i1,e1,c1,s1,l1,q1,P,n,rfl,R1,hs,b1⟩;clear hA h;obtain⟨⟨⟨cj,bx,b8,rfl⟩,⟨cl,bN,ca,rfl⟩,⟨cm,bY,cb,rfl⟩,⟨cn,b0,cc,rfl⟩⟩,⟨ch,bu,b6,rfl⟩,⟨ck,bK,b9,rfl⟩,⟨ci,bw,b7,rfl⟩⟩:=R1.shp;unfold AO;have N1:=heap_alloc_new w1 (.cells #[.slice cj bx b8,.slice cl bN ca,.slice cm bY cb,.slice cn b0 cc,.slice ch bu b6,.slice ck bK b9,.slice ci bw b7,.int .i64 P.zR,.int .i64 P.zU] 32);have bA:=AE w1 (.cells #[.slice cj bx b8,.slice cl bN ca,.slice cm bY cb,.slice cn b0 cc,.slice ch bu b6,.slice ck bK b9,.slice ci bw b7,.int .i64 P.zR,.int .i64 P.zU] 32);have R2:=R1.below bA;obtain⟨T,hT⟩:∃T,T=Gj P n:=⟨_,rfl⟩
 have CI:=WU _ _ _ _ _ _ _ P n _ R2 hs;rw[<-hT] at CI;unfold aE at CI;have HT:=AA hT;clear hT;have cg:=b1.trans (bA.mono b1.size);unfold AO at CI;obtain⟨x0,x1,x2,x3,x4,x5,x6,x7,x8⟩:=AD N1;go_wp2_with fail;generalize w1.alloc _=W1 at*;generalize w1.heap.size=gp at*;refine CI.mono ?_;rintro e w2 ⟨m2,i2,e2,c2,s2,l2,q2,rfl,RI,b2⟩;clear CI bA b1 R1;have RS:=R2.below b2;obtain⟨⟨⟨bn,a2,a8,rfl⟩,⟨bq,a4,bb,rfl⟩,⟨br,a5,be,rfl⟩,⟨bt,a6,bf,rfl⟩⟩,⟨bm,a1,a7,rfl⟩,⟨bp,a3,a9,rfl⟩,⟨cU,cr,ad,rfl⟩⟩:=RI.shp;have N2:=heap_alloc_new w2 (.cells #[.slice bn a2 a8,.slice bq a4 bb,.slice br a5 be,.slice bt a6 bf,.slice bm a1 a7,.slice bp a3 a9,.slice cU cr ad,.int .i64 T.1.zR,.int .i64 T.1.zU] 32);have bB:=AE w2 (.cells #[.slice bn a2 a8,.slice bq a4 bb,.slice br a5 be,.slice bt a6 bf,.slice bm a1 a7,.slice bp a3 a9,.slice cU cr ad,.int .i64 T.1.zR,.int .i64 T.1.zU] 32);have a0:=b2.trans (bB.mono b2.size);have M1:=AC N1 a0;have CS:=WV _ _ _ _ _ _ _ P n _ (RS.below bB) hs;unfold aE AO at CS;rw[<-HT.out] at CS;have c0:=RI.below bB;clear x0 x1 x2 x3 x4 x5 x6 x7 x8;obtain⟨x0,x1,x2,x3,x4,x5,x6,x7,x8⟩:=AD M1;go_wp2_with fail;generalize w2.alloc _=W2 at*;generalize w2.heap.size=gq at*;refine CS.mono ?_;rintro e w3 ⟨m3,i3,e3,c3,s3,l3,q3,rfl,RW,b3⟩;clear CS bB b2 RS RI;obtain⟨⟨⟨cV,cs,cN,rfl⟩,⟨cX,cu,cP,rfl⟩,⟨cY,cv,cQ,rfl⟩,⟨cZ,cw,cR,rfl⟩⟩,⟨cS,cp,cL,rfl⟩,⟨cW,ct,cO,rfl⟩,⟨cT,cq,cM,rfl⟩⟩:=RW.shp;have N3:=heap_alloc_new w3 (.cells #[.slice cV cs cN,.slice cX cu cP,.slice cY cv cQ,.slice cZ cw cR,.slice cS cp cL,.slice cW ct cO,.slice cT cq cM,.int .i64 T.1.zR,.int .i64 T.1.zU] 32);have bC:=AE w3 (.cells #[.slice cV cs cN,.slice cX cu cP,.slice cY cv cQ,.slice cZ cw cR,.slice cS cp cL,.slice cW ct cO,.slice cT cq cM,.int .i64 T.1.zR,.int .i64 T.1.zU] 32);have ae:=b3.trans (bC.mono b3.size);have M2:=AC N2 ae;have M3:=AC M1 ae;have R3:=c0.below ae;have R4:=RW.below bC;have ce:=cg.trans ((a0.trans (ae.mono a0.size)).mono cg.size);have SM:=FB _ _ _ _ _ _ _ _ _ _ _ _ _ _ T.1 _ R3 R4;unfold AO at SM;have c4:=(R2.below a0).below ae;clear x0 x1 x2 x3 x4 x5 x6 x7 x8 N1 M1 N2 a0 ae bC b3 cg R2 c0 RW;obtain⟨x0,x1,x2,x3,x4,x5,x6,x7,x8⟩:=AD M2;obtain⟨y0,y1,y2,y3,y4,y5,y6,y7,y8⟩:=AD N3;go_wp2_with fail;generalize w3.alloc _=W3 at*;generalize w3.heap.size=gw at*;refine SM.mono ?_;rintro e w4 ⟨rfl,b4⟩;have bk:=ce.trans (b4.mono ce.size);have R5:=R3.below b4;have R6:=R4.below b4;have N5:=AC M2 b4;have N6:=AC N3 b4;have R7:=c4.below b4;have N7:=AC M3 b4;clear c4 M3;clear SM x0 x1 x2 x3 x4 x5 x6 x7 x8 y0 y1 y2 y3 y4 y5 y6 y7 y8 M2 N3 R3 R4 ce b4;cases ht:T.2
 .have SM:=FB _ _ _ _ _ _ _ _ _ _ _ _ _ _ T.1 _ R5 R6
  unfold AO at SM;obtain⟨x0,x1,x2,x3,x4,x5,x6,x7,x8⟩:=AD N5;obtain⟨y0,y1,y2,y3,y4,y5,y6,y7,y8⟩:=AD N6;go_wp2_with fail;refine SM.mono ?_;rintro e w5 ⟨rfl,b5⟩;go_wp2_with fail;go_ret;exact⟨rfl,bk.trans (b5.mono bk.size)⟩
 .obtain⟨hP,h0,da,bl⟩:=QU (P:=P) (n:=n) (by rw[<-HT.out,<-ht])
  obtain⟨a,rfl⟩:=Int.eq_ofNat_of_zero_le h0;rw[Int.toNat_natCast,<-HT.out] at bl;have TO:=LZ hP (n:=a) (by omega) (by rw[<-bl,ht]);rw[<-bl] at TO;have HW:=AA (show Ff T.1 64=Ff P 64 from List.map_congr_left λi hi=>TO.words i (List.mem_range.1 hi));have CV:=AA (λW (hW:Below w4.heap.size w4 W)=>by have:=G0 _ _ _ _ _ _ _ T.1 W (R5.below hW) (Ce TO.ok.k);rw[Dl.2 TO.ok] at this;exact this);have C1:=AA (λW (hW:Below w4.heap.size w4 W)=>Sh _ _ _ _ _ _ _ T.1 W (R5.below hW) TO.ok);have C2:=AA (λW (hW:Below w4.heap.size w4 W)=>Sh _ _ _ _ _ _ _ P W (R7.below hW) hP);unfold AO at CV C1 C2;obtain⟨_,_,e2,_,_,HY⟩:=BD.open DT (by decide) R5.2.2.2;have cd:=TO.ok.zO;rw[cd] at e2;cases e2;obtain⟨bz,oz,e2,bi,E0,E1,E2⟩:=HY.zq (k:=a) (by rw[cd];omega);cases e2;rw[TO.w] at E0;rw[TO.u] at E2;have ac:=AW N7;have ab:=AW N5;obtain⟨x0,x1,x2,x3,x4,x5,x6,x7,x8⟩:=AD N7;obtain⟨y0,y1,y2,y3,y4,y5,y6,y7,y8⟩:=AD N5;have H4:=AA bk;clear hP TO cd bl h0 ht HT R5 R6 R7 N6 N5 N7 hs HY E1 bk;go_wp2_with fail;refine BN 26 76 [.p gq 6,.v (.slice (some ⟨bz,oz,none⟩) 16 ad),.i ((a:Int)),.p bz (oz+a*3),.p bz (oz+a*3),.i 1,.b true,.b true,.p gq 6,.v (.slice (some ⟨bz,oz,none⟩) 16 ad),.i ((a:Int)),.p bz (oz+a*3),.p bz (oz+a*3+2),.b true,.b true,.b true,.a #[.slice bn a2 a8,.slice bq a4 bb,.slice br a5 be,.slice bt a6 bf,.slice bm a1 a7,.slice bp a3 a9,.slice (some ⟨bz,oz,none⟩) 16 ad,.int .i64 T.1.zR,.int .i64 T.1.zU],.b true,.b true,.b true,.a #[.slice bn a2 a8,.slice bq a4 bb,.slice br a5 be,.slice bt a6 bf,.slice bm a1 a7,.slice bp a3 a9,.slice (some ⟨bz,oz,none⟩) 16 ad,.int .i64 T.1.zR,.int .i64 T.1.zU],.z,.a #[.slice cj bx b8,.slice cl bN ca,.slice cm bY cb,.slice cn b0 cc,.slice ch bu b6,.slice ck bK b9,.slice ci bw b7,.int .i64 P.zR,.int .i64 P.zU],.z,.b true,.b true] (λix vv ww=>match ix with
   |21=>Aw ww vv (Ff T.1 64)
   |23=>Aw ww vv (Ff P 64)
   |_=>True) ?_ ?_ ?_
  .intro i hi o ho a wx Hb Hd hG K HK
   have cK:=bc hG ab y6;have cJ:=bc hG bi E0;have cI:=bc hG bi E2;have cH:=bc hG ab y0;have cG:=bc hG ab y1;have cF:=bc hG ab y2;have cC:=bc hG ab y3;have cz:=bc hG ab y4;have cy:=bc hG ab y5;have cx:=bc hG ab y7;have az:=bc hG ab y8;have ay:=bc hG ac x0;have ax:=bc hG ac x1;have av:=bc hG ac x2;have au:=bc hG ac x3;have ar:=bc hG ac x4;have aq:=bc hG ac x5;have am:=bc hG ac x6;have al:=bc hG ac x7;have ai:=bc hG ac x8
   match i,hi with
   |0,_|2,_|4,_|7,_|8,_|10,_|12,_|14,_|15,_|18,_|19,_|25,_=>exact sP ho HK Hb Hd
   |1,_|9,_=>exact sL ho HK Hb Hd (hl:=Yt ‹_›)
   |3,_|11,_=>exact sI ho HK Hb Hd (hr:=by clear Hd Hb HK;go_simp)
   |5,_=>exact sL ho HK Hb Hd (hl:=Fp ‹_›)
   |13,_=>exact sL ho HK Hb Hd (hl:=cE ‹_›)
   |16,_|20,_|22,_=>exact sL ho HK Hb Hd (hl:=Qz ‹_› ‹_› ‹_› ‹_› ‹_› ‹_› ‹_› ‹_› ‹_›)
   |17,_=>exact sD ho HK Hb Hd (CV.out _ hG)
   |21,_=>exact sC ho HK Hb Hd (C1.out _ hG) (by rintro e w_ ⟨v',rfl,hO,cf⟩;exact⟨_,rfl,hO.rd,cf⟩)
   |23,_=>exact sC ho HK Hb Hd (C2.out _ hG) (by rintro e w_ ⟨v',rfl,hO,cf⟩;exact⟨_,rfl,hO.rd,cf⟩)
   |6,_=>clear cK cJ cI cH cG cF cC cz cy cx az ay ax av au ar aq am al ai;obtain rfl:=yF ho;have d5:(a.tmps[55]?.getD undef)=.int .i64 1:=BM Hd 5;clear Hd Hb;refine yE ?_;go_simp;exact HK.out _ _ rfl (Below.refl _ _)
   |24,_=>clear cK cJ cI cH cG cF cC cz cy cx az ay ax av au ar aq am al ai;obtain rfl:=yF ho;have c7:Aw wx (a.tmps[71]?.getD undef) (Ff T.1 64):=BM Hd 21;have c6:Aw wx (a.tmps[73]?.getD undef) (Ff P 64):=BM Hd 23;have c8:(a.tmps[69]?.getD undef)=.bool true:=BM Hd 19;clear Hd Hb;refine AV.yes rfl rfl c8 ?_;go_simp;refine(M9 _ _ _ _ _ c7 c6).mono ?_;rintro e w_ ⟨rfl,n_,rfl⟩;exact HK.out _ _ (by show Value.bool _=Value.bool true;rw[HW.out];simp) (A8 (Below.refl _ _) _)
   |_+26,hq=>omega
  .intro i hi vv wz c9 bi hz
   match i,hi with
   |21,_|23,_=>exact(Aw.below hz bi)
   |0,_|1,_|2,_|3,_|4,_|5,_|6,_|7,_|8,_|9,_|10,_|11,_|12,_|13,_|14,_|15,_|16,_|17,_|18,_|19,_|20,_|22,_|24,_|25,_=>exact hz
   |_+26,hq=>omega
  .intro vs wx hR hG
   have co:(vs 25)=.bool true:=BW hR 25;clear hR;simp only[Aj,Ae,List.range,List.range.loop,List.foldl_cons,List.foldl_nil,co];simp;clear co;go_wp2_with fail;go_ret;exact⟨rfl,H4.out.trans (hG.mono H4.out.size)⟩
end Go.Proofs.YtpdjjjdkhedibaaGreatDoor
